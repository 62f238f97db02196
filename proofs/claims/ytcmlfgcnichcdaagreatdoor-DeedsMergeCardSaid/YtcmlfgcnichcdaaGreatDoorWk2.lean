/- Each Go function computes its plain twin,by program. -/
import Derived.Test.YtcmlfgcnichcdaaGreatDoorWk1
namespace Go.Proofs.YtcmlfgcnichcdaaGreatDoor
open Go
open Go.Proofs.Tryz
def AU (xs : List An) (j : Nat) : Array Value:=#[iV (j : Int),.agg (An.enc (nth xs (j : Int))).toArray]
theorem back_in (φ ξ : View) (n Bs : Nat) (sv : Value) (xs : List An) (hB : φ Bs = some (.cells [sv].toArray 26 (0,0))) (hs : Slc ξ 11 sv (xs.map An.enc)) (l : Nat) (J : Nat → World → Prop) (w : World) (hJ : ∀ k w,J k w → Emb φ w ∧ Emb ξ w) (h0 : J 0 w)
    (hr : ∀ k x w1,(Py xs.length)[k]? = some x → J k w1 → YieldAt (WF none) (n - 1) prog l (AU xs x) w1 fun e w'=>e = .returned (.bool true) ∧ J (k + 1) w') :
    CallsIn (WF none) n prog 74 (#[.func (.yield l) #[] #[]] ++ #[.pointer (some ⟨Bs,0,none⟩)]) w fun e w'=>(∃ v,e = .returned v) ∧ J (Py xs.length).length w':=by
  refine i_enter (vs:=[.func (.yield l) #[] #[],.pointer (some ⟨Bs,0,none⟩)]) func74 rfl ntmps74 rfl fun a S=>?_
  have hlen : (Py xs.length).length = xs.length:=by simp [Py]
  have hmx:=Iz hs
  have hQ : ∀ fn a w,¬ bodyPost prog fn (fun e w'=>(∃ v,e = .returned v) ∧ J (Py xs.length).length w') .outgrown a w:=fun _ _ _ ⟨⟨_,e⟩,_⟩=>by cases e
  have hbox : ∀ {k : Nat} {w : World},J k w → Je w Bs 0 [sv]:=fun hj=>(Gw hB).at (hJ _ _ hj).1
  have hw : ∀ k : Nat,k ≤ xs.length → W ((xs.length : Int) - 1 - (k : Int)) = (xs.length : Int) - 1 - (k : Int):=fun k hk=>Oh (by omega) (by omega)
  refine Qm (Lw (hQ f74) rfl (lv S (Ep isAgg26 (off:=0) (o:=0) (S.tm rfl) (hbox h0) rfl) rfl fun a S=>lv S (Fd Es (S.tm rfl) (Fb hs)) rfl fun a S=>lv S (Kh (S.tm rfl) rfl) rfl fun a S=>lv S (Ra (S.tm rfl)) rfl fun a S=>Ld (Tn (wpIn_block (i_loop (fun m a w'=>∃ k : Nat,k ≤ xs.length ∧ m = xs.length - k ∧ J k w' ∧ Sx w' [] nov [] [(0,.func (.yield l) #[] #[]),(1,.pointer (some ⟨Bs,0,none⟩)),(3,iV ((xs.length : Int) - 1 - (k : Int)))] 19 a w') xs.length ⟨0,Nat.zero_le _,rfl,h0,?_⟩ ?_)))))
  · have h1:=(S.rebase (w':=w)).sub (K':=[(0,.func (.yield l) #[] #[]),(1,.pointer (some ⟨Bs,0,none⟩)),(3,iV (W ((xs.length : Int) - 1)))]) (subR rfl)
    have h2:=hw 0 (Nat.zero_le _)
    rw [show (((0 : Nat) : Int)) = 0 from rfl,Int.sub_zero] at h2 ⊢
    rw [h2] at h1
    exact h1
  · clear S;rintro m a w1 ⟨k,hk,rfl,hj,S⟩
    refine Qm (Qm (Lw (hQ f74) rfl (lv S (Rm (S.tm rfl)) rfl fun a S=>lv S (Nk (S.tm rfl) rfl) rfl fun a S=>Ld (Tn (Zy (S.tm rfl) (fun hb=>?_) (fun hb=>?_))))))
    · have hb' : (0 : Int) ≤ (xs.length : Int) - 1 - (k : Int):=by simpa using hb
      have hlt : k < xs.length:=by omega
      have hx:=revI_at hlt
      have hy:=hr k _ w1 hx hj
      have hidx : ((xs.length - 1 - k : Nat) : Int) = (xs.length : Int) - 1 - (k : Int):=by omega
      refine wpIn_skip (Tn (Qm (wpIn_block (Qm (wpIn_region_lit (BW S (Rm (S.tm rfl)) (fun _ h=>by cases h) rfl fun a S=>BW S (Rm (S.tm rfl)) (fun _ h=>by cases h) rfl fun a S=>BW S (Ep isAgg26 (off:=0) (o:=0) (S.tm rfl) (hbox hj) rfl) (fun _ h=>by cases h) rfl fun a S=>BW S (Rm (S.tm rfl)) (fun _ h=>by cases h) rfl ?_))))));clear S;intro a S
      obtain ⟨b1,o1,hm1,hr1⟩:=Dt (a:=a) (x:=.tmp 13) (y:=.tmp 14) (ty:=0) Es hs (nth_q (show xs.length - 1 - k < xs.length by omega)) rfl (S.tm rfl) (S.tm (by rw [hidx];rfl))
      refine BW S (hr1 _) (fun _ h=>by cases h) rfl fun a S=>BW S (Ev isAgg33 sizeOf33 (off:=o1) (o:=0) (part:=(An.enc (nth xs ((xs.length - 1 - k : Nat) : Int)))) rfl rfl (S.tm rfl) (hm1.at (hJ _ _ hj).2)) (fun _ h=>by cases h) rfl ?_;clear S;intro a S
      have h12 : a.eval (.tmp 12) = iV (((xs.length - 1 - k : Nat)) : Int):=by rw [hidx];exact S.tm rfl
      have h16:=S.tm (t:=16) rfl
      refine n_yield S (S.tm rfl) (vs:=AU xs (xs.length - 1 - k)) (by simp [AU,h12,h16]) rfl hy ?_ (fun e w' h=>⟨_,h.1⟩)
      clear S;rintro v w2 a ⟨hv,hj2⟩ S
      obtain rfl : v = .bool true:=by injection hv
      refine BW S (Hl (S.tm rfl)) (fun _ h=>by cases h) rfl fun a S=>n_done (Tn (Zy (S.tm rfl) (fun h=>by cases h) (fun _=>wpIn_skip (Ia (Tn ?_)))))
      refine Lw (fun a w h=>hQ f74 a w h) rfl (lv S (Rm (S.tm rfl)) rfl fun a S=>lv S (Kh (S.tm rfl) rfl) rfl fun a S=>lv S (Ra (S.tm rfl)) rfl fun a S=>Ld (Tn ⟨xs.length - (k + 1),a,by omega,rfl,k + 1,hlt,rfl,hj2,?_⟩))
      have h1:=S.sub (K':=[(0,.func (.yield l) #[] #[]),(1,.pointer (some ⟨Bs,0,none⟩)),(3,iV (W ((xs.length : Int) - 1 - (k : Int) - 1)))]) (subR rfl)
      have h2:=hw (k + 1) hlt
      have h3 : (xs.length : Int) - 1 - ((k + 1 : Nat) : Int) = (xs.length : Int) - 1 - (k : Int) - 1:=by omega
      rw [h3] at h2 ⊢
      rw [h2] at h1
      exact h1
    · have hb' : ¬ (0 : Int) ≤ (xs.length : Int) - 1 - (k : Int):=by simpa using hb
      obtain rfl : k = xs.length:=by omega
      refine wpIn_exit (Et (Et (Hp ?_)))
      show bodyPost _ _ _ .normal _ _
      rw [Tc]
      refine ⟨S.nodefer,.tuple #[],by rw [results_none results74],⟨_,rfl⟩,?_⟩
      rw [hlen]
      exact hj
theorem back_ok (w : World) (sv : Value) (m : Nat) (hsl : Jd sv m) : Calls prog 54 [sv].toArray w (Ret w [] fun τ v _=>∃ Bs,v = .func (.func 74) #[] #[.pointer (some ⟨Bs,0,none⟩)] ∧ τ Bs = some (.cells [sv].toArray 26 (0,0))):=by
  refine La [] [] func54 rfl ntmps54 rfl (by simp) (by simp [fps]) (by simp [fps]) fun a S=>(Fs (Fg (Kw S (S.tm rfl) (cs:=[sv]) (Jd.cells hsl) rfl ?_)));clear S;intro a w1 b1 hz1 hk1 S
  refine lv S (Ra rfl) rfl fun a S=>Ld (Tn (Fs (Fg (lv S (Ok (us:=#[]) (vs:=#[.pointer (some ⟨b1,0,none⟩)]) (by simp) (by simp [S.tm (t:=1) rfl])) rfl fun a S=>lv S (Ra (S.tm rfl)) rfl fun a S=>Ld (Tn (wp_ret ?_))))))
  exact Dx S results54 rfl ⟨b1,rfl,blk_ret S (i:=0) rfl rfl⟩
abbrev kvP : Cz → Value:=fun x=>Value.agg (Cz.enc x).toArray
abbrev Xl (b1 b2 b3 b4 : Nat) (at_ : Int) (m : List (Cz × Bool)) (x : List Int) (v : Value) : List LEnt :=
  [.own v 3 1 x.length (x.flatMap eInt),.blk b4 [v] 22,.blk b3 [.map (some b2)] 66,.map b2 (Gy kvP Value.bool m) m.length,.blk b1 [iV at_] 3]
set_option maxRecDepth 20000 in
theorem Rt (w : World) (v_l : Value) (l : List An) (hs_l : Slc (view w []) 11 v_l (l.map An.enc)) (at_ : Int) (r : List Int) (h : Nc l at_ = some r) :
    Calls prog 37 [v_l,iV at_].toArray w (Ret w [] fun τ v _=>Mq τ 3 1 v r.length (r.flatMap eInt)):=by
  have hcons : ∀ {dn is : List Nat} {i : Nat} {k : Nat},Py l.length = dn ++ i :: is → dn.length = k → (Py l.length)[k]? = some i:=fun hd hk=>by rw [hd,← hk];simp
  have hQ : ∀ fn a w',¬ bodyPostM (WF none) 3 prog fn (Ret w [] fun τ v _=>Mq τ 3 1 v r.length (r.flatMap eInt)) .outgrown a w':=fun _ _ _ ⟨_,e,_⟩=>by cases e
  refine FI 3 func37 rfl ntmps37 rfl fun a S=>?_
  replace S:=S.nk [] [(0,v_l),(1,iV at_)] [] rfl (subR rfl)
  refine Qm (Lw (hQ f37) rfl (Kw S (S.tm rfl) (cs:=[iV at_]) rfl rfl ?_));clear S;intro a w1 b1 hz1 hk1 S
  refine lv S (Ra rfl) rfl fun a S=>Ld (Tn (Qm (Lw (hQ f37) rfl (Tp (κ:=Cz) (ν:=Bool) S rfl kvP Value.bool ?_))));clear S;intro a w2 b2 hz2 hk2 S
  refine It S zeroValue66 (cs:=[.map none]) rfl rfl ?_;clear S;intro a w3 b3 hz3 hk3 S
  refine Ef S (S.tm rfl) (S.tm rfl) (i:=0) (off:=0) rfl sizeOf66 (vs:=[.map (some b2)]) rfl rfl rfl rfl ?_;clear S;intro w4 hk4 S
  refine Ld (Tn (Qm (Lw (hQ f37) rfl (It S zeroValue22 (cs:=[.slice none 0 0]) rfl rfl ?_))));clear S;intro a w5 b4 hz5 hk5 S
  replace S:=S.nil 3 1
  refine Ld (Tn (Qm (Qm (Lw (hQ f37) rfl (lv S (Rm (S.tm rfl)) rfl ?_)))));clear S;intro a S
  have hz6:=S.keep.size
  refine De S (fun _=>Cy (vs:=[v_l]) ⟨(S.tm rfl),trivial⟩ call54) (back_ok _ v_l _ (Fb hs_l)) rfl ?_;clear S;intro v1 a w6 hv1 hk6 hn1 S
  obtain ⟨φ1,hl1,hm1,S⟩:=S.see' hn1 hz6
  obtain ⟨Bs,rfl,hB⟩:=hv1
  replace hB:=hm1 _ _ hB
  refine Ld (Tn (wpIn_block ?_))
  replace S:=S.nk (Xl b1 b2 b3 b4 at_ [] [] (.slice none 0 0)) [(3,.pointer (some ⟨b1,0,none⟩)),(5,.pointer (some ⟨b3,0,none⟩)),(6,.pointer (some ⟨b4,0,none⟩)),(11,.func (.func 74) #[] #[.pointer (some ⟨Bs,0,none⟩)])] [true,true,true,true,true] rfl (subR rfl)
  rw [Tc]
  refine i_range (n:=3) (Py l.length) (AU l) S (S.tm rfl) (fun args w=>call74 args w) (fun _=>rfl)
    (fun ll J W hJ h0 hr=>back_in φ1 (view w []) (3 - 1) Bs v_l l hB hs_l ll J W hJ h0 hr)
    (fun k L'=>∃ m x v,(∃ dn is,Py l.length = dn ++ is ∧ dn.length = k ∧ Hh l at_ is m x = some r) ∧ L' = Xl b1 b2 b3 b4 at_ m x v)
    ⟨[],[],.slice none 0 0,⟨[],_,rfl,rfl,h⟩,rfl⟩ ?_ ?_
  · clear h
    rintro ll D rec k i L' w7 hst hss hx ⟨m,x,v,⟨dn,is,hd,hk,h⟩,rfl⟩ S0
    have hact:=prms2 a 12 13 (iV (i : Int)) (.agg (An.enc (nth l (i : Int))).toArray) S0.nodefer
    obtain ⟨is',rfl⟩ : ∃ is',is = i :: is':=by
      cases is with
      | nil=>rw [hd,List.append_nil,← hk] at hx;simp at hx
      | cons j is' =>
        have:=hcons hd hk
        rw [hx] at this
        exact ⟨is',by rw [Option.some.inj this]⟩
    unfold AU
    rw [hact]
    have S:=(S0.put (d:=12) (v:=iV (i : Int)) (by decide)).put (d:=13) (v:=.agg (An.enc (nth l (i : Int))).toArray) (by decide)
    generalize ((a.put (some 12) (iV (i : Int))).put (some 13) (.agg (An.enc (nth l (i : Int))).toArray)) = a' at S
    refine Qm (Lw (fun _ _ h=>h) rfl (lv S (Ra (S.tm rfl)) rfl fun a S=>Ld (Tn (Lw (fun _ _ h=>h) rfl (It S zeroValue33 (cs:=[sV Cw,iV 0,iV 0,iV 0,sV Cw,sV Cw,sV Cw,iV 0,iV 0,sV Cw,iV 0]) rfl rfl ?_)))));clear S;intro a w8 b5 hz8 hk8 S
    refine Ef S (S.tm rfl) (S.tm rfl) (i:=0) (off:=0) rfl sizeOf33 (vs:=(An.enc (nth l (i : Int)))) rfl rfl rfl rfl ?_;clear S;intro w9 hk9 S
    refine Ld (Tn (i_begin S (i:=1) rfl (hst _) ?_));clear S;intro w10 S
    rw [hss] at S
    replace S:=S.nk (.blk b5 (An.enc (nth l (i : Int))) 33 :: .obj ll (.loop (rec .busy)) :: .obj D (.deferred (some [])) :: Xl b1 b2 b3 b4 at_ m x v) [(3,.pointer (some ⟨b1,0,none⟩)),(5,.pointer (some ⟨b3,0,none⟩)),(6,.pointer (some ⟨b4,0,none⟩)),(7,iV (i : Int)),(8,.pointer (some ⟨b5,0,none⟩))] [true,true,true,true,true,true,true,true] rfl (subR rfl)
    rw [Hh] at h
    refine wpIn_block (Qm (i_mid (fun b w'=>∃ a,b = Kv [] a ∧ Sx w [] φ1 (.blk b5 (An.enc (nth l (i : Int))) 33 :: .obj ll (.loop (rec .busy)) :: .obj D (.deferred (some [])) :: Xl b1 b2 b3 b4 at_ m x v) [(3,.pointer (some ⟨b1,0,none⟩)),(5,.pointer (some ⟨b3,0,none⟩)),(6,.pointer (some ⟨b4,0,none⟩)),(7,iV (i : Int)),(8,.pointer (some ⟨b5,0,none⟩)),(23,bV (Pi l at_ i m))] 40 a w') ?_ ?_))
    · rcases Bool.eq_false_or_eq_true (decide (at_ < ((nth l (i : Int)).At))) with hb1 | hb1
      · refine Xk [] [] Tryz.mixed rfl S rfl (by kernel_rfl) ?_;clear S;intro w11 hk11 hsel S
        refine Ip [0,1,2,3,4,5,6,7,8,9] hsel (by kernel_rfl) rfl (Er S rfl (Em Jv (S.tm rfl)) rfl fun a S=>Er S rfl (Kq isAgg3 (S.tm rfl) (S.cell (i:=0) rfl rfl)) rfl fun a S=>Er S rfl (Kq isAgg3 (S.tm rfl) (S.cell (i:=7) rfl rfl)) rfl fun a S=>Er S rfl (Jn (S.tm rfl) (S.tm rfl)) rfl fun a S=>Er S rfl (Rm (S.tm rfl)) rfl ?_);clear S;intro a S
        iterate 4 (refine Oi S rfl rfl rfl rfl (Mn hb1) rfl ?_ rfl;clear S;intro a S)
        refine Er S rfl (Ix hb1 (S.tm rfl) rfl) rfl fun a S=>Iq ?_
        have hq : Pi l at_ i m = true:=by unfold Pi;rw [hb1];rfl
        refine Tn ⟨a,rfl,?_⟩
        rw [hq]
        exact S.nk (.blk b5 (An.enc (nth l (i : Int))) 33 :: .obj ll (.loop (rec .busy)) :: .obj D (.deferred (some [])) :: Xl b1 b2 b3 b4 at_ m x v) [(3,.pointer (some ⟨b1,0,none⟩)),(5,.pointer (some ⟨b3,0,none⟩)),(6,.pointer (some ⟨b4,0,none⟩)),(7,iV (i : Int)),(8,.pointer (some ⟨b5,0,none⟩)),(23,bV true)] [true,true,true,true,true,true,true,true] rfl (subR rfl)
      · refine Xk [] [] Tryz.mixed rfl S rfl (by kernel_rfl) ?_;clear S;intro w11 hk11 hsel S
        refine Da 0 S hsel rfl rfl rfl (by kernel_rfl) (by kernel_rfl) rfl (fun _ hw=>(Em Jv (S.tm rfl))) fun a S=>Da 1 S hsel rfl rfl rfl (by kernel_rfl) (by kernel_rfl) rfl (fun _ hw=>(Ep isAgg3 (off:=0) (o:=2) (S.tm rfl) ((S.blk_mem (i:=0) (cells:=(An.enc (nth l (i : Int)))) (b:=b5) (T:=33) rfl (Gs (e':=.blk b5 (An.enc (nth l (i : Int))) 33))).kept hw) rfl)) fun a S=>Da 2 S hsel rfl rfl rfl (by kernel_rfl) (by kernel_rfl) rfl (fun _ hw=>(Ep isAgg3 (off:=0) (o:=0) (S.tm rfl) ((S.blk_mem (i:=7) (cells:=[iV at_]) (b:=b1) (T:=3) rfl (Gs (e':=.blk b1 [iV at_] 3))).kept hw) rfl)) fun a S=>Da 3 S hsel rfl rfl rfl (by kernel_rfl) (by kernel_rfl) rfl (fun _ hw=>(Jn (S.tm rfl) (S.tm rfl))) fun a S=>Da 4 S hsel rfl rfl rfl (by kernel_rfl) (by kernel_rfl) rfl (fun _ hw=>(Rm (S.tm rfl))) fun a S=>Df 5 S hsel rfl rfl rfl rfl hb1 rfl rfl (by kernel_rfl) (by kernel_rfl) rfl (fun _ hw=>(Ep isAgg66 (off:=0) (o:=0) (S.tm rfl) ((S.blk_mem (i:=5) (cells:=[.map (some b2)]) (b:=b3) (T:=66) rfl (Gs (e':=.blk b3 [.map (some b2)] 66))).kept hw) rfl)) fun a S=>Df 6 S hsel rfl rfl rfl rfl hb1 rfl rfl (by kernel_rfl) (by kernel_rfl) rfl (fun _ hw=>(Ev isAgg33 sizeOf33 (off:=0) (o:=0) (part:=(An.enc (nth l (i : Int)))) rfl rfl (S.tm rfl) ((S.blk_mem (i:=0) (cells:=(An.enc (nth l (i : Int)))) (b:=b5) (T:=33) rfl (Gs (e':=.blk b5 (An.enc (nth l (i : Int))) 33))).kept hw))) fun a S=>Ey 7 (by kernel_rfl) rfl (Db S rfl rfl rfl hb1 (De S (fun _=>Cy (vs:=[.agg (An.enc (nth l (i : Int))).toArray]) ⟨(S.tm rfl),trivial⟩ call33) (Na _ (nth l (i : Int)) _ rfl) rfl ?_));clear S;intro v3 a w12 hv2 hk9 hn2 S
        subst hv2
        refine Ld (Fz hk9 (Ip [8,9] hsel (by kernel_rfl) rfl ?_))
        refine Gt S rfl rfl rfl rfl hb1 (Hv S (Rk (kv:=kvP) (vv:=Value.bool) (m:=m) (key:=(Cx (nth l (i : Int)))) (z:=false) (S.map_at (i:=6) rfl) underlying66 Ts zeroValue4 (S.tm rfl) (S.tm rfl)) rfl fun a S=>Er S rfl (Iy hb1 (S.tm rfl) (S.tm rfl)) rfl fun a S=>Iq ?_)
        have hq : Pi l at_ i m = Dw m (Cx (nth l (i : Int))) false:=by unfold Pi;rw [hb1];rfl
        refine Tn ⟨a,rfl,?_⟩
        rw [hq]
        exact S.nk (.blk b5 (An.enc (nth l (i : Int))) 33 :: .obj ll (.loop (rec .busy)) :: .obj D (.deferred (some [])) :: Xl b1 b2 b3 b4 at_ m x v) [(3,.pointer (some ⟨b1,0,none⟩)),(5,.pointer (some ⟨b3,0,none⟩)),(6,.pointer (some ⟨b4,0,none⟩)),(7,iV (i : Int)),(8,.pointer (some ⟨b5,0,none⟩)),(23,bV (Dw m (Cx (nth l (i : Int))) false))] [true,true,true,true,true,true,true,true] rfl (subR rfl)
    · clear S;rintro _ w11 ⟨a,rfl,S⟩
      refine Zy (S.tm rfl) (fun hb2=>?_) (fun hb2=>?_)
      · rw [if_pos hb2] at h
        refine wpIn_exit (Et (Hp ?_))
        exact ⟨_,⟨m,x,v,⟨dn ++ [i],is',by rw [hd];simp,by simp [hk],h⟩,rfl⟩,S0.back (S.nk (.obj ll (.loop (rec .busy)) :: .obj D (.deferred (some [])) :: Xl b1 b2 b3 b4 at_ m x v) [] [false,true,true,true,true,true,true,true] rfl (subR rfl))⟩
      · rw [if_neg (by rw [hb2];simp)] at h
        obtain ⟨hc2,h⟩:=Hw h
        refine wpIn_skip (Tn (i_mid (fun b w'=>∃ a,b = Kv [] a ∧ Sx w [] φ1 (.blk b5 (An.enc (nth l (i : Int))) 33 :: .obj ll (.loop (rec .busy)) :: .obj D (.deferred (some [])) :: Xl b1 b2 b3 b4 at_ (if decide ((nth l (i : Int)).Kind = 4) = true then Ff m (Cz.mk ((nth l (i : Int)).Of) ((nth l (i : Int)).Other)) true else m) x v) [(6,.pointer (some ⟨b4,0,none⟩)),(7,iV (i : Int)),(8,.pointer (some ⟨b5,0,none⟩))] 40 a w') ?_ ?_))
        · refine Qm (Lw (fun _ _ h=>h) rfl (lv S (Em Jm (S.tm rfl)) rfl ?_));clear S;intro a S
          refine lv S (Kq isAgg3 (S.tm rfl) (S.cell (i:=0) rfl rfl)) rfl fun a S=>lv S (Hi (S.tm rfl) rfl) rfl fun a S=>Ld (Tn (Zy (S.tm rfl) (fun hb3=>?_) (fun hb3=>?_)))
          · rw [if_pos hb3]
            refine Lw (fun _ _ h=>h) rfl (lv S (Kq isAgg66 (S.tm rfl) (S.cell (i:=5) rfl rfl)) rfl fun a S=>lv S (Em Oe (S.tm rfl)) rfl fun a S=>lv S (Kq isAgg9 (S.tm rfl) (S.cell (i:=0) rfl rfl)) rfl fun a S=>lv S (Em Mg (S.tm rfl)) rfl fun a S=>lv S (Kq isAgg3 (S.tm rfl) (S.cell (i:=0) rfl rfl)) rfl fun a S=>lv S (Nw bt_60 (pv:=[(0,sV ((nth l (i : Int)).Of)),(1,iV ((nth l (i : Int)).Other))]) ⟨rfl,(S.tm rfl),rfl,(S.tm rfl),trivial⟩ (cs:=[sV ((nth l (i : Int)).Of),iV ((nth l (i : Int)).Other)]) (by kernel_rfl)) rfl fun a S=>Qv (kv:=kvP) (vv:=Value.bool) (m:=m) (key:=(Cz.mk ((nth l (i : Int)).Of) ((nth l (i : Int)).Other))) (val:=true) S (i:=6) rfl underlying66 Ts (S.tm rfl) (S.tm rfl) rfl ?_);clear S;intro w13 hk10 S
            refine Ld (Tn ⟨a,rfl,?_⟩)
            exact S.nk (.blk b5 (An.enc (nth l (i : Int))) 33 :: .obj ll (.loop (rec .busy)) :: .obj D (.deferred (some [])) :: Xl b1 b2 b3 b4 at_ (Ff m (Cz.mk ((nth l (i : Int)).Of) ((nth l (i : Int)).Other)) true) x v) [(6,.pointer (some ⟨b4,0,none⟩)),(7,iV (i : Int)),(8,.pointer (some ⟨b5,0,none⟩))] [true,true,true,true,true,true,true,true] rfl (subR rfl)
          · rw [if_neg (by rw [hb3];simp)]
            refine wpIn_skip (Tn ⟨a,rfl,?_⟩)
            exact S.nk (.blk b5 (An.enc (nth l (i : Int))) 33 :: .obj ll (.loop (rec .busy)) :: .obj D (.deferred (some [])) :: Xl b1 b2 b3 b4 at_ m x v) [(6,.pointer (some ⟨b4,0,none⟩)),(7,iV (i : Int)),(8,.pointer (some ⟨b5,0,none⟩))] [true,true,true,true,true,true,true,true] rfl (subR rfl)
        · clear S;rintro _ w12 ⟨a,rfl,S⟩
          generalize (if decide ((nth l (i : Int)).Kind = 4) = true then Ff m (Cz.mk ((nth l (i : Int)).Of) ((nth l (i : Int)).Other)) true else m) = m2 at h S
          refine Lw (fun _ _ h=>h) rfl (lv S (Kq isAgg22 (S.tm rfl) (S.cell (i:=4) rfl rfl)) rfl fun a S=>lv S (Rm (S.tm rfl)) rfl fun a S=>Eg S underlying22 sizeOf3 zeroValue3 rfl rfl (pv:=[(0,iV (i : Int))]) ⟨rfl,(S.tm rfl),trivial⟩ (cs:=[iV (i : Int)]) (by kernel_rfl) rfl ?_);clear S;intro a w14 b6 hz5 hk11 S
          refine Li Kz Iu S (S.tm rfl) (i:=4) rfl (S.tm rfl) (j:=0) rfl (ys:=[(i : Int)]) rfl rfl rfl rfl (by have:=Nh hc2;omega) rfl ?_;clear S;intro v4 a w15 hk12 S
          refine Ef S (S.tm rfl) (S.tm rfl) (i:=5) (off:=0) rfl sizeOf22 (vs:=[v4]) (Jd.cells (Mr (S.own_at (i:=4) rfl))) rfl rfl (all1 (Jd.one (Mr (S.own_at (i:=4) rfl))) rfl) ?_;clear S;intro w16 hk13 S
          refine Ld (Ia ?_)
          exact ⟨_,⟨m2,x ++ [(i : Int)],v4,⟨dn ++ [i],is',by rw [hd];simp,by simp [hk],h⟩,rfl⟩,S0.back (S.nk (.obj ll (.loop (rec .busy)) :: .obj D (.deferred (some [])) :: Xl b1 b2 b3 b4 at_ m2 (x ++ [(i : Int)]) v4) [] [false,false,true,true,true,true,true,true,true] rfl (subR rfl))⟩
  · rintro D ll o L' w7 ⟨m,x,v,⟨dn,is,hd,hk,h⟩,rfl⟩ S
    obtain rfl : is = []:=by
      have h1:=congrArg List.length hd
      rw [List.length_append] at h1
      exact List.length_eq_zero_iff.1 (by omega)
    rw [Hh] at h
    refine Ia (Tn (Qm (Lw (hQ f37) rfl (lv S (Kq isAgg22 (S.tm rfl) (S.cell (i:=3) rfl rfl)) rfl fun a S=>Nz 2 S rfl (fun _=>.own v 3 1 r.length (r.flatMap eInt)) (fun _=>Cy (vs:=[v]) ⟨(S.tm rfl),trivial⟩ call55) (Sv _ v x (S.holds _ (List.mem_of_getElem? (i:=2) rfl)) _ h) rfl (fun _ _ _ h=>⟨h.1,fun _ hc=>hc⟩) ?_))));clear S;intro v5 a w17 hv3 hk14 hn3 S
    replace hv3:=hv3.2
    subst hv3
    refine Ld (Tn (Qm (Lw (hQ f37) rfl (lv S (Kq isAgg22 (S.tm rfl) (S.cell (i:=3) rfl rfl)) rfl fun a S=>lv S (Ra (S.tm rfl)) rfl fun a S=>Ld (Tn (wpIn_ret ?_))))))
    exact i_ret S (i:=1) rfl results37 rfl (fun w' S=>Oq S (i:=2) rfl rfl)
theorem Vw (w : World) (Aa : Value) (Ae : List An) (Ad : Slc (view w []) 11 Aa (Ae.map An.enc)) (Au : Int) (r : (List Int) × Int) (h : Nd Ae Au = some r) :
    Calls prog 12 [Aa,iV Au].toArray w (Ret w [] fun τ v _=>∃ u1 : Value,v = .tuple #[u1,iV r.2] ∧ Mq τ 3 1 u1 r.1.length (r.1.flatMap eInt)):=by
 refine Fe func12 rfl ntmps12 rfl fun a S=>?_
 unfold Nd at h
 replace S:=S.k2 0 1 rfl
 refine Fr (Vk S rfl rfl fun a S=>Vk S rfl rfl fun a S=>Dl (Fs (Fr (Vm S rfl rfl ?_))));clear S;intro a S
 obtain ⟨r1,hr1,h⟩:=El h
 refine De S (fun _=>Cy (vs:=[Aa]) ⟨(S.tm rfl),trivial⟩ call17) (Kp _ Aa Ae (Ad.mono (S.le_arg Dj)) _ hr1) rfl ?_;clear S;intro v1 a w1 hv1 hk1 hn1 S
 subst hv1
 refine Va S rfl rfl fun a S=>Dz (Vm S rfl rfl fun a S=>Vq S Io rfl rfl rfl fun a S=>Dl (Fc h (S.tm rfl) (fun hb1 h=>?_) (fun hb1 h=>?_)))
 ·refine Fr (Vm S rfl rfl fun a S=>Vk S rfl rfl fun a S=>Va S rfl rfl fun a S=>Dl (wp_ret (Dc ?_)))
  obtain rfl:=Option.some.inj h
  exact Ki S results12 rfl rfl ⟨_,rfl,(Jg _ _ _)⟩
 ·refine wp_skip (Tn (Fs (Fr (Vm S rfl rfl fun a S=>De S (fun _=>Cy (vs:=[iV Au]) ⟨(S.tm rfl),trivial⟩ call36) (Pd _ Au _ rfl) rfl ?_))));clear S;intro v2 a w2 hv2 hk2 hn2 S
  subst hv2
  refine Vu S Hl rfl rfl fun a S=>Dl (Fc h (S.tm rfl) (fun hb2 h=>?_) (fun hb2 h=>?_))
  ·refine Fr (Vk S rfl rfl fun a S=>Vk S rfl rfl fun a S=>Dl (wp_ret (Dc ?_)))
   obtain rfl:=Option.some.inj h
   exact Ki S results12 rfl rfl ⟨_,rfl,(Jg _ _ _)⟩
  ·refine wp_skip (Tn (Fr (Vm S rfl rfl fun a S=>Vm S rfl rfl ?_)));clear S;intro a S
   obtain ⟨r2,hr2,h⟩:=El h
   have hz1:=S.keep.size
   refine De S (fun _=>Cy (vs:=[Aa,iV Au]) ⟨(S.tm rfl),(S.tm rfl),trivial⟩ call37) (Rt _ Aa Ae (Ad.mono (S.le_arg Dj)) Au _ hr2) rfl ?_;clear S;intro v3 a w3 hv3 hk3 hn3 S
   obtain ⟨φ1,hl1,hm1,S⟩:=S.see' hn3 hz1
   have hs1:=hv3.mono hm1
   refine Va S rfl rfl fun a S=>Vk S rfl rfl fun a S=>Ld ?_
   replace S:=S.k2 4 5 rfl
   refine Tn (wp_ret ?_)
   obtain rfl:=Option.some.inj h
   exact Ki S results12 rfl rfl ⟨_,rfl,((hs1).mono S.le_newer)⟩
theorem Ru (w : World) (Aa : Value) (Ae : List Int) (Ad : Slc (view w []) 1 Aa (Ae.map eInt)) (r : Int) (h : Eb Ae = r) :
    Calls prog 13 [Aa].toArray w (Ret w [] fun _ v _=>v = iV r):=by
 refine Fe func13 rfl ntmps13 rfl fun a S=>?_
 unfold Eb at h
 replace S:=S.k1 0 rfl
 refine Fr (Vk S rfl rfl fun a S=>Dl (Fs (Fr (Vm S rfl rfl fun a S=>lv S (Fd sl_63 (S.tm rfl) (Fb Ad)) rfl fun a S=>lv S (Rm rfl) rfl ?_))));clear S;intro a S
 refine Dl ?_
 replace S:=S.k3 5 6 7 rfl
 obtain ⟨j1,hj1,h⟩:=En h
 refine Ec (fun a w'=>j1 = r ∧ Sx w [] nov [] [] 15 a w') ?_ ?_
 ·refine wp_block (Hx (fun (ys1 : List Int) a w'=>∃ i1 : Nat,(∃ dn,Ae = dn ++ ys1 ∧ dn.length = i1) ∧ Hb j1 ys1 i1 = r ∧ Sx w [] nov [] [(5,Aa),(6,iV (Ae.length : Int)),(7,iV (i1 : Int))] 15 a w') List.length Ae ⟨0,⟨[],rfl,rfl⟩,h,S.nf [] rfl (subR rfl)⟩ ?_)
  clear S h;rintro ys1 a w1 ⟨i1,⟨dn,hd1,hi1⟩,h,S⟩
  cases ys1 with
  | nil =>
   rw [Hb.eq_1] at h
   refine Fr (Vb S Fa rfl rfl rfl fun a S=>Ld ?_)
   replace S:=S.k4 5 6 7 8 rfl
   exact Tn (Fs (wp_cond_false ((S.tm rfl).trans (congrArg Value.bool (Jk hd1 hi1))) (wp_exit (Et (Et (Hp (Tn (⟨h,S.nf [] rfl trivial⟩))))))))
  | cons y1 ys1 =>
   rw [Hb.eq_2] at h
   refine Fr (Vb S Fa rfl rfl rfl fun a S=>Ld ?_)
   replace S:=S.k4 5 6 7 8 rfl
   refine Tn (Fs (wp_cond_true ((S.tm rfl).trans (congrArg Value.bool (Hy hd1 hi1))) (wp_skip (Tn (Fs (wp_block (Fs (Fg ?_))))))))
   obtain ⟨b1,o1,hm1,hr1⟩:=Dt (a:=a) (x:=.tmp 5) (y:=.tmp 7) (ty:=0) sl_63 Ad (Jp hd1 hi1) rfl (S.tm rfl) (S.tm rfl)
   refine lv S (hr1 _) rfl ?_;clear S;intro a S
   clear hr1
   refine lv S (Ep isAgg35 (off:=o1) (o:=0) (S.tm rfl) (hm1.at S.emb0) rfl) rfl fun a S=>Va S rfl rfl fun a S=>Dz (Vm S rfl rfl fun a S=>Vq S Io rfl rfl rfl fun a S=>Dl (Fc h (S.tm rfl) (fun hb1 h=>?_) (fun hb1 h=>?_)))
   ·refine Fr (Vm S rfl rfl fun a S=>Va S rfl rfl fun a S=>Dl (wp_ret (Gg (Dc (Dc (Gg ?_))))))
    refine Dc (Dc ?_)
    subst h
    exact Dx S results13 rfl rfl
   ·exact wp_skip (Ia (Tn (Fg (Vq S Ge rfl rfl rfl fun a S=>Vm S rfl rfl fun a S=>Dl (⟨ys1,⟨i1 + 1,⟨_,(hd1).trans (List.append_cons _ _ _),by simp [hi1]⟩,h,S.nf [] rfl ⟨rfl,rfl,(congrArg (fun z=>some (Value.int .i64 z)) (Hz hd1 hi1 (Iz Ad))),trivial⟩⟩,Nat.lt_succ_self _⟩)))))
 clear S h;rintro a w2 ⟨h,S⟩;rw [hj1] at h;clear hj1 j1
 refine Tn (Fr (Vk S rfl rfl fun a S=>Dl (wp_ret ?_)))
 subst h
 exact Dx S results13 rfl rfl
theorem Vx (w : World) (Ct : Bool) (Cv : Int) (r : Int) (h : Pn Ct Cv = r) :
    Calls prog 38 [bV Ct,iV Cv].toArray w (Ret w [] fun _ v _=>v = iV r):=by
 refine Fe func38 rfl ntmps38 rfl fun a S=>?_
 unfold Pn at h
 replace S:=S.k2 0 1 rfl
 refine Fr (Vk S rfl rfl fun a S=>Dl (Fs (Fr (Vm S rfl rfl fun a S=>Dl ?_))))
 refine Fc h (S.tm rfl) (fun hb1 h=>?_) (fun hb1 h=>?_)
 ·refine Fr (Vm S rfl rfl fun a S=>Va S rfl rfl fun a S=>Dl (wp_ret (Dc ?_)))
  subst h
  exact Dx S results38 rfl rfl
 ·refine wp_skip (Tn (Fr (Vk S rfl rfl fun a S=>Dl (wp_ret ?_))))
  subst h
  exact Dx S results38 rfl rfl
theorem Rv (w : World) (Au : Int) (r : Int) (h : Dm Au = r) :
    Calls prog 14 [iV Au].toArray w (Ret w [] fun _ v _=>v = iV r):=by
 refine Fe func14 rfl ntmps14 rfl fun a S=>?_
 unfold Dm at h
 replace S:=S.k1 0 rfl
 refine Fr (Vk S rfl rfl fun a S=>Dz (Vm S rfl rfl fun a S=>De S (fun _=>Cy (vs:=[iV Au]) ⟨(S.tm rfl),trivial⟩ call39) (Qn _ Au _ rfl) rfl ?_));clear S;intro v1 a w1 hv1 hk1 hn1 S
 subst hv1
 refine Vu S Hl rfl rfl fun a S=>De S (fun _=>Cy (vs:=[bV (!(Hg Au)),iV 1]) ⟨(S.tm rfl),rfl,trivial⟩ call38) (Vx _ (!(Hg Au)) 1 _ rfl) rfl ?_;clear S;intro v2 a w2 hv2 hk2 hn2 S
 subst hv2
 refine Va S rfl rfl fun a S=>Dl (wp_ret ?_)
 subst h
 exact Dx S results14 rfl rfl
theorem Sj (w : World) (Ch : An) (Ap : Nat) (Ag : An) (Ah : (view w []) Ap = some (.cells [sV Ag.Site,iV Ag.No,iV Ag.At,iV Ag.Kind,sV Ag.Who,sV Ag.Club,sV Ag.Race,iV Ag.Time,iV Ag.Fault,sV Ag.Of,iV Ag.Other].toArray 33 (0,0))) (r : Bool) (h : Ky Ch Ag = r) :
    Calls prog 41 [.agg (An.enc Ch).toArray,.pointer (some ⟨Ap,0,none⟩)].toArray w (Ret w [] fun _ v _=>v = bV r):=by
 refine Fe func41 rfl ntmps41 rfl fun a S=>?_
 unfold Ky at h
 replace S:=S.k2 0 1 rfl
 refine Fr (Kw S (S.tm rfl) (cs:=(An.enc Ch)) rfl rfl ?_);clear S;intro a w1 b1 hz1 hk1 S
 refine Vk S rfl rfl fun a S=>Dz (lv S (Ev isAgg33 sizeOf33 (off:=0) (o:=0) (part:=(An.enc Ch)) rfl rfl (S.tm rfl) (S.cellsAt (i:=0) rfl)) rfl fun a S=>lv S (Ev isAgg33 sizeOf33 (off:=0) (o:=0) (part:=(An.enc Ag)) rfl rfl (S.tm rfl) ((Gw Ah).at S.emb0)) rfl fun a S=>De S (fun _=>Cy (vs:=[.agg (An.enc Ch).toArray,.agg (An.enc Ag).toArray]) ⟨(S.tm rfl),(S.tm rfl),trivial⟩ call32) (Qo _ Ch Ag _ rfl) rfl ?_);clear S;intro v1 a w2 hv1 hk2 hn1 S
 subst hv1
 refine Va S rfl rfl fun a S=>Dl (wp_ret ?_)
 subst h
 exact Dx S results41 rfl rfl
theorem Mm (w : World) (Aq : Value) (As : List An) (Bh : Slc (view w []) 11 Aq (As.map An.enc)) (Av : Nat) (Ai : An) (Bk : (view w []) Av = some (.cells [sV Ai.Site,iV Ai.No,iV Ai.At,iV Ai.Kind,sV Ai.Who,sV Ai.Club,sV Ai.Race,iV Ai.Time,iV Ai.Fault,sV Ai.Of,iV Ai.Other].toArray 33 (0,0))) (r : Int) (h : Dy As Ai = r) :
    Calls prog 40 [Aq,.func (.func 41) #[] #[.pointer (some ⟨Av,0,none⟩)]].toArray w (Ret w [] fun _ v _=>v = iV r):=by
 refine Fe func40 rfl ntmps40 rfl fun a S=>?_
 unfold Dy at h
 replace S:=S.k2 0 1 rfl
 refine Fr (Vk S rfl rfl fun a S=>Dl (Fs (Fr (Vm S rfl rfl fun a S=>lv S (Fd Es (S.tm rfl) (Fb Bh)) rfl fun a S=>lv S (Rm rfl) rfl ?_))));clear S;intro a S
 refine Dl ?_
 replace S:=S.k4 0 1 7 8 rfl
 obtain ⟨j1,hj1,h⟩:=En h
 refine Ec (fun a w'=>j1 = r ∧ Sx w [] nov [] [] 19 a w') ?_ ?_
 ·refine wp_block (Hx (fun (ys1 : List An) a w'=>∃ i1 : Nat,(∃ dn,As = dn ++ ys1 ∧ dn.length = i1) ∧ Dq Ai j1 ys1 i1 = r ∧ Sx w [] nov [] [(0,Aq),(1,.func (.func 41) #[] #[.pointer (some ⟨Av,0,none⟩)]),(7,iV (As.length : Int)),(8,iV (i1 : Int))] 19 a w') List.length As ⟨0,⟨[],rfl,rfl⟩,h,S.nf [] rfl (subR rfl)⟩ ?_)
  clear S h;rintro ys1 a w1 ⟨i1,⟨dn,hd1,hi1⟩,h,S⟩
  cases ys1 with
  | nil =>
   rw [Dq.eq_1] at h
   refine Fr (Vb S Fa rfl rfl rfl fun a S=>Ld ?_)
   replace S:=S.k5 0 1 7 8 9 rfl
   exact Tn (Fs (wp_cond_false ((S.tm rfl).trans (congrArg Value.bool (Jk hd1 hi1))) (wp_exit (Et (Et (Hp (Tn (⟨h,S.nf [] rfl trivial⟩))))))))
  | cons y1 ys1 =>
   rw [Dq.eq_2] at h
   refine Fr (Vb S Fa rfl rfl rfl fun a S=>Ld ?_)
   replace S:=S.k5 0 1 7 8 9 rfl
   refine Tn (Fs (wp_cond_true ((S.tm rfl).trans (congrArg Value.bool (Hy hd1 hi1))) (wp_skip (Tn (Fs (wp_block (Fr (Vm S rfl rfl fun a S=>Va S rfl rfl ?_))))))));clear S;intro a S
   refine Dl (Fs (Fg ?_))
   iterate 3 (refine Vm S rfl rfl ?_;clear S;intro a S)
   obtain ⟨b1,o1,hm1,hr1⟩:=Dt (a:=a) (x:=.tmp 12) (y:=.tmp 13) (ty:=0) Es Bh (Jp hd1 hi1) rfl (S.tm rfl) (S.tm rfl)
   refine lv S (hr1 _) rfl ?_;clear S;intro a S
   clear hr1
   refine lv S (Ev isAgg33 sizeOf33 (off:=o1) (o:=0) (part:=(An.enc y1)) rfl rfl (S.tm rfl) (hm1.at S.emb0)) rfl fun a S=>De S (fun _=>Md (cap:=[.pointer (some ⟨Av,0,none⟩)]) (S.tm rfl) (vs:=[.agg (An.enc y1).toArray]) ⟨(S.tm rfl),trivial⟩ call41) (Sj _ y1 Av Ai ((S.le_arg Dj) _ _ Bk) _ rfl) rfl ?_;clear S;intro v1 a w3 hv1 hk1 hn1 S
   subst hv1
   refine Dl (Fc h (S.tm rfl) (fun hb1 h=>?_) (fun hb1 h=>?_))
   ·refine Fr (Vm S rfl rfl fun a S=>Va S rfl rfl fun a S=>Ld ?_)
    replace S:=S.k1 4 rfl
    refine Tn (wp_ret (Gg (Dc (Dc (Gg (Dc (Dc ?_)))))))
    subst h
    exact Dx S results40 rfl rfl
   ·exact wp_skip (Ia (Tn (Fg (Vq S Ge rfl rfl rfl fun a S=>Vm S rfl rfl fun a S=>Dl (⟨ys1,⟨i1 + 1,⟨_,(hd1).trans (List.append_cons _ _ _),by simp [hi1]⟩,h,S.nf [] rfl ⟨rfl,rfl,rfl,(congrArg (fun z=>some (Value.int .i64 z)) (Hz hd1 hi1 (Iz Bh))),trivial⟩⟩,Nat.lt_succ_self _⟩)))))
 clear S h;rintro a w2 ⟨h,S⟩;rw [hj1] at h;clear hj1 j1
 refine Tn (Fr (Vk S rfl rfl fun a S=>Dl (wp_ret ?_)))
 subst h
 exact Dx S results40 rfl rfl
theorem Mv (w : World) (Bg : Value) (O : List An) (Ca : (LEnt.own Bg 33 11 O.length (O.flatMap An.enc)).holds w) (r : (List An)) (h : Ft O = some r) :
    Calls prog 34 [Bg,.func (.func 27) #[] #[]].toArray w (Ret w (Bg.ownBlock.toList) fun _ v w'=>(LEnt.own Bg 33 11 r.length (r.flatMap An.enc)).holds w' ∧ v = .tuple #[]):=by
  unfold Ft at h
  split at h
  · rename_i hc
    obtain rfl:=Option.some.inj h
    exact Ys (enc:=An.enc) Tryz.laysg34 isAgg33 sizeOf33 An.enc_ok (enters_of func27 (by kernel_rfl) rfl) (fun w x y=>D.tumbref2_DeedOrder_ok w x y _ rfl) hc.1 hc.2 Ca
  · cases h
set_option maxRecDepth 20000 in
theorem Ty (w : World) (Bq : Value) (Am : List An) (Cb : Slc (view w []) 11 Bq (Am.map An.enc)) (Bo : Value) (Ao : List An) (Bz : Slc (view w []) 11 Bo (Ao.map An.enc)) (r : (List An) × Int) (h : Km Am Ao = some r) :
    Calls prog 15 [Bq,Bo].toArray w (Ret w [] fun τ v _=>∃ u1 : Value,v = .tuple #[u1,iV r.2] ∧ Mq τ 33 11 u1 r.1.length (r.1.flatMap An.enc)):=by
 refine Fe func15 rfl ntmps15 rfl fun a S=>?_
 unfold Km at h
 replace S:=S.k2 0 1 rfl
 refine Fr (Vk S rfl rfl fun a S=>Vk S rfl rfl fun a S=>Dz (Vm S rfl rfl ?_));clear S;intro a S
 obtain ⟨r1,hr1,h⟩:=El h
 have hz1:=S.keep.size
 refine De S (fun _=>Cy (vs:=[Bq]) ⟨(S.tm rfl),trivial⟩ call8) (Ja _ Bq Am (Cb.mono (S.le_arg Dj)) _ hr1) rfl ?_;clear S;intro v1 a w1 hv1 hk1 hn1 S
 replace S:=S.take hn1 hz1 hv1
 refine Va S rfl rfl fun a S=>Dl (Fs (Fr (Vm S rfl rfl fun a S=>lv S (Fd Es (S.tm rfl) (Fb Bz)) rfl fun a S=>lv S (Rm rfl) rfl fun a S=>Dl ?_)))
 replace S:=(S.nl [.own v1 33 11 r1.length (r1.flatMap An.enc)] [true] rfl).k4 6 12 13 14 rfl
 obtain ⟨j1,hj1,h⟩:=En h
 refine Ec (fun a w'=>∃ x1 : List An,∃ v2 : Value,j1 x1 = some r ∧ Sx w [] nov [.own v2 33 11 x1.length (x1.flatMap An.enc)] [(6,v2)] 40 a w') ?_ ?_
 ·refine wp_block (Hx (fun (ys1 : List An) a w'=>∃ i1 : Nat,∃ x1 : List An,∃ v2 : Value,(∃ dn,Ao = dn ++ ys1 ∧ dn.length = i1) ∧ Fv j1 ys1 i1 x1 = some r ∧ Sx w [] nov [.own v2 33 11 x1.length (x1.flatMap An.enc)] [(6,v2),(12,Bo),(13,iV (Ao.length : Int)),(14,iV (i1 : Int))] 40 a w') List.length Ao ⟨0,r1,v1,⟨[],rfl,rfl⟩,h,S.nf [true] rfl (subR rfl)⟩ ?_)
  clear S h;rintro ys1 a w2 ⟨i1,x1,v2,⟨dn,hd1,hi1⟩,h,S⟩
  cases ys1 with
  | nil =>
   rw [Fv.eq_1] at h
   refine Fr (Vb S Fa rfl rfl rfl fun a S=>Ld ?_)
   replace S:=S.k5 6 12 13 14 15 rfl
   exact Tn (Fs (wp_cond_false ((S.tm rfl).trans (congrArg Value.bool (Jk hd1 hi1))) (wp_exit (Et (Et (Hp (Tn (⟨x1,v2,h,S.nf [true] rfl ⟨rfl,trivial⟩⟩))))))))
  | cons y1 ys1 =>
   rw [Fv.eq_2] at h
   refine Fr (Vb S Fa rfl rfl rfl fun a S=>Ld ?_)
   replace S:=S.k5 6 12 13 14 15 rfl
   refine Tn (Fs (wp_cond_true ((S.tm rfl).trans (congrArg Value.bool (Hy hd1 hi1))) (wp_skip (Tn (Fs ?_)))))
   obtain ⟨j2,hj2,h⟩:=En h
   refine Ec (fun a w'=>∃ x2 : List An,∃ v3 : Value,j2 x2 = some r ∧ Sx w [] nov [.own v3 33 11 x2.length (x2.flatMap An.enc)] [(6,v3),(12,Bo),(13,iV (Ao.length : Int)),(14,iV (i1 : Int))] 40 a w') ?_ ?_
   ·refine wp_block (Fs (Fg ?_))
    obtain ⟨b1,o1,hm1,hr2⟩:=Dt (a:=a) (x:=.tmp 12) (y:=.tmp 14) (ty:=0) Es Bz (Jp hd1 hi1) rfl (S.tm rfl) (S.tm rfl)
    refine lv S (hr2 _) rfl ?_;clear S;intro a S
    clear hr2
    refine lv S (Ev isAgg33 sizeOf33 (off:=o1) (o:=0) (part:=(An.enc y1)) rfl rfl (S.tm rfl) (hm1.at S.emb0)) rfl fun a S=>It S zeroValue33 (cs:=[sV Cw,iV 0,iV 0,iV 0,sV Cw,sV Cw,sV Cw,iV 0,iV 0,sV Cw,iV 0]) rfl rfl ?_;clear S;intro a w5 b2 hz2 hk2 S
    refine Ef S (S.tm rfl) (S.tm rfl) (i:=0) (off:=0) rfl sizeOf33 (vs:=(An.enc y1)) rfl rfl rfl rfl ?_;clear S;intro w6 hk3 S
    refine Dz (Vm S rfl rfl fun a S=>lv S (Ok (us:=#[]) (xs:=[].toArray) (ys:=[.tmp 8].toArray) (by simp) (evA ⟨(S.tm rfl),trivial⟩ (vs:=[.pointer (some ⟨b2,0,none⟩)]))) rfl fun a S=>De S (fun _=>Cy (vs:=[v2,.func (.func 41) #[] #[.pointer (some ⟨b2,0,none⟩)]]) ⟨(S.tm rfl),(S.tm rfl),trivial⟩ call40) (Mm _ v2 x1 (Rh An.enc_ok S (i:=1) rfl (Gs (e':=.own v2 33 11 x1.length (x1.flatMap An.enc)))) b2 y1 (S.blk_view (i:=0) rfl ((Gs (e':=.blk b2 (An.enc y1) 33)) _ rfl)) _ rfl) rfl ?_);clear S;intro v4 a w7 hv2 hk4 hn2 S
    subst hv2
    refine Va S rfl rfl fun a S=>Dz (Vm S rfl rfl fun a S=>Vq S Fa rfl rfl rfl fun a S=>Dl ?_)
    obtain ⟨j3,hj3,h⟩:=En h
    refine Ec (fun a w'=>∃ x3 : List An,∃ v5 : Value,j3 x3 = some r ∧ Sx w [] nov [.own v5 33 11 x3.length (x3.flatMap An.enc)] [(6,v5),(12,Bo),(13,iV (Ao.length : Int)),(14,iV (i1 : Int))] 40 a w') ?_ ?_
    ·refine Fc h (S.tm rfl) (fun hb1 h=>?_) (fun hb1 h=>?_)
     ·refine Fg (Vm S rfl rfl fun a S=>lv S (Ev isAgg33 sizeOf33 (off:=0) (o:=0) (part:=(An.enc y1)) rfl rfl (S.tm rfl) (S.cellsAt (i:=0) rfl)) rfl fun a S=>Eg S underlying26 sizeOf33 zeroValue33 rfl rfl (pv:=[(0,.agg (An.enc y1).toArray)]) ⟨rfl,(S.tm rfl),trivial⟩ (cs:=[sV y1.Site,iV y1.No,iV y1.At,iV y1.Kind,sV y1.Who,sV y1.Club,sV y1.Race,iV y1.Time,iV y1.Fault,sV y1.Of,iV y1.Other]) (by kernel_rfl) rfl ?_);clear S;intro a w9 b3 hz3 hk5 S
      obtain ⟨hc1,h⟩:=Hw h
      refine Li Es An.enc_ok S (S.tm rfl) (i:=2) rfl (S.tm rfl) (j:=0) rfl (ys:=[y1]) rfl rfl rfl rfl (by have:=Nh hc1;omega) rfl ?_;clear S;intro v6 a w10 hk6 S
      refine Va S rfl rfl fun a S=>Ld ?_
      replace S:=(S.nl [.own v6 33 11 (x1 ++ [y1]).length ((x1 ++ [y1]).flatMap An.enc)] [false,false,true] rfl).k4 6 12 13 14 rfl
      exact Tn (⟨(x1 ++ [y1]),v6,h,S.nf [true] rfl (subR rfl)⟩)
     ·refine Fs (Fm [] ([]) Tryz.mixed S rfl (by kernel_rfl) ?_);clear S;intro w11 hk7 hsel S
      refine Ip [0,1,2,3,4,5] hsel (by kernel_rfl) rfl ?_
      clear hsel
      refine Er S rfl (Rm (S.tm rfl)) rfl fun a S=>Er S rfl (Rm (S.tm rfl)) rfl ?_;clear S;intro a S
      obtain ⟨hc2,h⟩:=Hw h
      obtain ⟨b4,hg1,hr3⟩:=Jf (a:=a) (x:=.tmp 27) (y:=.tmp 28) (ty:=0) Es An.enc_ok S (i:=1) rfl (Dg hc2).1 (Dg hc2).2 (S.tm rfl) (S.tm rfl)
      refine Er S rfl (hr3 _) rfl ?_;clear S;intro a S
      clear hr3
      refine Er S rfl (Ev isAgg33 sizeOf33 (off:=((Dy x1 y1).toNat) * 11) (o:=0) (part:=(An.enc (nth x1 (Dy x1 y1)))) rfl rfl (S.tm rfl) (Vp An.enc_ok S (i:=1) rfl hg1 (Dg hc2).1)) rfl fun a S=>Er S rfl (Ev isAgg33 sizeOf33 (off:=0) (o:=0) (part:=(An.enc y1)) rfl rfl (S.tm rfl) (S.cellsAt (i:=0) rfl)) rfl fun a S=>Er S rfl (Rr (m:=(nth x1 (Dy x1 y1))) (n:=y1) (S.tm rfl) (S.tm rfl)) rfl fun a S=>Iq ?_
      replace S:=(S.nl [.own v2 33 11 x1.length (x1.flatMap An.enc)] [false,true] rfl).k5 6 12 13 14 32 rfl
      refine Tn (Fc h (S.tm rfl) (fun hb2 h=>?_) (fun hb2 h=>?_))
      ·refine Fr (Vk S rfl rfl fun a S=>Vk S rfl rfl fun a S=>Dl (wp_ret (Dc (Gg ?_))))
       iterate 3 (refine Dc ?_)
       refine Gg (Dc (Dc ?_))
       obtain rfl:=Option.some.inj h
       exact Ki S results15 rfl rfl ⟨_,rfl,(Jg _ _ _)⟩
      ·exact wp_skip (Tn (⟨x1,v2,h,S.nf [true] rfl (subR rfl)⟩))
    clear S h;rintro a w8 ⟨x3,v5,h,S⟩;rw [hj3] at h;clear hj3 j3
    exact Ia (Tn (⟨x3,v5,h,S.nf [true] rfl (subR rfl)⟩))
   clear S h;rintro a w4 ⟨x2,v3,h,S⟩;rw [hj2] at h;clear hj2 j2
   exact Tn (Fg (Vq S Ge rfl rfl rfl fun a S=>Vm S rfl rfl fun a S=>Dl (⟨ys1,⟨i1 + 1,x2,v3,⟨_,(hd1).trans (List.append_cons _ _ _),by simp [hi1]⟩,h,S.nf [true] rfl ⟨rfl,rfl,rfl,(congrArg (fun z=>some (Value.int .i64 z)) (Hz hd1 hi1 (Iz Bz))),trivial⟩⟩,Nat.lt_succ_self _⟩)))
 clear S h;rintro a w3 ⟨x1,v2,h,S⟩;rw [hj1] at h;clear hj1 j1
 refine Tn (Fr (Vm S rfl rfl ?_));clear S;intro a S
 obtain ⟨r2,hr4,h⟩:=El h
 refine Nz 0 S rfl (fun _=>.own v2 33 11 r2.length (r2.flatMap An.enc)) (fun _=>Cy (vs:=[v2,.func (.func 27) #[] #[]]) ⟨(S.tm rfl),rfl,trivial⟩ call34) (Mv _ v2 x1 (S.holds _ (List.mem_of_getElem? (i:=0) rfl)) _ hr4) rfl (fun _ _ _ h=>⟨h.1,fun _ hc=>hc⟩) ?_;clear S;intro v7 a w12 hv3 hk8 hn3 S
 replace hv3:=hv3.2
 subst hv3
 refine Dl (Fs (Fr (Vm S rfl rfl fun a S=>lv S (Fd Es (S.tm rfl) (Mr (S.own_at (i:=0) rfl))) rfl fun a S=>Vq S Jn rfl rfl rfl fun a S=>Dl (Fc h (S.tm rfl) (fun hb3 h=>?_) (fun hb3 h=>?_)))))
 ·refine Fr (Vk S rfl rfl fun a S=>Vk S rfl rfl fun a S=>Dl (wp_ret (Dc ?_)))
  obtain rfl:=Option.some.inj h
  exact Ki S results15 rfl rfl ⟨_,rfl,(Jg _ _ _)⟩
 ·refine wp_skip (Tn (Fr (Vm S rfl rfl fun a S=>Va S rfl rfl fun a S=>Vk S rfl rfl fun a S=>Dl (wp_ret ?_))))
  obtain rfl:=Option.some.inj h
  exact Ki S results15 rfl rfl ⟨_,rfl,(Oq S (i:=0) rfl rfl)⟩
set_option maxRecDepth 20000 in
theorem Qe (self : Int → (List An) → Option Bool) (hself : ∀ (w : World) (Bj : Int) (Ap : Nat) (Be : Value) (Ag : List An) (_ : Slc (view w []) 11 Be (Ag.map An.enc)) (_ : (view w []) Ap = some (.cells [Be].toArray 26 (0,0))) (Ba : Nat) (_ : (view w []) Ba = some (.cells [.func (.func 42) #[] #[.pointer (some ⟨Ap,0,none⟩),.pointer (some ⟨Ba,0,none⟩)]].toArray 30 (0,0))) (r : Bool) (_ : self Bj Ag = some r),
    Calls prog 42 [iV Bj,.pointer (some ⟨Ap,0,none⟩),.pointer (some ⟨Ba,0,none⟩)].toArray w (Ret w [] fun _ v _=>v = bV r)) (w : World) (Bj : Int) (Ap : Nat) (Be : Value) (Ag : List An) (Ay : Slc (view w []) 11 Be (Ag.map An.enc)) (Ah : (view w []) Ap = some (.cells [Be].toArray 26 (0,0))) (Ba : Nat) (Bl : (view w []) Ba = some (.cells [.func (.func 42) #[] #[.pointer (some ⟨Ap,0,none⟩),.pointer (some ⟨Ba,0,none⟩)]].toArray 30 (0,0))) (r : Bool) (h : Kt self Bj Ag = some r) :
    Calls prog 42 [iV Bj,.pointer (some ⟨Ap,0,none⟩),.pointer (some ⟨Ba,0,none⟩)].toArray w (Ret w [] fun _ v _=>v = bV r):=by
 refine Fe func42 rfl ntmps42 rfl fun a S=>?_
 unfold Kt at h
 replace S:=S.k3 0 1 2 rfl
 refine Fr (Vk S rfl rfl fun a S=>Dl (Fs (Fr (Vm S rfl rfl fun a S=>Vq S Ge rfl rfl rfl fun a S=>Va S rfl rfl ?_))));clear S;intro a S
 refine Dl ?_
 replace S:=S.k4 0 1 2 5 rfl
 obtain ⟨j1,hj1,h⟩:=En h
 refine Ec (fun a w'=>j1 = some r ∧ Sx w [] nov [] [] 51 a w') ?_ ?_
 ·refine wp_block (Hx (fun (m1 : Nat) a w'=>∃ x1 : Int,Fo Ag Bj self j1 m1 x1 = some r ∧ Sx w [] nov [] [(0,iV Bj),(1,.pointer (some ⟨Ap,0,none⟩)),(2,.pointer (some ⟨Ba,0,none⟩)),(5,iV x1)] 51 a w') id (((Ag.length : Int) - (W (Bj + 1))).toNat + 2) ⟨W (Bj + 1),h,S.nf [] rfl (subR rfl)⟩ ?_)
  clear S h;rintro m1 a w1 ⟨x1,h,S⟩
  cases m1 with
  | zero=>rw [Fo.eq_1] at h;cases h
  | succ m1 =>
   rw [Fo.eq_2] at h
   refine Fs (Fr (Vm S rfl rfl fun a S=>lv S (Ep isAgg26 (off:=0) (o:=0) (S.tm rfl) ((Gw Ah).at S.emb0) rfl) rfl fun a S=>lv S (Fd Es (S.tm rfl) (Fb Ay)) rfl fun a S=>Vb S Fa rfl rfl rfl fun a S=>Dl (Fc h (S.tm rfl) (fun hb1 h=>?_) (fun hb1 h=>?_))))
   ·refine wp_skip (Tn (Fs (wp_block (Fs ?_))))
    obtain ⟨j2,hj2,h⟩:=En h
    refine Ec (fun a w'=>∃ x2 : Bool,j2 x2 = some r ∧ Sx w [] nov [] [(0,iV Bj),(1,.pointer (some ⟨Ap,0,none⟩)),(2,.pointer (some ⟨Ba,0,none⟩)),(5,iV x1),(50,bV x2)] 51 a w') ?_ ?_
    ·obtain ⟨hc1,h⟩:=Hw h
     rcases Bool.eq_false_or_eq_true (decide (((nth Ag x1).Kind) = 4)) with hb2 | hb2
     ·replace h:=Nq h hb2
      obtain ⟨hc2,h⟩:=Hw h
      obtain ⟨hc3,h⟩:=Hw h
      rcases Bool.eq_false_or_eq_true (decide (((nth Ag x1).Of) = ((nth Ag Bj).Site))) with hb3 | hb3
      ·replace h:=Nq h hb3
       obtain ⟨hc4,h⟩:=Hw h
       obtain ⟨hc5,h⟩:=Hw h
       rcases Bool.eq_false_or_eq_true (decide (((nth Ag x1).Other) = ((nth Ag Bj).No))) with hb4 | hb4
       ·replace h:=Nq h hb4
        obtain ⟨r1,hr15,h⟩:=El h
        refine Fm [] ([]) Tryz.mixed S rfl (by kernel_rfl) ?_;clear S;intro w5 hk2 hsel S
        refine Da 0 S hsel rfl rfl rfl (by kernel_rfl) (by kernel_rfl) rfl (fun _ hw=>(Ep isAgg26 (off:=0) (o:=0) (S.tm rfl) (((Gw Ah).mono (S.le_arg Dj)).kept hw) rfl)) fun a S=>Da 1 S hsel rfl rfl rfl (by kernel_rfl) (by kernel_rfl) rfl (fun _ hw=>(Rm (S.tm rfl))) ?_;clear S;intro a S
        obtain ⟨b15,o15,hm15,hr16⟩:=Dt (a:=a) (x:=.tmp 14) (y:=.tmp 15) (ty:=0) Es (Ay.mono (S.le_arg Dj)) (Dg hc1).1 (Dg hc1).2 (S.tm rfl) (S.tm rfl)
        refine Da 2 S hsel rfl rfl rfl (by kernel_rfl) (by kernel_rfl) rfl (fun _ hw=>hr16 _) ?_;clear S;intro a S
        clear hr16
        refine Da 3 S hsel rfl rfl rfl (by kernel_rfl) (by kernel_rfl) rfl (fun _ hw=>(Em Jm (S.tm rfl))) fun a S=>Da 4 S hsel rfl rfl rfl (by kernel_rfl) (by kernel_rfl) rfl (fun _ hw=>(Ep isAgg3 (off:=o15) (o:=3) (S.tm rfl) (hm15.kept hw) rfl)) fun a S=>Da 5 S hsel rfl rfl rfl (by kernel_rfl) (by kernel_rfl) rfl (fun _ hw=>(Hi (S.tm rfl) rfl)) fun a S=>Da 6 S hsel rfl rfl rfl (by kernel_rfl) (by kernel_rfl) rfl (fun _ hw=>(Rm (S.tm rfl))) fun a S=>Df 7 S hsel rfl rfl rfl rfl hb2 rfl rfl (by kernel_rfl) (by kernel_rfl) rfl (fun _ hw=>(Ep isAgg26 (off:=0) (o:=0) (S.tm rfl) (((Gw Ah).mono (S.le_arg Dj)).kept hw) rfl)) fun a S=>Df 8 S hsel rfl rfl rfl rfl hb2 rfl rfl (by kernel_rfl) (by kernel_rfl) rfl (fun _ hw=>(Rm (S.tm rfl))) ?_;clear S;intro a S
        obtain ⟨b16,o16,hm16,hr17⟩:=Dt (a:=a) (x:=.tmp 21) (y:=.tmp 22) (ty:=0) Es (Ay.mono (S.le_arg Dj)) (Dg hc2).1 (Dg hc2).2 (S.tm rfl) (S.tm rfl)
        refine Df 9 S hsel rfl rfl rfl rfl hb2 rfl rfl (by kernel_rfl) (by kernel_rfl) rfl (fun _ hw=>hr17 _) ?_;clear S;intro a S
        clear hr17
        refine Df 10 S hsel rfl rfl rfl rfl hb2 rfl rfl (by kernel_rfl) (by kernel_rfl) rfl (fun _ hw=>(Em Oe (S.tm rfl))) fun a S=>Df 11 S hsel rfl rfl rfl rfl hb2 rfl rfl (by kernel_rfl) (by kernel_rfl) rfl (fun _ hw=>(Ep isAgg9 (off:=o16) (o:=9) (S.tm rfl) (hm16.kept hw) rfl)) fun a S=>Df 12 S hsel rfl rfl rfl rfl hb2 rfl rfl (by kernel_rfl) (by kernel_rfl) rfl (fun _ hw=>(Ep isAgg26 (off:=0) (o:=0) (S.tm rfl) (((Gw Ah).mono (S.le_arg Dj)).kept hw) rfl)) fun a S=>Df 13 S hsel rfl rfl rfl rfl hb2 rfl rfl (by kernel_rfl) (by kernel_rfl) rfl (fun _ hw=>(Rm (S.tm rfl))) ?_;clear S;intro a S
        obtain ⟨b17,o17,hm17,hr18⟩:=Dt (a:=a) (x:=.tmp 26) (y:=.tmp 27) (ty:=0) Es (Ay.mono (S.le_arg Dj)) (Dg hc3).1 (Dg hc3).2 (S.tm rfl) (S.tm rfl)
        refine Df 14 S hsel rfl rfl rfl rfl hb2 rfl rfl (by kernel_rfl) (by kernel_rfl) rfl (fun _ hw=>hr18 _) ?_;clear S;intro a S
        clear hr18
        refine Df 15 S hsel rfl rfl rfl rfl hb2 rfl rfl (by kernel_rfl) (by kernel_rfl) rfl (fun _ hw=>(Em Ih (S.tm rfl))) fun a S=>Df 16 S hsel rfl rfl rfl rfl hb2 rfl rfl (by kernel_rfl) (by kernel_rfl) rfl (fun _ hw=>(Ep isAgg9 (off:=o17) (o:=0) (S.tm rfl) (hm17.kept hw) rfl)) fun a S=>Df 17 S hsel rfl rfl rfl rfl hb2 rfl rfl (by kernel_rfl) (by kernel_rfl) rfl (fun _ hw=>(Pl (S.tm rfl) (S.tm rfl))) fun a S=>Da 18 S hsel rfl rfl rfl (by kernel_rfl) (by kernel_rfl) rfl (fun _ hw=>(Ix hb2 (S.tm rfl) (S.tm rfl))) fun a S=>Da 19 S hsel rfl rfl rfl (by kernel_rfl) (by kernel_rfl) rfl (fun _ hw=>(Rm (S.tm rfl))) fun a S=>Df 20 S hsel rfl rfl rfl rfl hb3 rfl rfl (by kernel_rfl) (by kernel_rfl) rfl (fun _ hw=>(Ep isAgg26 (off:=0) (o:=0) (S.tm rfl) (((Gw Ah).mono (S.le_arg Dj)).kept hw) rfl)) fun a S=>Df 21 S hsel rfl rfl rfl rfl hb3 rfl rfl (by kernel_rfl) (by kernel_rfl) rfl (fun _ hw=>(Rm (S.tm rfl))) ?_;clear S;intro a S
        obtain ⟨b18,o18,hm18,hr19⟩:=Dt (a:=a) (x:=.tmp 34) (y:=.tmp 35) (ty:=0) Es (Ay.mono (S.le_arg Dj)) (Dg hc4).1 (Dg hc4).2 (S.tm rfl) (S.tm rfl)
        refine Df 22 S hsel rfl rfl rfl rfl hb3 rfl rfl (by kernel_rfl) (by kernel_rfl) rfl (fun _ hw=>hr19 _) ?_;clear S;intro a S
        clear hr19
        refine Df 23 S hsel rfl rfl rfl rfl hb3 rfl rfl (by kernel_rfl) (by kernel_rfl) rfl (fun _ hw=>(Em Mg (S.tm rfl))) fun a S=>Df 24 S hsel rfl rfl rfl rfl hb3 rfl rfl (by kernel_rfl) (by kernel_rfl) rfl (fun _ hw=>(Ep isAgg3 (off:=o18) (o:=10) (S.tm rfl) (hm18.kept hw) rfl)) fun a S=>Df 25 S hsel rfl rfl rfl rfl hb3 rfl rfl (by kernel_rfl) (by kernel_rfl) rfl (fun _ hw=>(Ep isAgg26 (off:=0) (o:=0) (S.tm rfl) (((Gw Ah).mono (S.le_arg Dj)).kept hw) rfl)) fun a S=>Df 26 S hsel rfl rfl rfl rfl hb3 rfl rfl (by kernel_rfl) (by kernel_rfl) rfl (fun _ hw=>(Rm (S.tm rfl))) ?_;clear S;intro a S
        obtain ⟨b19,o19,hm19,hr20⟩:=Dt (a:=a) (x:=.tmp 39) (y:=.tmp 40) (ty:=0) Es (Ay.mono (S.le_arg Dj)) (Dg hc5).1 (Dg hc5).2 (S.tm rfl) (S.tm rfl)
        refine Df 27 S hsel rfl rfl rfl rfl hb3 rfl rfl (by kernel_rfl) (by kernel_rfl) rfl (fun _ hw=>hr20 _) ?_;clear S;intro a S
        clear hr20
        refine Df 28 S hsel rfl rfl rfl rfl hb3 rfl rfl (by kernel_rfl) (by kernel_rfl) rfl (fun _ hw=>(Em Hd (S.tm rfl))) fun a S=>Df 29 S hsel rfl rfl rfl rfl hb3 rfl rfl (by kernel_rfl) (by kernel_rfl) rfl (fun _ hw=>(Ep isAgg3 (off:=o19) (o:=1) (S.tm rfl) (hm19.kept hw) rfl)) fun a S=>Df 30 S hsel rfl rfl rfl rfl hb3 rfl rfl (by kernel_rfl) (by kernel_rfl) rfl (fun _ hw=>(Hi (S.tm rfl) (S.tm rfl))) fun a S=>Da 31 S hsel rfl rfl rfl (by kernel_rfl) (by kernel_rfl) rfl (fun _ hw=>(Ix hb3 (S.tm rfl) (S.tm rfl))) fun a S=>Da 32 S hsel rfl rfl rfl (by kernel_rfl) (by kernel_rfl) rfl (fun _ hw=>(Rm (S.tm rfl))) fun a S=>Df 33 S hsel rfl rfl rfl rfl hb4 rfl rfl (by kernel_rfl) (by kernel_rfl) rfl (fun _ hw=>(Ep isAgg30 (off:=0) (o:=0) (S.tm rfl) (((Gw Bl).mono (S.le_arg Dj)).kept hw) rfl)) fun a S=>Df 34 S hsel rfl rfl rfl rfl hb4 rfl rfl (by kernel_rfl) (by kernel_rfl) rfl (fun _ hw=>(Rm (S.tm rfl))) fun a S=>Ey 35 (by kernel_rfl) rfl (Db S rfl rfl rfl hb4 (De S (fun _=>Md (cap:=[.pointer (some ⟨Ap,0,none⟩),.pointer (some ⟨Ba,0,none⟩)]) (S.tm rfl) (vs:=[iV x1]) ⟨(S.tm rfl),trivial⟩ call42) (hself _ x1 Ap Be Ag (Ay.mono (S.le_arg Dj)) ((S.le_arg Dj) _ _ Ah) Ba ((S.le_arg Dj) _ _ Bl) _ hr15) rfl ?_));clear S;intro v2 a w6 hv2 hk3 hn2 S
        subst hv2
        refine Ld (Fz hk3 (Ip [36] hsel (by kernel_rfl) rfl ?_))
        clear hsel
        refine Er S rfl (Ix hb4 (S.tm rfl) (S.tm rfl)) rfl fun a S=>Iq ?_
        replace S:=S.nk [] [(0,iV Bj),(1,.pointer (some ⟨Ap,0,none⟩)),(2,.pointer (some ⟨Ba,0,none⟩)),(5,iV x1),(21,Be),(22,iV x1),(23,.pointer (some ⟨b16,o16,none⟩)),(24,.pointer (some ⟨b16,o16 + 9,none⟩)),(25,sV ((nth Ag x1).Of)),(26,Be),(27,iV Bj),(28,.pointer (some ⟨b17,o17,none⟩)),(29,.pointer (some ⟨b17,o17,none⟩)),(30,sV ((nth Ag Bj).Site)),(31,bV (decide (((nth Ag x1).Of) = ((nth Ag Bj).Site)))),(34,Be),(35,iV x1),(36,.pointer (some ⟨b18,o18,none⟩)),(37,.pointer (some ⟨b18,o18 + 10,none⟩)),(38,iV ((nth Ag x1).Other)),(39,Be),(40,iV Bj),(41,.pointer (some ⟨b19,o19,none⟩)),(42,.pointer (some ⟨b19,o19 + 1,none⟩)),(43,iV ((nth Ag Bj).No)),(44,bV (decide (((nth Ag x1).Other) = ((nth Ag Bj).No)))),(47,.func (.func 42) #[] #[.pointer (some ⟨Ap,0,none⟩),.pointer (some ⟨Ba,0,none⟩)]),(48,iV x1),(49,bV r1),(50,bV r1)] [] rfl (subR rfl)
        exact Tn (⟨r1,h,S.nf [] rfl (subR rfl)⟩)
       ·replace h:=Nr h hb4
        refine Fm [] ([]) Tryz.mixed S rfl (by kernel_rfl) ?_;clear S;intro w7 hk4 hsel S
        refine Ip [0,1,2,3,4,5,6,7,8,9,10,11,12,13,14,15,16,17,18,19,20,21,22,23,24,25,26,27,28,29,30,31,32,33,34,35,36] hsel (by kernel_rfl) rfl ?_
        clear hsel
        refine Er S rfl (Ep isAgg26 (off:=0) (o:=0) (S.tm rfl) ((Gw Ah).at S.emb0) rfl) rfl fun a S=>Er S rfl (Rm (S.tm rfl)) rfl ?_;clear S;intro a S
        obtain ⟨hc6,h⟩:=Hw h
        obtain ⟨b20,o20,hm20,hr21⟩:=Dt (a:=a) (x:=.tmp 14) (y:=.tmp 15) (ty:=0) Es Ay (Dg hc6).1 (Dg hc6).2 (S.tm rfl) (S.tm rfl)
        refine Er S rfl (hr21 _) rfl ?_;clear S;intro a S
        clear hr21
        refine Er S rfl (Em Jm (S.tm rfl)) rfl fun a S=>Er S rfl (Ep isAgg3 (off:=o20) (o:=3) (S.tm rfl) (hm20.at S.emb0) rfl) rfl fun a S=>Er S rfl (Hi (S.tm rfl) rfl) rfl fun a S=>Er S rfl (Rm (S.tm rfl)) rfl fun a S=>Gt S rfl rfl rfl rfl hb2 (Hv S (Ep isAgg26 (off:=0) (o:=0) (S.tm rfl) ((Gw Ah).at S.emb0) rfl) rfl fun a S=>Gt S rfl rfl rfl rfl hb2 (Hv S (Rm (S.tm rfl)) rfl fun a S=>Gt S rfl rfl rfl rfl hb2 ?_))
        obtain ⟨hc7,h⟩:=Hw h
        obtain ⟨b21,o21,hm21,hr22⟩:=Dt (a:=a) (x:=.tmp 21) (y:=.tmp 22) (ty:=0) Es Ay (Dg hc7).1 (Dg hc7).2 (S.tm rfl) (S.tm rfl)
        refine Hv S (hr22 _) rfl ?_;clear S;intro a S
        clear hr22
        refine Gt S rfl rfl rfl rfl hb2 (Hv S (Em Oe (S.tm rfl)) rfl fun a S=>Gt S rfl rfl rfl rfl hb2 (Hv S (Ep isAgg9 (off:=o21) (o:=9) (S.tm rfl) (hm21.at S.emb0) rfl) rfl fun a S=>Gt S rfl rfl rfl rfl hb2 (Hv S (Ep isAgg26 (off:=0) (o:=0) (S.tm rfl) ((Gw Ah).at S.emb0) rfl) rfl fun a S=>Gt S rfl rfl rfl rfl hb2 (Hv S (Rm (S.tm rfl)) rfl fun a S=>Gt S rfl rfl rfl rfl hb2 ?_))))
        obtain ⟨hc8,h⟩:=Hw h
        obtain ⟨b22,o22,hm22,hr23⟩:=Dt (a:=a) (x:=.tmp 26) (y:=.tmp 27) (ty:=0) Es Ay (Dg hc8).1 (Dg hc8).2 (S.tm rfl) (S.tm rfl)
        refine Hv S (hr23 _) rfl ?_;clear S;intro a S
        clear hr23
        refine Gt S rfl rfl rfl rfl hb2 (Hv S (Em Ih (S.tm rfl)) rfl fun a S=>Gt S rfl rfl rfl rfl hb2 (Hv S (Ep isAgg9 (off:=o22) (o:=0) (S.tm rfl) (hm22.at S.emb0) rfl) rfl fun a S=>Gt S rfl rfl rfl rfl hb2 (Hv S (Pl (S.tm rfl) (S.tm rfl)) rfl fun a S=>Er S rfl (Ix hb2 (S.tm rfl) (S.tm rfl)) rfl fun a S=>Er S rfl (Rm (S.tm rfl)) rfl fun a S=>Gt S rfl rfl rfl rfl hb3 (Hv S (Ep isAgg26 (off:=0) (o:=0) (S.tm rfl) ((Gw Ah).at S.emb0) rfl) rfl fun a S=>Gt S rfl rfl rfl rfl hb3 ?_))))
        refine Hv S (Rm (S.tm rfl)) rfl fun a S=>Gt S rfl rfl rfl rfl hb3 ?_
        obtain ⟨hc9,h⟩:=Hw h
        obtain ⟨b23,o23,hm23,hr24⟩:=Dt (a:=a) (x:=.tmp 34) (y:=.tmp 35) (ty:=0) Es Ay (Dg hc9).1 (Dg hc9).2 (S.tm rfl) (S.tm rfl)
        refine Hv S (hr24 _) rfl ?_;clear S;intro a S
        clear hr24
        refine Gt S rfl rfl rfl rfl hb3 (Hv S (Em Mg (S.tm rfl)) rfl fun a S=>Gt S rfl rfl rfl rfl hb3 (Hv S (Ep isAgg3 (off:=o23) (o:=10) (S.tm rfl) (hm23.at S.emb0) rfl) rfl fun a S=>Gt S rfl rfl rfl rfl hb3 (Hv S (Ep isAgg26 (off:=0) (o:=0) (S.tm rfl) ((Gw Ah).at S.emb0) rfl) rfl fun a S=>Gt S rfl rfl rfl rfl hb3 (Hv S (Rm (S.tm rfl)) rfl fun a S=>Gt S rfl rfl rfl rfl hb3 ?_))))
        obtain ⟨hc10,h⟩:=Hw h
        obtain ⟨b24,o24,hm24,hr25⟩:=Dt (a:=a) (x:=.tmp 39) (y:=.tmp 40) (ty:=0) Es Ay (Dg hc10).1 (Dg hc10).2 (S.tm rfl) (S.tm rfl)
        refine Hv S (hr25 _) rfl ?_;clear S;intro a S
        clear hr25
        refine Gt S rfl rfl rfl rfl hb3 (Hv S (Em Hd (S.tm rfl)) rfl fun a S=>Gt S rfl rfl rfl rfl hb3 (Hv S (Ep isAgg3 (off:=o24) (o:=1) (S.tm rfl) (hm24.at S.emb0) rfl) rfl fun a S=>Gt S rfl rfl rfl rfl hb3 (Hv S (Hi (S.tm rfl) (S.tm rfl)) rfl fun a S=>Er S rfl (Ix hb3 (S.tm rfl) (S.tm rfl)) rfl fun a S=>Er S rfl (Rm (S.tm rfl)) rfl ?_)));clear S;intro a S
        iterate 3 (refine Oi S rfl rfl rfl rfl (Fl hb4) rfl ?_ rfl;clear S;intro a S)
        refine Er S rfl (Iy hb4 (S.tm rfl) rfl) rfl fun a S=>Iq ?_
        replace S:=S.nk [] [(0,iV Bj),(1,.pointer (some ⟨Ap,0,none⟩)),(2,.pointer (some ⟨Ba,0,none⟩)),(5,iV x1),(21,Be),(22,iV x1),(23,.pointer (some ⟨b21,o21,none⟩)),(24,.pointer (some ⟨b21,o21 + 9,none⟩)),(25,sV ((nth Ag x1).Of)),(26,Be),(27,iV Bj),(28,.pointer (some ⟨b22,o22,none⟩)),(29,.pointer (some ⟨b22,o22,none⟩)),(30,sV ((nth Ag Bj).Site)),(31,bV (decide (((nth Ag x1).Of) = ((nth Ag Bj).Site)))),(34,Be),(35,iV x1),(36,.pointer (some ⟨b23,o23,none⟩)),(37,.pointer (some ⟨b23,o23 + 10,none⟩)),(38,iV ((nth Ag x1).Other)),(39,Be),(40,iV Bj),(41,.pointer (some ⟨b24,o24,none⟩)),(42,.pointer (some ⟨b24,o24 + 1,none⟩)),(43,iV ((nth Ag Bj).No)),(44,bV (decide (((nth Ag x1).Other) = ((nth Ag Bj).No)))),(50,bV false)] [] rfl (subR rfl)
        exact Tn (⟨false,h,S.nf [] rfl (subR rfl)⟩)
      ·replace h:=Nr h hb3
       rcases Bool.eq_false_or_eq_true false with hb5 | hb5
       ·replace h:=Nq h hb5
        obtain ⟨r2,hr32,h⟩:=El h
        refine Fm [] ([]) Tryz.mixed S rfl (by kernel_rfl) ?_;clear S;intro w9 hk6 hsel S
        refine Da 0 S hsel rfl rfl rfl (by kernel_rfl) (by kernel_rfl) rfl (fun _ hw=>(Ep isAgg26 (off:=0) (o:=0) (S.tm rfl) (((Gw Ah).mono (S.le_arg Dj)).kept hw) rfl)) fun a S=>Da 1 S hsel rfl rfl rfl (by kernel_rfl) (by kernel_rfl) rfl (fun _ hw=>(Rm (S.tm rfl))) ?_;clear S;intro a S
        obtain ⟨b31,o31,hm31,hr33⟩:=Dt (a:=a) (x:=.tmp 14) (y:=.tmp 15) (ty:=0) Es (Ay.mono (S.le_arg Dj)) (Dg hc1).1 (Dg hc1).2 (S.tm rfl) (S.tm rfl)
        refine Da 2 S hsel rfl rfl rfl (by kernel_rfl) (by kernel_rfl) rfl (fun _ hw=>hr33 _) ?_;clear S;intro a S
        clear hr33
        refine Da 3 S hsel rfl rfl rfl (by kernel_rfl) (by kernel_rfl) rfl (fun _ hw=>(Em Jm (S.tm rfl))) fun a S=>Da 4 S hsel rfl rfl rfl (by kernel_rfl) (by kernel_rfl) rfl (fun _ hw=>(Ep isAgg3 (off:=o31) (o:=3) (S.tm rfl) (hm31.kept hw) rfl)) fun a S=>Da 5 S hsel rfl rfl rfl (by kernel_rfl) (by kernel_rfl) rfl (fun _ hw=>(Hi (S.tm rfl) rfl)) fun a S=>Da 6 S hsel rfl rfl rfl (by kernel_rfl) (by kernel_rfl) rfl (fun _ hw=>(Rm (S.tm rfl))) fun a S=>Df 7 S hsel rfl rfl rfl rfl hb2 rfl rfl (by kernel_rfl) (by kernel_rfl) rfl (fun _ hw=>(Ep isAgg26 (off:=0) (o:=0) (S.tm rfl) (((Gw Ah).mono (S.le_arg Dj)).kept hw) rfl)) fun a S=>Df 8 S hsel rfl rfl rfl rfl hb2 rfl rfl (by kernel_rfl) (by kernel_rfl) rfl (fun _ hw=>(Rm (S.tm rfl))) ?_;clear S;intro a S
        obtain ⟨b32,o32,hm32,hr34⟩:=Dt (a:=a) (x:=.tmp 21) (y:=.tmp 22) (ty:=0) Es (Ay.mono (S.le_arg Dj)) (Dg hc2).1 (Dg hc2).2 (S.tm rfl) (S.tm rfl)
        refine Df 9 S hsel rfl rfl rfl rfl hb2 rfl rfl (by kernel_rfl) (by kernel_rfl) rfl (fun _ hw=>hr34 _) ?_;clear S;intro a S
        clear hr34
        refine Df 10 S hsel rfl rfl rfl rfl hb2 rfl rfl (by kernel_rfl) (by kernel_rfl) rfl (fun _ hw=>(Em Oe (S.tm rfl))) fun a S=>Df 11 S hsel rfl rfl rfl rfl hb2 rfl rfl (by kernel_rfl) (by kernel_rfl) rfl (fun _ hw=>(Ep isAgg9 (off:=o32) (o:=9) (S.tm rfl) (hm32.kept hw) rfl)) fun a S=>Df 12 S hsel rfl rfl rfl rfl hb2 rfl rfl (by kernel_rfl) (by kernel_rfl) rfl (fun _ hw=>(Ep isAgg26 (off:=0) (o:=0) (S.tm rfl) (((Gw Ah).mono (S.le_arg Dj)).kept hw) rfl)) fun a S=>Df 13 S hsel rfl rfl rfl rfl hb2 rfl rfl (by kernel_rfl) (by kernel_rfl) rfl (fun _ hw=>(Rm (S.tm rfl))) ?_;clear S;intro a S
        obtain ⟨b33,o33,hm33,hr35⟩:=Dt (a:=a) (x:=.tmp 26) (y:=.tmp 27) (ty:=0) Es (Ay.mono (S.le_arg Dj)) (Dg hc3).1 (Dg hc3).2 (S.tm rfl) (S.tm rfl)
        refine Df 14 S hsel rfl rfl rfl rfl hb2 rfl rfl (by kernel_rfl) (by kernel_rfl) rfl (fun _ hw=>hr35 _) ?_;clear S;intro a S
        clear hr35
        refine Df 15 S hsel rfl rfl rfl rfl hb2 rfl rfl (by kernel_rfl) (by kernel_rfl) rfl (fun _ hw=>(Em Ih (S.tm rfl))) fun a S=>Df 16 S hsel rfl rfl rfl rfl hb2 rfl rfl (by kernel_rfl) (by kernel_rfl) rfl (fun _ hw=>(Ep isAgg9 (off:=o33) (o:=0) (S.tm rfl) (hm33.kept hw) rfl)) fun a S=>Df 17 S hsel rfl rfl rfl rfl hb2 rfl rfl (by kernel_rfl) (by kernel_rfl) rfl (fun _ hw=>(Pl (S.tm rfl) (S.tm rfl))) fun a S=>Da 18 S hsel rfl rfl rfl (by kernel_rfl) (by kernel_rfl) rfl (fun _ hw=>(Ix hb2 (S.tm rfl) (S.tm rfl))) fun a S=>Da 19 S hsel rfl rfl rfl (by kernel_rfl) (by kernel_rfl) rfl (fun _ hw=>(Rm (S.tm rfl))) fun a S=>Hj 20 S hsel rfl rfl rfl rfl (Fl hb3) rfl (by kernel_rfl) (by kernel_rfl) rfl fun a S=>Hj 21 S hsel rfl rfl rfl rfl (Fl hb3) rfl (by kernel_rfl) (by kernel_rfl) rfl fun a S=>Hj 22 S hsel rfl rfl rfl rfl (Fl hb3) rfl (by kernel_rfl) (by kernel_rfl) rfl fun a S=>Hj 23 S hsel rfl rfl rfl rfl (Fl hb3) rfl (by kernel_rfl) (by kernel_rfl) rfl fun a S=>Hj 24 S hsel rfl rfl rfl rfl (Fl hb3) rfl (by kernel_rfl) (by kernel_rfl) rfl fun a S=>Hj 25 S hsel rfl rfl rfl rfl (Fl hb3) rfl (by kernel_rfl) (by kernel_rfl) rfl ?_;clear S;intro a S
        refine Hj 26 S hsel rfl rfl rfl rfl (Fl hb3) rfl (by kernel_rfl) (by kernel_rfl) rfl fun a S=>Hj 27 S hsel rfl rfl rfl rfl (Fl hb3) rfl (by kernel_rfl) (by kernel_rfl) rfl fun a S=>Hj 28 S hsel rfl rfl rfl rfl (Fl hb3) rfl (by kernel_rfl) (by kernel_rfl) rfl fun a S=>Hj 29 S hsel rfl rfl rfl rfl (Fl hb3) rfl (by kernel_rfl) (by kernel_rfl) rfl fun a S=>Hj 30 S hsel rfl rfl rfl rfl (Fl hb3) rfl (by kernel_rfl) (by kernel_rfl) rfl fun a S=>Da 31 S hsel rfl rfl rfl (by kernel_rfl) (by kernel_rfl) rfl (fun _ hw=>(Iy hb3 (S.tm rfl) rfl)) fun a S=>Da 32 S hsel rfl rfl rfl (by kernel_rfl) (by kernel_rfl) rfl (fun _ hw=>(Rm (S.tm rfl))) fun a S=>Df 33 S hsel rfl rfl rfl rfl hb5 rfl rfl (by kernel_rfl) (by kernel_rfl) rfl (fun _ hw=>(Ep isAgg30 (off:=0) (o:=0) (S.tm rfl) (((Gw Bl).mono (S.le_arg Dj)).kept hw) rfl)) fun a S=>Df 34 S hsel rfl rfl rfl rfl hb5 rfl rfl (by kernel_rfl) (by kernel_rfl) rfl (fun _ hw=>(Rm (S.tm rfl))) fun a S=>Ey 35 (by kernel_rfl) rfl (Db S rfl rfl rfl hb5 ?_)
        refine De S (fun _=>Md (cap:=[.pointer (some ⟨Ap,0,none⟩),.pointer (some ⟨Ba,0,none⟩)]) (S.tm rfl) (vs:=[iV x1]) ⟨(S.tm rfl),trivial⟩ call42) (hself _ x1 Ap Be Ag (Ay.mono (S.le_arg Dj)) ((S.le_arg Dj) _ _ Ah) Ba ((S.le_arg Dj) _ _ Bl) _ hr32) rfl ?_;clear S;intro v4 a w10 hv4 hk7 hn4 S
        subst hv4
        refine Ld (Fz hk7 (Ip [36] hsel (by kernel_rfl) rfl ?_))
        clear hsel
        refine Er S rfl (Ix hb5 (S.tm rfl) (S.tm rfl)) rfl fun a S=>Iq ?_
        replace S:=S.nk [] [(0,iV Bj),(1,.pointer (some ⟨Ap,0,none⟩)),(2,.pointer (some ⟨Ba,0,none⟩)),(5,iV x1),(21,Be),(22,iV x1),(23,.pointer (some ⟨b32,o32,none⟩)),(24,.pointer (some ⟨b32,o32 + 9,none⟩)),(25,sV ((nth Ag x1).Of)),(26,Be),(27,iV Bj),(28,.pointer (some ⟨b33,o33,none⟩)),(29,.pointer (some ⟨b33,o33,none⟩)),(30,sV ((nth Ag Bj).Site)),(31,bV (decide (((nth Ag x1).Of) = ((nth Ag Bj).Site)))),(47,.func (.func 42) #[] #[.pointer (some ⟨Ap,0,none⟩),.pointer (some ⟨Ba,0,none⟩)]),(48,iV x1),(49,bV r2),(50,bV r2)] [] rfl (subR rfl)
        exact Tn (⟨r2,h,S.nf [] rfl (subR rfl)⟩)
       ·replace h:=Nr h hb5
        refine Fm [] ([]) Tryz.mixed S rfl (by kernel_rfl) ?_;clear S;intro w11 hk8 hsel S
        refine Ip [0,1,2,3,4,5,6,7,8,9,10,11,12,13,14,15,16,17,18,19,20,21,22,23,24,25,26,27,28,29,30,31,32,33,34,35,36] hsel (by kernel_rfl) rfl ?_
        clear hsel
        refine Er S rfl (Ep isAgg26 (off:=0) (o:=0) (S.tm rfl) ((Gw Ah).at S.emb0) rfl) rfl fun a S=>Er S rfl (Rm (S.tm rfl)) rfl ?_;clear S;intro a S
        obtain ⟨hc11,h⟩:=Hw h
        obtain ⟨b34,o34,hm34,hr36⟩:=Dt (a:=a) (x:=.tmp 14) (y:=.tmp 15) (ty:=0) Es Ay (Dg hc11).1 (Dg hc11).2 (S.tm rfl) (S.tm rfl)
        refine Er S rfl (hr36 _) rfl ?_;clear S;intro a S
        clear hr36
        refine Er S rfl (Em Jm (S.tm rfl)) rfl fun a S=>Er S rfl (Ep isAgg3 (off:=o34) (o:=3) (S.tm rfl) (hm34.at S.emb0) rfl) rfl fun a S=>Er S rfl (Hi (S.tm rfl) rfl) rfl fun a S=>Er S rfl (Rm (S.tm rfl)) rfl fun a S=>Gt S rfl rfl rfl rfl hb2 (Hv S (Ep isAgg26 (off:=0) (o:=0) (S.tm rfl) ((Gw Ah).at S.emb0) rfl) rfl fun a S=>Gt S rfl rfl rfl rfl hb2 (Hv S (Rm (S.tm rfl)) rfl fun a S=>Gt S rfl rfl rfl rfl hb2 ?_))
        obtain ⟨hc12,h⟩:=Hw h
        obtain ⟨b35,o35,hm35,hr37⟩:=Dt (a:=a) (x:=.tmp 21) (y:=.tmp 22) (ty:=0) Es Ay (Dg hc12).1 (Dg hc12).2 (S.tm rfl) (S.tm rfl)
        refine Hv S (hr37 _) rfl ?_;clear S;intro a S
        clear hr37
        refine Gt S rfl rfl rfl rfl hb2 (Hv S (Em Oe (S.tm rfl)) rfl fun a S=>Gt S rfl rfl rfl rfl hb2 (Hv S (Ep isAgg9 (off:=o35) (o:=9) (S.tm rfl) (hm35.at S.emb0) rfl) rfl fun a S=>Gt S rfl rfl rfl rfl hb2 (Hv S (Ep isAgg26 (off:=0) (o:=0) (S.tm rfl) ((Gw Ah).at S.emb0) rfl) rfl fun a S=>Gt S rfl rfl rfl rfl hb2 (Hv S (Rm (S.tm rfl)) rfl fun a S=>Gt S rfl rfl rfl rfl hb2 ?_))))
        obtain ⟨hc13,h⟩:=Hw h
        obtain ⟨b36,o36,hm36,hr38⟩:=Dt (a:=a) (x:=.tmp 26) (y:=.tmp 27) (ty:=0) Es Ay (Dg hc13).1 (Dg hc13).2 (S.tm rfl) (S.tm rfl)
        refine Hv S (hr38 _) rfl ?_;clear S;intro a S
        clear hr38
        refine Gt S rfl rfl rfl rfl hb2 (Hv S (Em Ih (S.tm rfl)) rfl fun a S=>Gt S rfl rfl rfl rfl hb2 (Hv S (Ep isAgg9 (off:=o36) (o:=0) (S.tm rfl) (hm36.at S.emb0) rfl) rfl fun a S=>Gt S rfl rfl rfl rfl hb2 (Hv S (Pl (S.tm rfl) (S.tm rfl)) rfl fun a S=>Er S rfl (Ix hb2 (S.tm rfl) (S.tm rfl)) rfl fun a S=>Er S rfl (Rm (S.tm rfl)) rfl ?_)));clear S;intro a S
        iterate 11 (refine Oi S rfl rfl rfl rfl (Fl hb3) rfl ?_ rfl;clear S;intro a S)
        refine Er S rfl (Iy hb3 (S.tm rfl) rfl) rfl fun a S=>Er S rfl (Rm (S.tm rfl)) rfl ?_;clear S;intro a S
        iterate 3 (refine Oi S rfl rfl rfl rfl (Fl hb5) rfl ?_ rfl;clear S;intro a S)
        refine Er S rfl (Iy hb5 (S.tm rfl) rfl) rfl fun a S=>Iq ?_
        replace S:=S.k16 0 1 2 5 21 22 23 24 25 26 27 28 29 30 31 50 rfl
        exact Tn (⟨false,h,S.nf [] rfl (subR rfl)⟩)
     ·replace h:=Nr h hb2
      rcases Bool.eq_false_or_eq_true false with hb6 | hb6
      ·replace h:=Nq h hb6
       obtain ⟨hc14,h⟩:=Hw h
       obtain ⟨hc15,h⟩:=Hw h
       rcases Bool.eq_false_or_eq_true (decide (((nth Ag x1).Other) = ((nth Ag Bj).No))) with hb7 | hb7
       ·replace h:=Nq h hb7
        obtain ⟨r3,hr46,h⟩:=El h
        refine Fm [] ([]) Tryz.mixed S rfl (by kernel_rfl) ?_;clear S;intro w13 hk10 hsel S
        refine Da 0 S hsel rfl rfl rfl (by kernel_rfl) (by kernel_rfl) rfl (fun _ hw=>(Ep isAgg26 (off:=0) (o:=0) (S.tm rfl) (((Gw Ah).mono (S.le_arg Dj)).kept hw) rfl)) fun a S=>Da 1 S hsel rfl rfl rfl (by kernel_rfl) (by kernel_rfl) rfl (fun _ hw=>(Rm (S.tm rfl))) ?_;clear S;intro a S
        obtain ⟨b44,o44,hm44,hr47⟩:=Dt (a:=a) (x:=.tmp 14) (y:=.tmp 15) (ty:=0) Es (Ay.mono (S.le_arg Dj)) (Dg hc1).1 (Dg hc1).2 (S.tm rfl) (S.tm rfl)
        refine Da 2 S hsel rfl rfl rfl (by kernel_rfl) (by kernel_rfl) rfl (fun _ hw=>hr47 _) ?_;clear S;intro a S
        clear hr47
        refine Da 3 S hsel rfl rfl rfl (by kernel_rfl) (by kernel_rfl) rfl (fun _ hw=>(Em Jm (S.tm rfl))) fun a S=>Da 4 S hsel rfl rfl rfl (by kernel_rfl) (by kernel_rfl) rfl (fun _ hw=>(Ep isAgg3 (off:=o44) (o:=3) (S.tm rfl) (hm44.kept hw) rfl)) fun a S=>Da 5 S hsel rfl rfl rfl (by kernel_rfl) (by kernel_rfl) rfl (fun _ hw=>(Hi (S.tm rfl) rfl)) fun a S=>Da 6 S hsel rfl rfl rfl (by kernel_rfl) (by kernel_rfl) rfl (fun _ hw=>(Rm (S.tm rfl))) fun a S=>Hj 7 S hsel rfl rfl rfl rfl (Fl hb2) rfl (by kernel_rfl) (by kernel_rfl) rfl fun a S=>Hj 8 S hsel rfl rfl rfl rfl (Fl hb2) rfl (by kernel_rfl) (by kernel_rfl) rfl fun a S=>Hj 9 S hsel rfl rfl rfl rfl (Fl hb2) rfl (by kernel_rfl) (by kernel_rfl) rfl fun a S=>Hj 10 S hsel rfl rfl rfl rfl (Fl hb2) rfl (by kernel_rfl) (by kernel_rfl) rfl fun a S=>Hj 11 S hsel rfl rfl rfl rfl (Fl hb2) rfl (by kernel_rfl) (by kernel_rfl) rfl fun a S=>Hj 12 S hsel rfl rfl rfl rfl (Fl hb2) rfl (by kernel_rfl) (by kernel_rfl) rfl fun a S=>Hj 13 S hsel rfl rfl rfl rfl (Fl hb2) rfl (by kernel_rfl) (by kernel_rfl) rfl ?_;clear S;intro a S
        refine Hj 14 S hsel rfl rfl rfl rfl (Fl hb2) rfl (by kernel_rfl) (by kernel_rfl) rfl fun a S=>Hj 15 S hsel rfl rfl rfl rfl (Fl hb2) rfl (by kernel_rfl) (by kernel_rfl) rfl fun a S=>Hj 16 S hsel rfl rfl rfl rfl (Fl hb2) rfl (by kernel_rfl) (by kernel_rfl) rfl fun a S=>Hj 17 S hsel rfl rfl rfl rfl (Fl hb2) rfl (by kernel_rfl) (by kernel_rfl) rfl fun a S=>Da 18 S hsel rfl rfl rfl (by kernel_rfl) (by kernel_rfl) rfl (fun _ hw=>(Iy hb2 (S.tm rfl) rfl)) fun a S=>Da 19 S hsel rfl rfl rfl (by kernel_rfl) (by kernel_rfl) rfl (fun _ hw=>(Rm (S.tm rfl))) fun a S=>Df 20 S hsel rfl rfl rfl rfl hb6 rfl rfl (by kernel_rfl) (by kernel_rfl) rfl (fun _ hw=>(Ep isAgg26 (off:=0) (o:=0) (S.tm rfl) (((Gw Ah).mono (S.le_arg Dj)).kept hw) rfl)) fun a S=>Df 21 S hsel rfl rfl rfl rfl hb6 rfl rfl (by kernel_rfl) (by kernel_rfl) rfl (fun _ hw=>(Rm (S.tm rfl))) ?_;clear S;intro a S
        obtain ⟨b45,o45,hm45,hr48⟩:=Dt (a:=a) (x:=.tmp 34) (y:=.tmp 35) (ty:=0) Es (Ay.mono (S.le_arg Dj)) (Dg hc14).1 (Dg hc14).2 (S.tm rfl) (S.tm rfl)
        refine Df 22 S hsel rfl rfl rfl rfl hb6 rfl rfl (by kernel_rfl) (by kernel_rfl) rfl (fun _ hw=>hr48 _) ?_;clear S;intro a S
        clear hr48
        refine Df 23 S hsel rfl rfl rfl rfl hb6 rfl rfl (by kernel_rfl) (by kernel_rfl) rfl (fun _ hw=>(Em Mg (S.tm rfl))) fun a S=>Df 24 S hsel rfl rfl rfl rfl hb6 rfl rfl (by kernel_rfl) (by kernel_rfl) rfl (fun _ hw=>(Ep isAgg3 (off:=o45) (o:=10) (S.tm rfl) (hm45.kept hw) rfl)) fun a S=>Df 25 S hsel rfl rfl rfl rfl hb6 rfl rfl (by kernel_rfl) (by kernel_rfl) rfl (fun _ hw=>(Ep isAgg26 (off:=0) (o:=0) (S.tm rfl) (((Gw Ah).mono (S.le_arg Dj)).kept hw) rfl)) fun a S=>Df 26 S hsel rfl rfl rfl rfl hb6 rfl rfl (by kernel_rfl) (by kernel_rfl) rfl (fun _ hw=>(Rm (S.tm rfl))) ?_;clear S;intro a S
        obtain ⟨b46,o46,hm46,hr49⟩:=Dt (a:=a) (x:=.tmp 39) (y:=.tmp 40) (ty:=0) Es (Ay.mono (S.le_arg Dj)) (Dg hc15).1 (Dg hc15).2 (S.tm rfl) (S.tm rfl)
        refine Df 27 S hsel rfl rfl rfl rfl hb6 rfl rfl (by kernel_rfl) (by kernel_rfl) rfl (fun _ hw=>hr49 _) ?_;clear S;intro a S
        clear hr49
        refine Df 28 S hsel rfl rfl rfl rfl hb6 rfl rfl (by kernel_rfl) (by kernel_rfl) rfl (fun _ hw=>(Em Hd (S.tm rfl))) fun a S=>Df 29 S hsel rfl rfl rfl rfl hb6 rfl rfl (by kernel_rfl) (by kernel_rfl) rfl (fun _ hw=>(Ep isAgg3 (off:=o46) (o:=1) (S.tm rfl) (hm46.kept hw) rfl)) fun a S=>Df 30 S hsel rfl rfl rfl rfl hb6 rfl rfl (by kernel_rfl) (by kernel_rfl) rfl (fun _ hw=>(Hi (S.tm rfl) (S.tm rfl))) fun a S=>Da 31 S hsel rfl rfl rfl (by kernel_rfl) (by kernel_rfl) rfl (fun _ hw=>(Ix hb6 (S.tm rfl) (S.tm rfl))) fun a S=>Da 32 S hsel rfl rfl rfl (by kernel_rfl) (by kernel_rfl) rfl (fun _ hw=>(Rm (S.tm rfl))) fun a S=>Df 33 S hsel rfl rfl rfl rfl hb7 rfl rfl (by kernel_rfl) (by kernel_rfl) rfl (fun _ hw=>(Ep isAgg30 (off:=0) (o:=0) (S.tm rfl) (((Gw Bl).mono (S.le_arg Dj)).kept hw) rfl)) fun a S=>Df 34 S hsel rfl rfl rfl rfl hb7 rfl rfl (by kernel_rfl) (by kernel_rfl) rfl (fun _ hw=>(Rm (S.tm rfl))) fun a S=>Ey 35 (by kernel_rfl) rfl (Db S rfl rfl rfl hb7 (De S (fun _=>Md (cap:=[.pointer (some ⟨Ap,0,none⟩),.pointer (some ⟨Ba,0,none⟩)]) (S.tm rfl) (vs:=[iV x1]) ⟨(S.tm rfl),trivial⟩ call42) (hself _ x1 Ap Be Ag (Ay.mono (S.le_arg Dj)) ((S.le_arg Dj) _ _ Ah) Ba ((S.le_arg Dj) _ _ Bl) _ hr46) rfl ?_));clear S;intro v6 a w14 hv6 hk11 hn6 S
        subst hv6
        refine Ld (Fz hk11 (Ip [36] hsel (by kernel_rfl) rfl ?_))
        clear hsel
        refine Er S rfl (Ix hb7 (S.tm rfl) (S.tm rfl)) rfl fun a S=>Iq ?_
        replace S:=S.nk [] [(0,iV Bj),(1,.pointer (some ⟨Ap,0,none⟩)),(2,.pointer (some ⟨Ba,0,none⟩)),(5,iV x1),(34,Be),(35,iV x1),(36,.pointer (some ⟨b45,o45,none⟩)),(37,.pointer (some ⟨b45,o45 + 10,none⟩)),(38,iV ((nth Ag x1).Other)),(39,Be),(40,iV Bj),(41,.pointer (some ⟨b46,o46,none⟩)),(42,.pointer (some ⟨b46,o46 + 1,none⟩)),(43,iV ((nth Ag Bj).No)),(44,bV (decide (((nth Ag x1).Other) = ((nth Ag Bj).No)))),(47,.func (.func 42) #[] #[.pointer (some ⟨Ap,0,none⟩),.pointer (some ⟨Ba,0,none⟩)]),(48,iV x1),(49,bV r3),(50,bV r3)] [] rfl (subR rfl)
        exact Tn (⟨r3,h,S.nf [] rfl (subR rfl)⟩)
       ·replace h:=Nr h hb7
        refine Fm [] ([]) Tryz.mixed S rfl (by kernel_rfl) ?_;clear S;intro w15 hk12 hsel S
        refine Ip [0,1,2,3,4,5,6,7,8,9,10,11,12,13,14,15,16,17,18,19,20,21,22,23,24,25,26,27,28,29,30,31,32,33,34,35,36] hsel (by kernel_rfl) rfl ?_
        clear hsel
        refine Er S rfl (Ep isAgg26 (off:=0) (o:=0) (S.tm rfl) ((Gw Ah).at S.emb0) rfl) rfl fun a S=>Er S rfl (Rm (S.tm rfl)) rfl ?_;clear S;intro a S
        obtain ⟨hc16,h⟩:=Hw h
        obtain ⟨b47,o47,hm47,hr50⟩:=Dt (a:=a) (x:=.tmp 14) (y:=.tmp 15) (ty:=0) Es Ay (Dg hc16).1 (Dg hc16).2 (S.tm rfl) (S.tm rfl)
        refine Er S rfl (hr50 _) rfl ?_;clear S;intro a S
        clear hr50
        refine Er S rfl (Em Jm (S.tm rfl)) rfl fun a S=>Er S rfl (Ep isAgg3 (off:=o47) (o:=3) (S.tm rfl) (hm47.at S.emb0) rfl) rfl fun a S=>Er S rfl (Hi (S.tm rfl) rfl) rfl fun a S=>Er S rfl (Rm (S.tm rfl)) rfl ?_;clear S;intro a S
        iterate 11 (refine Oi S rfl rfl rfl rfl (Fl hb2) rfl ?_ rfl;clear S;intro a S)
        refine Er S rfl (Iy hb2 (S.tm rfl) rfl) rfl fun a S=>Er S rfl (Rm (S.tm rfl)) rfl fun a S=>Gt S rfl rfl rfl rfl hb6 (Hv S (Ep isAgg26 (off:=0) (o:=0) (S.tm rfl) ((Gw Ah).at S.emb0) rfl) rfl fun a S=>Gt S rfl rfl rfl rfl hb6 (Hv S (Rm (S.tm rfl)) rfl fun a S=>Gt S rfl rfl rfl rfl hb6 ?_))
        obtain ⟨hc17,h⟩:=Hw h
        obtain ⟨b48,o48,hm48,hr51⟩:=Dt (a:=a) (x:=.tmp 34) (y:=.tmp 35) (ty:=0) Es Ay (Dg hc17).1 (Dg hc17).2 (S.tm rfl) (S.tm rfl)
        refine Hv S (hr51 _) rfl ?_;clear S;intro a S
        clear hr51
        refine Gt S rfl rfl rfl rfl hb6 (Hv S (Em Mg (S.tm rfl)) rfl fun a S=>Gt S rfl rfl rfl rfl hb6 (Hv S (Ep isAgg3 (off:=o48) (o:=10) (S.tm rfl) (hm48.at S.emb0) rfl) rfl fun a S=>Gt S rfl rfl rfl rfl hb6 (Hv S (Ep isAgg26 (off:=0) (o:=0) (S.tm rfl) ((Gw Ah).at S.emb0) rfl) rfl fun a S=>Gt S rfl rfl rfl rfl hb6 (Hv S (Rm (S.tm rfl)) rfl fun a S=>Gt S rfl rfl rfl rfl hb6 ?_))))
        obtain ⟨hc18,h⟩:=Hw h
        obtain ⟨b49,o49,hm49,hr52⟩:=Dt (a:=a) (x:=.tmp 39) (y:=.tmp 40) (ty:=0) Es Ay (Dg hc18).1 (Dg hc18).2 (S.tm rfl) (S.tm rfl)
        refine Hv S (hr52 _) rfl ?_;clear S;intro a S
        clear hr52
        refine Gt S rfl rfl rfl rfl hb6 (Hv S (Em Hd (S.tm rfl)) rfl fun a S=>Gt S rfl rfl rfl rfl hb6 (Hv S (Ep isAgg3 (off:=o49) (o:=1) (S.tm rfl) (hm49.at S.emb0) rfl) rfl fun a S=>Gt S rfl rfl rfl rfl hb6 (Hv S (Hi (S.tm rfl) (S.tm rfl)) rfl fun a S=>Er S rfl (Ix hb6 (S.tm rfl) (S.tm rfl)) rfl fun a S=>Er S rfl (Rm (S.tm rfl)) rfl ?_)));clear S;intro a S
        iterate 3 (refine Oi S rfl rfl rfl rfl (Fl hb7) rfl ?_ rfl;clear S;intro a S)
        refine Er S rfl (Iy hb7 (S.tm rfl) rfl) rfl fun a S=>Iq ?_
        replace S:=S.k16 0 1 2 5 34 35 36 37 38 39 40 41 42 43 44 50 rfl
        exact Tn (⟨false,h,S.nf [] rfl (subR rfl)⟩)
      ·replace h:=Nr h hb6
       rcases Bool.eq_false_or_eq_true false with hb8 | hb8
       ·replace h:=Nq h hb8
        obtain ⟨r4,hr55,h⟩:=El h
        refine Fm [] ([]) Tryz.mixed S rfl (by kernel_rfl) ?_;clear S;intro w17 hk14 hsel S
        refine Da 0 S hsel rfl rfl rfl (by kernel_rfl) (by kernel_rfl) rfl (fun _ hw=>(Ep isAgg26 (off:=0) (o:=0) (S.tm rfl) (((Gw Ah).mono (S.le_arg Dj)).kept hw) rfl)) fun a S=>Da 1 S hsel rfl rfl rfl (by kernel_rfl) (by kernel_rfl) rfl (fun _ hw=>(Rm (S.tm rfl))) ?_;clear S;intro a S
        obtain ⟨b52,o52,hm52,hr56⟩:=Dt (a:=a) (x:=.tmp 14) (y:=.tmp 15) (ty:=0) Es (Ay.mono (S.le_arg Dj)) (Dg hc1).1 (Dg hc1).2 (S.tm rfl) (S.tm rfl)
        refine Da 2 S hsel rfl rfl rfl (by kernel_rfl) (by kernel_rfl) rfl (fun _ hw=>hr56 _) ?_;clear S;intro a S
        clear hr56
        refine Da 3 S hsel rfl rfl rfl (by kernel_rfl) (by kernel_rfl) rfl (fun _ hw=>(Em Jm (S.tm rfl))) fun a S=>Da 4 S hsel rfl rfl rfl (by kernel_rfl) (by kernel_rfl) rfl (fun _ hw=>(Ep isAgg3 (off:=o52) (o:=3) (S.tm rfl) (hm52.kept hw) rfl)) fun a S=>Da 5 S hsel rfl rfl rfl (by kernel_rfl) (by kernel_rfl) rfl (fun _ hw=>(Hi (S.tm rfl) rfl)) fun a S=>Da 6 S hsel rfl rfl rfl (by kernel_rfl) (by kernel_rfl) rfl (fun _ hw=>(Rm (S.tm rfl))) fun a S=>Hj 7 S hsel rfl rfl rfl rfl (Fl hb2) rfl (by kernel_rfl) (by kernel_rfl) rfl fun a S=>Hj 8 S hsel rfl rfl rfl rfl (Fl hb2) rfl (by kernel_rfl) (by kernel_rfl) rfl fun a S=>Hj 9 S hsel rfl rfl rfl rfl (Fl hb2) rfl (by kernel_rfl) (by kernel_rfl) rfl fun a S=>Hj 10 S hsel rfl rfl rfl rfl (Fl hb2) rfl (by kernel_rfl) (by kernel_rfl) rfl fun a S=>Hj 11 S hsel rfl rfl rfl rfl (Fl hb2) rfl (by kernel_rfl) (by kernel_rfl) rfl fun a S=>Hj 12 S hsel rfl rfl rfl rfl (Fl hb2) rfl (by kernel_rfl) (by kernel_rfl) rfl fun a S=>Hj 13 S hsel rfl rfl rfl rfl (Fl hb2) rfl (by kernel_rfl) (by kernel_rfl) rfl ?_;clear S;intro a S
        refine Hj 14 S hsel rfl rfl rfl rfl (Fl hb2) rfl (by kernel_rfl) (by kernel_rfl) rfl fun a S=>Hj 15 S hsel rfl rfl rfl rfl (Fl hb2) rfl (by kernel_rfl) (by kernel_rfl) rfl fun a S=>Hj 16 S hsel rfl rfl rfl rfl (Fl hb2) rfl (by kernel_rfl) (by kernel_rfl) rfl fun a S=>Hj 17 S hsel rfl rfl rfl rfl (Fl hb2) rfl (by kernel_rfl) (by kernel_rfl) rfl fun a S=>Da 18 S hsel rfl rfl rfl (by kernel_rfl) (by kernel_rfl) rfl (fun _ hw=>(Iy hb2 (S.tm rfl) rfl)) fun a S=>Da 19 S hsel rfl rfl rfl (by kernel_rfl) (by kernel_rfl) rfl (fun _ hw=>(Rm (S.tm rfl))) fun a S=>Hj 20 S hsel rfl rfl rfl rfl (Fl hb6) rfl (by kernel_rfl) (by kernel_rfl) rfl fun a S=>Hj 21 S hsel rfl rfl rfl rfl (Fl hb6) rfl (by kernel_rfl) (by kernel_rfl) rfl fun a S=>Hj 22 S hsel rfl rfl rfl rfl (Fl hb6) rfl (by kernel_rfl) (by kernel_rfl) rfl fun a S=>Hj 23 S hsel rfl rfl rfl rfl (Fl hb6) rfl (by kernel_rfl) (by kernel_rfl) rfl fun a S=>Hj 24 S hsel rfl rfl rfl rfl (Fl hb6) rfl (by kernel_rfl) (by kernel_rfl) rfl ?_;clear S;intro a S
        refine Hj 25 S hsel rfl rfl rfl rfl (Fl hb6) rfl (by kernel_rfl) (by kernel_rfl) rfl fun a S=>Hj 26 S hsel rfl rfl rfl rfl (Fl hb6) rfl (by kernel_rfl) (by kernel_rfl) rfl fun a S=>Hj 27 S hsel rfl rfl rfl rfl (Fl hb6) rfl (by kernel_rfl) (by kernel_rfl) rfl fun a S=>Hj 28 S hsel rfl rfl rfl rfl (Fl hb6) rfl (by kernel_rfl) (by kernel_rfl) rfl fun a S=>Hj 29 S hsel rfl rfl rfl rfl (Fl hb6) rfl (by kernel_rfl) (by kernel_rfl) rfl fun a S=>Hj 30 S hsel rfl rfl rfl rfl (Fl hb6) rfl (by kernel_rfl) (by kernel_rfl) rfl fun a S=>Da 31 S hsel rfl rfl rfl (by kernel_rfl) (by kernel_rfl) rfl (fun _ hw=>(Iy hb6 (S.tm rfl) rfl)) fun a S=>Da 32 S hsel rfl rfl rfl (by kernel_rfl) (by kernel_rfl) rfl (fun _ hw=>(Rm (S.tm rfl))) fun a S=>Df 33 S hsel rfl rfl rfl rfl hb8 rfl rfl (by kernel_rfl) (by kernel_rfl) rfl (fun _ hw=>(Ep isAgg30 (off:=0) (o:=0) (S.tm rfl) (((Gw Bl).mono (S.le_arg Dj)).kept hw) rfl)) fun a S=>Df 34 S hsel rfl rfl rfl rfl hb8 rfl rfl (by kernel_rfl) (by kernel_rfl) rfl (fun _ hw=>(Rm (S.tm rfl))) fun a S=>Ey 35 (by kernel_rfl) rfl ?_
        refine Db S rfl rfl rfl hb8 (De S (fun _=>Md (cap:=[.pointer (some ⟨Ap,0,none⟩),.pointer (some ⟨Ba,0,none⟩)]) (S.tm rfl) (vs:=[iV x1]) ⟨(S.tm rfl),trivial⟩ call42) (hself _ x1 Ap Be Ag (Ay.mono (S.le_arg Dj)) ((S.le_arg Dj) _ _ Ah) Ba ((S.le_arg Dj) _ _ Bl) _ hr55) rfl ?_);clear S;intro v8 a w18 hv8 hk15 hn8 S
        subst hv8
        refine Ld (Fz hk15 (Ip [36] hsel (by kernel_rfl) rfl ?_))
        clear hsel
        refine Er S rfl (Ix hb8 (S.tm rfl) (S.tm rfl)) rfl fun a S=>Iq ?_
        replace S:=S.k8 0 1 2 5 47 48 49 50 rfl
        exact Tn (⟨r4,h,S.nf [] rfl (subR rfl)⟩)
       ·replace h:=Nr h hb8
        refine Fm [] ([]) Tryz.mixed S rfl (by kernel_rfl) ?_;clear S;intro w19 hk16 hsel S
        refine Ip [0,1,2,3,4,5,6,7,8,9,10,11,12,13,14,15,16,17,18,19,20,21,22,23,24,25,26,27,28,29,30,31,32,33,34,35,36] hsel (by kernel_rfl) rfl ?_
        clear hsel
        refine Er S rfl (Ep isAgg26 (off:=0) (o:=0) (S.tm rfl) ((Gw Ah).at S.emb0) rfl) rfl fun a S=>Er S rfl (Rm (S.tm rfl)) rfl ?_;clear S;intro a S
        obtain ⟨hc19,h⟩:=Hw h
        obtain ⟨b53,o53,hm53,hr57⟩:=Dt (a:=a) (x:=.tmp 14) (y:=.tmp 15) (ty:=0) Es Ay (Dg hc19).1 (Dg hc19).2 (S.tm rfl) (S.tm rfl)
        refine Er S rfl (hr57 _) rfl ?_;clear S;intro a S
        clear hr57
        refine Er S rfl (Em Jm (S.tm rfl)) rfl fun a S=>Er S rfl (Ep isAgg3 (off:=o53) (o:=3) (S.tm rfl) (hm53.at S.emb0) rfl) rfl fun a S=>Er S rfl (Hi (S.tm rfl) rfl) rfl fun a S=>Er S rfl (Rm (S.tm rfl)) rfl ?_;clear S;intro a S
        iterate 11 (refine Oi S rfl rfl rfl rfl (Fl hb2) rfl ?_ rfl;clear S;intro a S)
        refine Er S rfl (Iy hb2 (S.tm rfl) rfl) rfl fun a S=>Er S rfl (Rm (S.tm rfl)) rfl ?_;clear S;intro a S
        iterate 11 (refine Oi S rfl rfl rfl rfl (Fl hb6) rfl ?_ rfl;clear S;intro a S)
        refine Er S rfl (Iy hb6 (S.tm rfl) rfl) rfl fun a S=>Er S rfl (Rm (S.tm rfl)) rfl ?_;clear S;intro a S
        iterate 3 (refine Oi S rfl rfl rfl rfl (Fl hb8) rfl ?_ rfl;clear S;intro a S)
        refine Er S rfl (Iy hb8 (S.tm rfl) rfl) rfl fun a S=>Iq ?_
        replace S:=S.k5 0 1 2 5 50 rfl
        exact Tn (⟨false,h,S.nf [] rfl (subR rfl)⟩)
    clear S h;rintro a w3 ⟨x2,h,S⟩;rw [hj2] at h;clear hj2 j2
    refine Tn (Fc h (S.tm rfl) (fun hb9 h=>?_) (fun hb9 h=>?_))
    ·refine Fr (Vk S rfl rfl fun a S=>Dl (wp_ret (Gg (Dc (Dc (Gg (Dc ?_)))))))
     refine Dc ?_
     obtain rfl:=Option.some.inj h
     exact Dx S results42 rfl rfl
    ·exact wp_skip (Ia (Tn (Fg (Vm S rfl rfl fun a S=>Vq S Ge rfl rfl rfl fun a S=>Va S rfl rfl fun a S=>Dl (⟨m1,⟨W (x1 + 1),h,S.nf [] rfl ⟨rfl,rfl,rfl,rfl,trivial⟩⟩,Nat.lt_succ_self _⟩)))))
   ·exact wp_exit (Et (Et (Hp (Tn (⟨h,S.nf [] rfl trivial⟩)))))
 clear S h;rintro a w2 ⟨h,S⟩;rw [hj1] at h;clear hj1 j1
 refine Tn (Fr (Vk S rfl rfl fun a S=>Dl (wp_ret ?_)))
 obtain rfl:=Option.some.inj h
 exact Dx S results42 rfl rfl
theorem Qs (m : Nat) : ∀ (w : World) (Bj : Int) (Ap : Nat) (Be : Value) (Ag : List An) (_ : Slc (view w []) 11 Be (Ag.map An.enc)) (_ : (view w []) Ap = some (.cells [Be].toArray 26 (0,0))) (Ba : Nat) (_ : (view w []) Ba = some (.cells [.func (.func 42) #[] #[.pointer (some ⟨Ap,0,none⟩),.pointer (some ⟨Ba,0,none⟩)]].toArray 30 (0,0))) (r : Bool) (_ : Gj m Bj Ag = some r),
    Calls prog 42 [iV Bj,.pointer (some ⟨Ap,0,none⟩),.pointer (some ⟨Ba,0,none⟩)].toArray w (Ret w [] fun _ v _=>v = bV r):=by
  induction m with
  | zero=>intros;rename_i h;rw [Gj] at h;cases h
  | succ m ih=>exact fun w Bj Ap Be Ag Ay Ah Ba Bl r h=>Qe (Gj m) ih w Bj Ap Be Ag Ay Ah Ba Bl r h
theorem Sk (w : World) (Aa : Value) (Ae : List An) (Ad : Slc (view w []) 11 Aa (Ae.map An.enc)) (Au : Int) (r : (List Int)) (h : Ji Ae Au = some r) :
    Calls prog 16 [Aa,iV Au].toArray w (Ret w [] fun τ v _=>Mq τ 3 1 v r.length (r.flatMap eInt)):=by
 refine Fe func16 rfl ntmps16 rfl fun a S=>?_
 unfold Ji at h
 replace S:=S.k2 0 1 rfl
 refine Fr (Vk S rfl rfl fun a S=>Dz (It S zeroValue26 (cs:=[.slice none 0 0]) rfl rfl ?_));clear S;intro a w1 b1 hz1 hk1 S
 replace S:=S.nil 33 11
 refine Dl (Fs (Fr (Vm S rfl rfl fun a S=>lv S (Fd Es (S.tm rfl) (Fb Ad)) rfl fun a S=>lv S (Rm rfl) rfl fun a S=>Dl ?_)))
 replace S:=(S.nl [.own (.slice none 0 0) 33 11 ([] : List An).length (([] : List An).flatMap An.enc),.blk b1 [(.slice none 0 0)] 26] [true,true] rfl).k5 1 5 11 12 13 rfl
 obtain ⟨j1,hj1,h⟩:=En h
 refine Ec (fun a w'=>∃ x1 : List An,∃ v1 : Value,j1 x1 = some r ∧ Sx w [] nov [.own v1 33 11 x1.length (x1.flatMap An.enc),.blk b1 [v1] 26] [(5,.pointer (some ⟨b1,0,none⟩))] 41 a w') ?_ ?_
 ·refine wp_block (Hx (fun (ys1 : List An) a w'=>∃ i1 : Nat,∃ x1 : List An,∃ v1 : Value,(∃ dn,Ae = dn ++ ys1 ∧ dn.length = i1) ∧ Gb Au j1 ys1 i1 x1 = some r ∧ Sx w [] nov [.own v1 33 11 x1.length (x1.flatMap An.enc),.blk b1 [v1] 26] [(1,iV Au),(5,.pointer (some ⟨b1,0,none⟩)),(11,Aa),(12,iV (Ae.length : Int)),(13,iV (i1 : Int))] 41 a w') List.length Ae ⟨0,([] : List An),(.slice none 0 0),⟨[],rfl,rfl⟩,h,S.nf [true,true] rfl (subR rfl)⟩ ?_)
  clear S h;rintro ys1 a w2 ⟨i1,x1,v1,⟨dn,hd1,hi1⟩,h,S⟩
  cases ys1 with
  | nil =>
   rw [Gb.eq_1] at h
   refine Fr (Vb S Fa rfl rfl rfl fun a S=>Ld ?_)
   replace S:=S.k6 1 5 11 12 13 14 rfl
   exact Tn (Fs (wp_cond_false ((S.tm rfl).trans (congrArg Value.bool (Jk hd1 hi1))) (wp_exit (Et (Et (Hp (Tn (⟨x1,v1,h,S.nf [true,true] rfl ⟨rfl,trivial⟩⟩))))))))
  | cons y1 ys1 =>
   rw [Gb.eq_2] at h
   refine Fr (Vb S Fa rfl rfl rfl fun a S=>Ld ?_)
   replace S:=S.k6 1 5 11 12 13 14 rfl
   refine Tn (Fs (wp_cond_true ((S.tm rfl).trans (congrArg Value.bool (Hy hd1 hi1))) (wp_skip (Tn (Fs ?_)))))
   obtain ⟨j2,hj2,h⟩:=En h
   refine Ec (fun a w'=>∃ x2 : List An,∃ v2 : Value,j2 x2 = some r ∧ Sx w [] nov [.own v2 33 11 x2.length (x2.flatMap An.enc),.blk b1 [v2] 26] [(1,iV Au),(5,.pointer (some ⟨b1,0,none⟩)),(11,Aa),(12,iV (Ae.length : Int)),(13,iV (i1 : Int))] 41 a w') ?_ ?_
   ·refine wp_block (Fs (Fg ?_))
    obtain ⟨b2,o1,hm1,hr1⟩:=Dt (a:=a) (x:=.tmp 11) (y:=.tmp 13) (ty:=0) Es Ad (Jp hd1 hi1) rfl (S.tm rfl) (S.tm rfl)
    refine lv S (hr1 _) rfl ?_;clear S;intro a S
    clear hr1
    refine lv S (Ev isAgg33 sizeOf33 (off:=o1) (o:=0) (part:=(An.enc y1)) rfl rfl (S.tm rfl) (hm1.at S.emb0)) rfl fun a S=>It S zeroValue33 (cs:=[sV Cw,iV 0,iV 0,iV 0,sV Cw,sV Cw,sV Cw,iV 0,iV 0,sV Cw,iV 0]) rfl rfl ?_;clear S;intro a w5 b3 hz2 hk2 S
    refine Ef S (S.tm rfl) (S.tm rfl) (i:=0) (off:=0) rfl sizeOf33 (vs:=(An.enc y1)) rfl rfl rfl rfl ?_;clear S;intro w6 hk3 S
    refine Dz (Vf Jv S rfl rfl fun a S=>Vl isAgg3 0 S rfl rfl rfl rfl fun a S=>Vm S rfl rfl fun a S=>Vb S Sa rfl rfl rfl fun a S=>Dl ?_)
    obtain ⟨j3,hj3,h⟩:=En h
    refine Ec (fun a w'=>∃ x3 : List An,∃ v3 : Value,j3 x3 = some r ∧ Sx w [] nov [.own v3 33 11 x3.length (x3.flatMap An.enc),.blk b1 [v3] 26] [(1,iV Au),(5,.pointer (some ⟨b1,0,none⟩)),(11,Aa),(12,iV (Ae.length : Int)),(13,iV (i1 : Int))] 41 a w') ?_ ?_
    ·refine Fc h (S.tm rfl) (fun hb1 h=>?_) (fun hb1 h=>?_)
     ·refine Fg (Vl isAgg26 2 S rfl rfl rfl rfl fun a S=>lv S (Ev isAgg33 sizeOf33 (off:=0) (o:=0) (part:=(An.enc y1)) rfl rfl (S.tm rfl) (S.cellsAt (i:=0) rfl)) rfl fun a S=>Eg S underlying26 sizeOf33 zeroValue33 rfl rfl (pv:=[(0,.agg (An.enc y1).toArray)]) ⟨rfl,(S.tm rfl),trivial⟩ (cs:=[sV y1.Site,iV y1.No,iV y1.At,iV y1.Kind,sV y1.Who,sV y1.Club,sV y1.Race,iV y1.Time,iV y1.Fault,sV y1.Of,iV y1.Other]) (by kernel_rfl) rfl ?_);clear S;intro a w8 b4 hz3 hk4 S
      obtain ⟨hc1,h⟩:=Hw h
      refine Li Es An.enc_ok S (S.tm rfl) (i:=2) rfl (S.tm rfl) (j:=0) rfl (ys:=[y1]) rfl rfl rfl rfl (by have:=Nh hc1;omega) rfl ?_;clear S;intro v4 a w9 hk5 S
      refine Ef S (S.tm rfl) (S.tm rfl) (i:=3) (off:=0) rfl sizeOf26 (vs:=[v4]) (Jd.cells (Mr (S.own_at (i:=2) rfl))) rfl rfl (all1 (Jd.one (Mr (S.own_at (i:=2) rfl))) rfl) ?_;clear S;intro w10 hk6 S
      refine Ld ?_
      replace S:=(S.nl [.own v4 33 11 (x1 ++ [y1]).length ((x1 ++ [y1]).flatMap An.enc),.blk b1 [v4] 26] [false,false,true,true] rfl).k5 1 5 11 12 13 rfl
      exact Tn (⟨(x1 ++ [y1]),v4,h,S.nf [true,true] rfl (subR rfl)⟩)
     ·exact wp_skip (Tn (⟨x1,v1,h,S.nf [false,true,true] rfl (subR rfl)⟩))
    clear S h;rintro a w7 ⟨x3,v3,h,S⟩;rw [hj3] at h;clear hj3 j3
    exact Ia (Tn (⟨x3,v3,h,S.nf [true,true] rfl (subR rfl)⟩))
   clear S h;rintro a w4 ⟨x2,v2,h,S⟩;rw [hj2] at h;clear hj2 j2
   exact Tn (Fg (Vq S Ge rfl rfl rfl fun a S=>Vm S rfl rfl fun a S=>Dl (⟨ys1,⟨i1 + 1,x2,v2,⟨_,(hd1).trans (List.append_cons _ _ _),by simp [hi1]⟩,h,S.nf [true,true] rfl ⟨rfl,rfl,rfl,rfl,(congrArg (fun z=>some (Value.int .i64 z)) (Hz hd1 hi1 (Iz Ad))),trivial⟩⟩,Nat.lt_succ_self _⟩)))
 clear S h;rintro a w3 ⟨x1,v1,h,S⟩;rw [hj1] at h;clear hj1 j1
 refine Tn (Fr (It S zeroValue30 (cs:=[.nilFunc]) rfl rfl ?_));clear S;intro a w11 b5 hz4 hk7 S
 refine Dz (lv S (Ok (us:=#[]) (xs:=[].toArray) (ys:=[.tmp 5,.tmp 8].toArray) (by simp) (evA ⟨(S.tm rfl),(S.tm rfl),trivial⟩ (vs:=[.pointer (some ⟨b1,0,none⟩),.pointer (some ⟨b5,0,none⟩)]))) rfl fun a S=>Ef S (S.tm rfl) (S.tm rfl) (i:=0) (off:=0) rfl sizeOf30 (vs:=[.func (.func 42) #[] #[.pointer (some ⟨b1,0,none⟩),.pointer (some ⟨b5,0,none⟩)]]) rfl rfl rfl rfl ?_);clear S;intro w12 hk8 S
 refine Dz (Vk S rfl rfl ?_);clear S;intro a S
 replace S:=S.nil 3 1
 refine Dl (Fs (Fr (Vl isAgg26 3 S rfl rfl rfl rfl fun a S=>lv S (Fd Es (S.tm rfl) (Mr (S.own_at (i:=2) rfl))) rfl fun a S=>lv S (Rm rfl) rfl fun a S=>Dl ?_)))
 replace S:=(S.nl [.own (.slice none 0 0) 3 1 ([] : List Int).length (([] : List Int).flatMap eInt),.blk b5 [.func (.func 42) #[] #[.pointer (some ⟨b1,0,none⟩),.pointer (some ⟨b5,0,none⟩)]] 30,.own v1 33 11 x1.length (x1.flatMap An.enc),.blk b1 [v1] 26] [true,true,true,true] rfl).k4 8 9 28 29 rfl
 obtain ⟨j4,hj4,h⟩:=En h
 refine Ec (fun a w'=>∃ x4 : List Int,∃ v5 : Value,j4 x4 = some r ∧ Sx w [] nov [.own v5 3 1 x4.length (x4.flatMap eInt),.blk b5 [.func (.func 42) #[] #[.pointer (some ⟨b1,0,none⟩),.pointer (some ⟨b5,0,none⟩)]] 30,.own v1 33 11 x1.length (x1.flatMap An.enc),.blk b1 [v1] 26] [(9,v5)] 41 a w') ?_ ?_
 ·refine wp_block (Hx (fun (m1 : Nat) a w'=>∃ x4 : List Int,∃ x5 : Int,∃ v5 : Value,Gc x1 j4 m1 x4 x5 = some r ∧ Sx w [] nov [.own v5 3 1 x4.length (x4.flatMap eInt),.blk b5 [.func (.func 42) #[] #[.pointer (some ⟨b1,0,none⟩),.pointer (some ⟨b5,0,none⟩)]] 30,.own v1 33 11 x1.length (x1.flatMap An.enc),.blk b1 [v1] 26] [(8,.pointer (some ⟨b5,0,none⟩)),(9,v5),(28,iV (x1.length : Int)),(29,iV x5)] 41 a w') id (((x1.length : Int) - 0).toNat + 2) ⟨([] : List Int),0,(.slice none 0 0),h,S.nf [true,true,true,true] rfl (subR rfl)⟩ ?_)
  clear S h;rintro m1 a w13 ⟨x4,x5,v5,h,S⟩
  cases m1 with
  | zero=>rw [Gc.eq_1] at h;cases h
  | succ m1 =>
   rw [Gc.eq_2] at h
   refine Fr (Vb S Fa rfl rfl rfl fun a S=>Dl (Fs (Fc h (S.tm rfl) (fun hb2 h=>?_) (fun hb2 h=>?_))))
   ·refine wp_skip (Tn (Fs ?_))
    obtain ⟨j5,hj5,h⟩:=En h
    refine Ec (fun a w'=>∃ x6 : List Int,∃ v6 : Value,j5 x6 = some r ∧ Sx w [] nov [.own v6 3 1 x6.length (x6.flatMap eInt),.blk b5 [.func (.func 42) #[] #[.pointer (some ⟨b1,0,none⟩),.pointer (some ⟨b5,0,none⟩)]] 30,.own v1 33 11 x1.length (x1.flatMap An.enc),.blk b1 [v1] 26] [(8,.pointer (some ⟨b5,0,none⟩)),(9,v6),(28,iV (x1.length : Int)),(29,iV x5)] 41 a w') ?_ ?_
    ·refine wp_block (Fr (Vm S rfl rfl fun a S=>Va S rfl rfl fun a S=>Dz (Vl isAgg30 1 S rfl rfl rfl rfl fun a S=>Vm S rfl rfl ?_)));clear S;intro a S
     obtain ⟨r1,hr2,h⟩:=El h
     refine De S (fun _=>Md (cap:=[.pointer (some ⟨b1,0,none⟩),.pointer (some ⟨b5,0,none⟩)]) (S.tm rfl) (vs:=[iV x5]) ⟨(S.tm rfl),trivial⟩ call42) (Qs 16 _ x5 b1 v1 x1 (Rh An.enc_ok S (i:=2) rfl (Gs (e':=.own v1 33 11 x1.length (x1.flatMap An.enc)))) (S.blk_view (i:=3) rfl ((Gs (e':=.blk b1 [v1] 26)) _ rfl)) b5 (S.blk_view (i:=1) rfl ((Gs (e':=.blk b5 [.func (.func 42) #[] #[.pointer (some ⟨b1,0,none⟩),.pointer (some ⟨b5,0,none⟩)]] 30)) _ rfl)) _ hr2) rfl ?_;clear S;intro v7 a w16 hv1 hk9 hn1 S
     subst hv1
     refine Dl ?_
     obtain ⟨j6,hj6,h⟩:=En h
     refine Ec (fun a w'=>∃ x7 : List Int,∃ v8 : Value,j6 x7 = some r ∧ Sx w [] nov [.own v8 3 1 x7.length (x7.flatMap eInt),.blk b5 [.func (.func 42) #[] #[.pointer (some ⟨b1,0,none⟩),.pointer (some ⟨b5,0,none⟩)]] 30,.own v1 33 11 x1.length (x1.flatMap An.enc),.blk b1 [v1] 26] [(8,.pointer (some ⟨b5,0,none⟩)),(9,v8),(28,iV (x1.length : Int)),(29,iV x5)] 41 a w') ?_ ?_
     ·refine Fc h (S.tm rfl) (fun hb3 h=>?_) (fun hb3 h=>?_)
      ·refine Fg (Vm S rfl rfl fun a S=>Vm S rfl rfl fun a S=>Eg S underlying22 sizeOf3 zeroValue3 rfl rfl (pv:=[(0,iV x5)]) ⟨rfl,(S.tm rfl),trivial⟩ (cs:=[iV x5]) (by kernel_rfl) rfl ?_);clear S;intro a w18 b6 hz5 hk10 S
       obtain ⟨hc2,h⟩:=Hw h
       refine Li Kz Iu S (S.tm rfl) (i:=1) rfl (S.tm rfl) (j:=0) rfl (ys:=[x5]) rfl rfl rfl rfl (by have:=Nh hc2;omega) rfl ?_;clear S;intro v9 a w19 hk11 S
       exact Va S rfl rfl fun a S=>Dl (⟨(x4 ++ [x5]),v9,h,S.nf [false,true,true,true,true] rfl (subR rfl)⟩)
      ·exact wp_skip (Tn (⟨x4,v5,h,S.nf [true,true,true,true] rfl (subR rfl)⟩))
     clear S h;rintro a w17 ⟨x7,v8,h,S⟩;rw [hj6] at h;clear hj6 j6
     exact Ia (Tn (⟨x7,v8,h,S.nf [true,true,true,true] rfl (subR rfl)⟩))
    clear S h;rintro a w15 ⟨x6,v6,h,S⟩;rw [hj5] at h;clear hj5 j5
    exact Tn (Fg (Vq S Ge rfl rfl rfl fun a S=>Vm S rfl rfl fun a S=>Dl (⟨m1,⟨x6,W (x5 + 1),v6,h,S.nf [true,true,true,true] rfl ⟨rfl,rfl,rfl,rfl,trivial⟩⟩,Nat.lt_succ_self _⟩)))
   ·exact wp_exit (Et (Et (Hp (Tn (⟨x4,v5,h,S.nf [true,true,true,true] rfl ⟨rfl,trivial⟩⟩)))))
 clear S h;rintro a w14 ⟨x4,v5,h,S⟩;rw [hj4] at h;clear hj4 j4
 refine Tn (Fr (Vm S rfl rfl fun a S=>Va S rfl rfl fun a S=>Dl (wp_ret ?_)))
 obtain rfl:=Option.some.inj h
 exact Dx S results16 rfl (Oq S (i:=0) rfl rfl)
set_option maxRecDepth 20000 in
theorem Pv (w : World) (Cc : Value) (Cd : List An) (Bu : Slc (view w []) 11 Cc (Cd.map An.enc)) (Ce : Value) (Ck : List An) (Ci : Slc (view w []) 11 Ce (Ck.map An.enc)) (r : Bool) (h : Iv Cd Ck = some r) :
    Calls prog 18 [Cc,Ce].toArray w (Ret w [] fun _ v _=>v = bV r):=by
 refine Fe func18 rfl ntmps18 rfl fun a S=>?_
 unfold Iv at h
 replace S:=S.k2 0 1 rfl
 refine Fr (Vk S rfl rfl fun a S=>Dl (Fs (Fr (Vm S rfl rfl fun a S=>lv S (Fd Es (S.tm rfl) (Fb Bu)) rfl fun a S=>Vm S rfl rfl ?_))));clear S;intro a S
 refine lv S (Fd Es (S.tm rfl) (Fb Ci)) rfl fun a S=>Vb S Io rfl rfl rfl fun a S=>Dl (Fc h (S.tm rfl) (fun hb1 h=>?_) (fun hb1 h=>?_))
 ·refine Fr (Vk S rfl rfl fun a S=>Dl (wp_ret (Dc ?_)))
  obtain rfl:=Option.some.inj h
  exact Dx S results18 rfl rfl
 ·refine wp_skip (Tn (Fs (Fr (Vm S rfl rfl fun a S=>lv S (Fd Es (S.tm rfl) (Fb Bu)) rfl fun a S=>lv S (Rm rfl) rfl fun a S=>Dl ?_))))
  replace S:=S.k4 0 1 12 13 rfl
  obtain ⟨j1,hj1,h⟩:=En h
  refine Ec (fun a w'=>j1 = some r ∧ Sx w [] nov [] [] 26 a w') ?_ ?_
  ·refine wp_block (Hx (fun (ys1 : List An) a w'=>∃ i1 : Nat,(∃ dn,Cd = dn ++ ys1 ∧ dn.length = i1) ∧ Hk Ck j1 ys1 i1 = some r ∧ Sx w [] nov [] [(0,Cc),(1,Ce),(12,iV (Cd.length : Int)),(13,iV (i1 : Int))] 26 a w') List.length Cd ⟨0,⟨[],rfl,rfl⟩,h,S.nf [] rfl (subR rfl)⟩ ?_)
   clear S h;rintro ys1 a w1 ⟨i1,⟨dn,hd1,hi1⟩,h,S⟩
   cases ys1 with
   | nil =>
    rw [Hk.eq_1] at h
    refine Fr (Vb S Fa rfl rfl rfl fun a S=>Ld ?_)
    replace S:=S.k5 0 1 12 13 14 rfl
    exact Tn (Fs (wp_cond_false ((S.tm rfl).trans (congrArg Value.bool (Jk hd1 hi1))) (wp_exit (Et (Et (Hp (Tn (⟨h,S.nf [] rfl trivial⟩))))))))
   | cons y1 ys1 =>
    rw [Hk.eq_2] at h
    refine Fr (Vb S Fa rfl rfl rfl fun a S=>Ld ?_)
    replace S:=S.k5 0 1 12 13 14 rfl
    refine Tn (Fs (wp_cond_true ((S.tm rfl).trans (congrArg Value.bool (Hy hd1 hi1))) (wp_skip (Tn (Fs (wp_block (Fr (Vm S rfl rfl fun a S=>Va S rfl rfl ?_))))))));clear S;intro a S
    refine Dl (Fs (Fm [] ([]) Tryz.mixed S rfl (by kernel_rfl) ?_));clear S;intro w3 hk1 hsel S
    refine Ip [0,1,2,3,4,5,6,7,8] hsel (by kernel_rfl) rfl ?_
    clear hsel
    refine Er S rfl (Rm (S.tm rfl)) rfl fun a S=>Er S rfl (Rm (S.tm rfl)) rfl ?_;clear S;intro a S
    obtain ⟨b1,o1,hm1,hr1⟩:=Dt (a:=a) (x:=.tmp 16) (y:=.tmp 17) (ty:=0) Es Bu (Jp hd1 hi1) rfl (S.tm rfl) (S.tm rfl)
    refine Er S rfl (hr1 _) rfl ?_;clear S;intro a S
    clear hr1
    refine Er S rfl (Ev isAgg33 sizeOf33 (off:=o1) (o:=0) (part:=(An.enc y1)) rfl rfl (S.tm rfl) (hm1.at S.emb0)) rfl fun a S=>Er S rfl (Rm (S.tm rfl)) rfl fun a S=>Er S rfl (Rm (S.tm rfl)) rfl ?_;clear S;intro a S
    obtain ⟨hc1,h⟩:=Hw h
    obtain ⟨b2,o2,hm2,hr2⟩:=Dt (a:=a) (x:=.tmp 20) (y:=.tmp 21) (ty:=0) Es Ci (Dg hc1).1 (Dg hc1).2 (S.tm rfl) (S.tm rfl)
    refine Er S rfl (hr2 _) rfl ?_;clear S;intro a S
    clear hr2
    refine Er S rfl (Ev isAgg33 sizeOf33 (off:=o2) (o:=0) (part:=(An.enc (nth Ck (i1 : Int)))) rfl rfl (S.tm rfl) (hm2.at S.emb0)) rfl fun a S=>Er S rfl (Rr (m:=y1) (n:=(nth Ck (i1 : Int))) (S.tm rfl) (S.tm rfl)) rfl fun a S=>Iq ?_
    replace S:=S.k5 0 1 12 13 24 rfl
    refine Tn (Fc h (S.tm rfl) (fun hb2 h=>?_) (fun hb2 h=>?_))
    ·refine Fr (Vk S rfl rfl fun a S=>Dl (wp_ret (Gg (Dc (Dc (Gg (Dc ?_)))))))
     refine Dc ?_
     obtain rfl:=Option.some.inj h
     exact Dx S results18 rfl rfl
    ·exact wp_skip (Ia (Tn (Fg (Vq S Ge rfl rfl rfl fun a S=>Vm S rfl rfl fun a S=>Dl (⟨ys1,⟨i1 + 1,⟨_,(hd1).trans (List.append_cons _ _ _),by simp [hi1]⟩,h,S.nf [] rfl ⟨rfl,rfl,rfl,(congrArg (fun z=>some (Value.int .i64 z)) (Hz hd1 hi1 (Iz Bu))),trivial⟩⟩,Nat.lt_succ_self _⟩)))))
  clear S h;rintro a w2 ⟨h,S⟩;rw [hj1] at h;clear hj1 j1
  refine Tn (Fr (Vk S rfl rfl fun a S=>Dl (wp_ret ?_)))
  obtain rfl:=Option.some.inj h
  exact Dx S results18 rfl rfl
set_option maxRecDepth 20000 in
theorem Tz (w : World) (Cc : Value) (Cd : List Int) (Bu : Slc (view w []) 1 Cc (Cd.map eInt)) (Ce : Value) (Ck : List Int) (Ci : Slc (view w []) 1 Ce (Ck.map eInt)) (r : Bool) (h : Lj Cd Ck = some r) :
    Calls prog 19 [Cc,Ce].toArray w (Ret w [] fun _ v _=>v = bV r):=by
 refine Fe func19 rfl ntmps19 rfl fun a S=>?_
 unfold Lj at h
 replace S:=S.k2 0 1 rfl
 refine Fr (Vk S rfl rfl fun a S=>Dl (Fs (Fr (Vm S rfl rfl fun a S=>lv S (Fd Kz (S.tm rfl) (Fb Bu)) rfl fun a S=>Vm S rfl rfl ?_))));clear S;intro a S
 refine lv S (Fd Kz (S.tm rfl) (Fb Ci)) rfl fun a S=>Vb S Io rfl rfl rfl fun a S=>Dl (Fc h (S.tm rfl) (fun hb1 h=>?_) (fun hb1 h=>?_))
 ·refine Fr (Vk S rfl rfl fun a S=>Dl (wp_ret (Dc ?_)))
  obtain rfl:=Option.some.inj h
  exact Dx S results19 rfl rfl
 ·refine wp_skip (Tn (Fs (Fr (Vm S rfl rfl fun a S=>lv S (Fd Kz (S.tm rfl) (Fb Bu)) rfl fun a S=>lv S (Rm rfl) rfl fun a S=>Dl ?_))))
  replace S:=S.k4 0 1 12 13 rfl
  obtain ⟨j1,hj1,h⟩:=En h
  refine Ec (fun a w'=>j1 = some r ∧ Sx w [] nov [] [] 26 a w') ?_ ?_
  ·refine wp_block (Hx (fun (ys1 : List Int) a w'=>∃ i1 : Nat,(∃ dn,Cd = dn ++ ys1 ∧ dn.length = i1) ∧ Hr Ck j1 ys1 i1 = some r ∧ Sx w [] nov [] [(0,Cc),(1,Ce),(12,iV (Cd.length : Int)),(13,iV (i1 : Int))] 26 a w') List.length Cd ⟨0,⟨[],rfl,rfl⟩,h,S.nf [] rfl (subR rfl)⟩ ?_)
   clear S h;rintro ys1 a w1 ⟨i1,⟨dn,hd1,hi1⟩,h,S⟩
   cases ys1 with
   | nil =>
    rw [Hr.eq_1] at h
    refine Fr (Vb S Fa rfl rfl rfl fun a S=>Ld ?_)
    replace S:=S.k5 0 1 12 13 14 rfl
    exact Tn (Fs (wp_cond_false ((S.tm rfl).trans (congrArg Value.bool (Jk hd1 hi1))) (wp_exit (Et (Et (Hp (Tn (⟨h,S.nf [] rfl trivial⟩))))))))
   | cons y1 ys1 =>
    rw [Hr.eq_2] at h
    refine Fr (Vb S Fa rfl rfl rfl fun a S=>Ld ?_)
    replace S:=S.k5 0 1 12 13 14 rfl
    refine Tn (Fs (wp_cond_true ((S.tm rfl).trans (congrArg Value.bool (Hy hd1 hi1))) (wp_skip (Tn (Fs (wp_block (Fr (Vm S rfl rfl fun a S=>Va S rfl rfl ?_))))))));clear S;intro a S
    refine Dl (Fs (Fm [] ([]) Tryz.mixed S rfl (by kernel_rfl) ?_));clear S;intro w3 hk1 hsel S
    refine Ip [0,1,2,3,4,5,6,7,8] hsel (by kernel_rfl) rfl ?_
    clear hsel
    refine Er S rfl (Rm (S.tm rfl)) rfl fun a S=>Er S rfl (Rm (S.tm rfl)) rfl ?_;clear S;intro a S
    obtain ⟨b1,o1,hm1,hr1⟩:=Dt (a:=a) (x:=.tmp 16) (y:=.tmp 17) (ty:=0) Kz Bu (Jp hd1 hi1) rfl (S.tm rfl) (S.tm rfl)
    refine Er S rfl (hr1 _) rfl ?_;clear S;intro a S
    clear hr1
    refine Er S rfl (Ep isAgg3 (off:=o1) (o:=0) (S.tm rfl) (hm1.at S.emb0) rfl) rfl fun a S=>Er S rfl (Rm (S.tm rfl)) rfl fun a S=>Er S rfl (Rm (S.tm rfl)) rfl ?_;clear S;intro a S
    obtain ⟨hc1,h⟩:=Hw h
    obtain ⟨b2,o2,hm2,hr2⟩:=Dt (a:=a) (x:=.tmp 20) (y:=.tmp 21) (ty:=0) Kz Ci (Dg hc1).1 (Dg hc1).2 (S.tm rfl) (S.tm rfl)
    refine Er S rfl (hr2 _) rfl ?_;clear S;intro a S
    clear hr2
    refine Er S rfl (Ep isAgg3 (off:=o2) (o:=0) (S.tm rfl) (hm2.at S.emb0) rfl) rfl fun a S=>Er S rfl (Io (S.tm rfl) (S.tm rfl)) rfl fun a S=>Iq ?_
    replace S:=S.k5 0 1 12 13 24 rfl
    refine Tn (Fc h (S.tm rfl) (fun hb2 h=>?_) (fun hb2 h=>?_))
    ·refine Fr (Vk S rfl rfl fun a S=>Dl (wp_ret (Gg (Dc (Dc (Gg (Dc ?_)))))))
     refine Dc ?_
     obtain rfl:=Option.some.inj h
     exact Dx S results19 rfl rfl
    ·exact wp_skip (Ia (Tn (Fg (Vq S Ge rfl rfl rfl fun a S=>Vm S rfl rfl fun a S=>Dl (⟨ys1,⟨i1 + 1,⟨_,(hd1).trans (List.append_cons _ _ _),by simp [hi1]⟩,h,S.nf [] rfl ⟨rfl,rfl,rfl,(congrArg (fun z=>some (Value.int .i64 z)) (Hz hd1 hi1 (Iz Bu))),trivial⟩⟩,Nat.lt_succ_self _⟩)))))
  clear S h;rintro a w2 ⟨h,S⟩;rw [hj1] at h;clear hj1 j1
  refine Tn (Fr (Vk S rfl rfl fun a S=>Dl (wp_ret ?_)))
  obtain rfl:=Option.some.inj h
  exact Dx S results19 rfl rfl
set_option maxRecDepth 20000 in
theorem Ye (w : World) (Aa : Value) (Ae : List An) (Ad : Slc (view w []) 11 Aa (Ae.map An.enc)) (O : An) (r : (List An) × Int) (h : Nn Ae O = some r) :
    Calls prog 20 [Aa,.agg (An.enc O).toArray].toArray w (Ret w [] fun τ v _=>∃ u1 : Value,v = .tuple #[u1,iV r.2] ∧ Mq τ 33 11 u1 r.1.length (r.1.flatMap An.enc)):=by
 refine Fe func20 rfl ntmps20 rfl fun a S=>?_
 unfold Nn at h
 replace S:=S.k2 0 1 rfl
 refine Fr (Kw S (S.tm rfl) (cs:=(An.enc O)) rfl rfl ?_);clear S;intro a w1 b1 hz1 hk1 S
 refine Vk S rfl rfl fun a S=>Vk S rfl rfl fun a S=>Dl (Fs (Fr (Vm S rfl rfl ?_)));clear S;intro a S
 obtain ⟨r1,hr1,h⟩:=El h
 refine De S (fun _=>Cy (vs:=[Aa]) ⟨(S.tm rfl),trivial⟩ call17) (Kp _ Aa Ae (Ad.mono (S.le_arg Dj)) _ hr1) rfl ?_;clear S;intro v1 a w2 hv1 hk2 hn1 S
 subst hv1
 refine Va S rfl rfl fun a S=>Dz (Vm S rfl rfl fun a S=>Vq S Io rfl rfl rfl fun a S=>Dl (Fc h (S.tm rfl) (fun hb1 h=>?_) (fun hb1 h=>?_)))
 ·refine Fr (Vm S rfl rfl fun a S=>Vk S rfl rfl fun a S=>Va S rfl rfl fun a S=>Dl (wp_ret (Dc ?_)))
  obtain rfl:=Option.some.inj h
  exact Ki S results20 rfl rfl ⟨_,rfl,(Jg _ _ _)⟩
 ·refine wp_skip (Tn (Fs (Fr (Vf Hd S rfl rfl fun a S=>Vl isAgg3 0 S rfl rfl rfl rfl fun a S=>Vq S Io rfl rfl rfl fun a S=>Dl (Fc h (S.tm rfl) (fun hb2 h=>?_) (fun hb2 h=>?_))))))
  ·refine Fr (Vk S rfl rfl fun a S=>Vk S rfl rfl fun a S=>Dl (wp_ret (Dc ?_)))
   obtain rfl:=Option.some.inj h
   exact Ki S results20 rfl rfl ⟨_,rfl,(Jg _ _ _)⟩
  ·refine wp_skip (Tn (Fs (Fr (Vm S rfl rfl fun a S=>lv S (Fd Es (S.tm rfl) (Fb Ad)) rfl fun a S=>lv S (Rm rfl) rfl fun a S=>Ld ?_))))
   replace S:=(S.nl [.blk b1 (An.enc O) 33] [true] rfl).k5 0 3 18 19 20 rfl
   refine Tn ?_
   obtain ⟨j1,hj1,h⟩:=En h
   refine Ec (fun a w'=>∃ x1 : Int,j1 x1 = some r ∧ Sx w [] nov [.blk b1 (An.enc (An.mk O.Site x1 O.At O.Kind O.Who O.Club O.Race O.Time O.Fault O.Of O.Other)) 33] [(0,Aa),(3,.pointer (some ⟨b1,0,none⟩))] 67 a w') ?_ ?_
   ·refine wp_block (Hx (fun (ys1 : List An) a w'=>∃ i1 : Nat,∃ x1 : Int,(∃ dn,Ae = dn ++ ys1 ∧ dn.length = i1) ∧ Jy O j1 ys1 i1 x1 = some r ∧ Sx w [] nov [.blk b1 (An.enc (An.mk O.Site x1 O.At O.Kind O.Who O.Club O.Race O.Time O.Fault O.Of O.Other)) 33] [(0,Aa),(3,.pointer (some ⟨b1,0,none⟩)),(18,Aa),(19,iV (Ae.length : Int)),(20,iV (i1 : Int))] 67 a w') List.length Ae ⟨0,O.No,⟨[],rfl,rfl⟩,h,S.nf [true] rfl (subR rfl)⟩ ?_)
    clear S h;rintro ys1 a w3 ⟨i1,x1,⟨dn,hd1,hi1⟩,h,S⟩
    cases ys1 with
    | nil =>
     rw [Jy.eq_1] at h
     refine Fr (Vb S Fa rfl rfl rfl fun a S=>Ld ?_)
     replace S:=S.k6 0 3 18 19 20 21 rfl
     exact Tn (Fs (wp_cond_false ((S.tm rfl).trans (congrArg Value.bool (Jk hd1 hi1))) (wp_exit (Et (Et (Hp (Tn (⟨x1,h,S.nf [true] rfl (subR rfl)⟩))))))))
    | cons y1 ys1 =>
     rw [Jy.eq_2] at h
     refine Fr (Vb S Fa rfl rfl rfl fun a S=>Ld ?_)
     replace S:=S.k6 0 3 18 19 20 21 rfl
     refine Tn (Fs (wp_cond_true ((S.tm rfl).trans (congrArg Value.bool (Hy hd1 hi1))) (wp_skip (Tn (Fs ?_)))))
     obtain ⟨j2,hj2,h⟩:=En h
     refine Ec (fun a w'=>∃ x2 : Int,j2 x2 = some r ∧ Sx w [] nov [.blk b1 (An.enc (An.mk O.Site x2 O.At O.Kind O.Who O.Club O.Race O.Time O.Fault O.Of O.Other)) 33] [(0,Aa),(3,.pointer (some ⟨b1,0,none⟩)),(18,Aa),(19,iV (Ae.length : Int)),(20,iV (i1 : Int))] 67 a w') ?_ ?_
     ·refine wp_block (Fs (Fg ?_))
      obtain ⟨b2,o1,hm1,hr2⟩:=Dt (a:=a) (x:=.tmp 18) (y:=.tmp 20) (ty:=0) Es Ad (Jp hd1 hi1) rfl (S.tm rfl) (S.tm rfl)
      refine lv S (hr2 _) rfl ?_;clear S;intro a S
      clear hr2
      refine lv S (Ev isAgg33 sizeOf33 (off:=o1) (o:=0) (part:=(An.enc y1)) rfl rfl (S.tm rfl) (hm1.at S.emb0)) rfl fun a S=>It S zeroValue33 (cs:=[sV Cw,iV 0,iV 0,iV 0,sV Cw,sV Cw,sV Cw,iV 0,iV 0,sV Cw,iV 0]) rfl rfl ?_;clear S;intro a w6 b3 hz2 hk3 S
      refine Ef S (S.tm rfl) (S.tm rfl) (i:=0) (off:=0) rfl sizeOf33 (vs:=(An.enc y1)) rfl rfl rfl rfl ?_;clear S;intro w7 hk4 S
      refine Dz (Vf Ih S rfl rfl fun a S=>Vl isAgg9 0 S rfl rfl rfl rfl fun a S=>Vf Ih S rfl rfl fun a S=>Vl isAgg9 1 S rfl rfl rfl rfl fun a S=>Vb S Pl rfl rfl rfl fun a S=>Dl ?_)
      obtain ⟨j3,hj3,h⟩:=En h
      refine Ec (fun a w'=>∃ x3 : Int,j3 x3 = some r ∧ Sx w [] nov [.blk b1 (An.enc (An.mk O.Site x3 O.At O.Kind O.Who O.Club O.Race O.Time O.Fault O.Of O.Other)) 33] [(0,Aa),(3,.pointer (some ⟨b1,0,none⟩)),(18,Aa),(19,iV (Ae.length : Int)),(20,iV (i1 : Int))] 67 a w') ?_ ?_
      ·refine Fc h (S.tm rfl) (fun hb3 h=>?_) (fun hb3 h=>?_)
       ·refine Fg (Vf Hd S rfl rfl fun a S=>Vl isAgg3 1 S rfl rfl rfl rfl fun a S=>Vf Hd S rfl rfl fun a S=>Vl isAgg3 0 S rfl rfl rfl rfl fun a S=>Vb S Zj rfl rfl rfl fun a S=>Vf Hd S rfl rfl fun a S=>Ef S (S.tm rfl) (S.tm rfl) (i:=1) (off:=1) rfl sizeOf3 (vs:=[iV (Ud x1 y1.No)]) rfl rfl rfl rfl ?_);clear S;intro w9 hk5 S
        refine Ld ?_
        replace S:=(S.nl [.blk b1 (An.enc (An.mk O.Site (Ud x1 y1.No) O.At O.Kind O.Who O.Club O.Race O.Time O.Fault O.Of O.Other)) 33] [false,true] rfl).k5 0 3 18 19 20 rfl
        exact Tn (⟨Ud x1 y1.No,h,S.nf [true] rfl (subR rfl)⟩)
       ·exact wp_skip (Tn (⟨x1,h,S.nf [false,true] rfl (subR rfl)⟩))
      clear S h;rintro a w8 ⟨x3,h,S⟩;rw [hj3] at h;clear hj3 j3
      exact Ia (Tn (⟨x3,h,S.nf [true] rfl (subR rfl)⟩))
     clear S h;rintro a w5 ⟨x2,h,S⟩;rw [hj2] at h;clear hj2 j2
     exact Tn (Fg (Vq S Ge rfl rfl rfl fun a S=>Vm S rfl rfl fun a S=>Dl (⟨ys1,⟨i1 + 1,x2,⟨_,(hd1).trans (List.append_cons _ _ _),by simp [hi1]⟩,h,S.nf [true] rfl ⟨rfl,rfl,rfl,rfl,(congrArg (fun z=>some (Value.int .i64 z)) (Hz hd1 hi1 (Iz Ad))),trivial⟩⟩,Nat.lt_succ_self _⟩)))
   clear S h;rintro a w4 ⟨x1,h,S⟩;rw [hj1] at h;clear hj1 j1
   refine Tn (Fr (Vf Hd S rfl rfl fun a S=>Vl isAgg3 0 S rfl rfl rfl rfl fun a S=>Vq S Ge rfl rfl rfl fun a S=>Vf Hd S rfl rfl fun a S=>Ef S (S.tm rfl) (S.tm rfl) (i:=0) (off:=1) rfl sizeOf3 (vs:=[iV (W (x1 + 1))]) rfl rfl rfl rfl ?_));clear S;intro w10 hk6 S
   refine Dl (Fs (Fr (lv S (Ev isAgg33 sizeOf33 (off:=0) (o:=0) (part:=(An.enc (An.mk O.Site (W (x1 + 1)) O.At O.Kind O.Who O.Club O.Race O.Time O.Fault O.Of O.Other))) rfl rfl (S.tm rfl) (S.cellsAt (i:=0) rfl)) rfl ?_)));clear S;intro a S
   obtain ⟨r2,hr3,h⟩:=El h
   refine De S (fun _=>Cy (vs:=[.agg (An.enc (An.mk O.Site (W (x1 + 1)) O.At O.Kind O.Who O.Club O.Race O.Time O.Fault O.Of O.Other)).toArray]) ⟨(S.tm rfl),trivial⟩ call43) (Qz _ (An.mk O.Site (W (x1 + 1)) O.At O.Kind O.Who O.Club O.Race O.Time O.Fault O.Of O.Other) _ hr3) rfl ?_;clear S;intro v2 a w11 hv2 hk7 hn2 S
   subst hv2
   refine Va S rfl rfl fun a S=>Dz (Vm S rfl rfl fun a S=>Vq S Io rfl rfl rfl fun a S=>Dl (Fc h (S.tm rfl) (fun hb4 h=>?_) (fun hb4 h=>?_)))
   ·refine Fr (Vm S rfl rfl fun a S=>Vk S rfl rfl fun a S=>Va S rfl rfl fun a S=>Dl (wp_ret (Dc ?_)))
    obtain rfl:=Option.some.inj h
    exact Ki S results20 rfl rfl ⟨_,rfl,(Jg _ _ _)⟩
   ·refine wp_skip (Tn (Fs (Fs ?_)))
    obtain ⟨j4,hj4,h⟩:=En h
    refine Ec (fun a w'=>∃ x4 : Bool,j4 x4 = some r ∧ Sx w [] nov [.blk b1 (An.enc (An.mk O.Site (W (x1 + 1)) O.At O.Kind O.Who O.Club O.Race O.Time O.Fault O.Of O.Other)) 33] [(0,Aa),(3,.pointer (some ⟨b1,0,none⟩)),(58,bV x4)] 67 a w') ?_ ?_
    ·rcases Bool.eq_false_or_eq_true (decide (0 < (Ae.length : Int))) with hb5 | hb5
     ·replace h:=Nq h hb5
      obtain ⟨hc1,h⟩:=Hw h
      refine Fm [] ([]) Tryz.mixed S rfl (by kernel_rfl) ?_;clear S;intro w14 hk9 hsel S
      refine Da 0 S hsel rfl rfl rfl (by kernel_rfl) (by kernel_rfl) rfl (fun _ hw=>(Rm (S.tm rfl))) fun a S=>Da 1 S hsel rfl rfl rfl (by kernel_rfl) (by kernel_rfl) rfl (fun _ hw=>(Fd Es (S.tm rfl) (Fb Ad))) fun a S=>Da 2 S hsel rfl rfl rfl (by kernel_rfl) (by kernel_rfl) rfl (fun _ hw=>(Jn (S.tm rfl) rfl)) fun a S=>Da 3 S hsel rfl rfl rfl (by kernel_rfl) (by kernel_rfl) rfl (fun _ hw=>(Rm (S.tm rfl))) fun a S=>Df 4 S hsel rfl rfl rfl rfl hb5 rfl rfl (by kernel_rfl) (by kernel_rfl) rfl (fun _ hw=>(Rm (S.tm rfl))) fun a S=>Df 5 S hsel rfl rfl rfl rfl hb5 rfl rfl (by kernel_rfl) (by kernel_rfl) rfl (fun _ hw=>(Rm (S.tm rfl))) fun a S=>Df 6 S hsel rfl rfl rfl rfl hb5 rfl rfl (by kernel_rfl) (by kernel_rfl) rfl (fun _ hw=>(Fd Es (S.tm rfl) (Fb Ad))) fun a S=>Df 7 S hsel rfl rfl rfl rfl hb5 rfl rfl (by kernel_rfl) (by kernel_rfl) rfl (fun _ hw=>(Kh (S.tm rfl) rfl)) ?_;clear S;intro a S
      obtain ⟨b5,o3,hm3,hr5⟩:=Dt (a:=a) (x:=.tmp 49) (y:=.tmp 52) (ty:=0) Es (Ad.mono (S.le_arg Dj)) (Dg hc1).1 (Dg hc1).2 (S.tm rfl) (S.tm rfl)
      refine Df 8 S hsel rfl rfl rfl rfl hb5 rfl rfl (by kernel_rfl) (by kernel_rfl) rfl (fun _ hw=>hr5 _) ?_;clear S;intro a S
      clear hr5
      refine Df 9 S hsel rfl rfl rfl rfl hb5 rfl rfl (by kernel_rfl) (by kernel_rfl) rfl (fun _ hw=>(Ev isAgg33 sizeOf33 (off:=o3) (o:=0) (part:=(An.enc (nth Ae (W ((Ae.length : Int) - 1))))) rfl rfl (S.tm rfl) (hm3.kept hw))) fun a S=>Df 10 S hsel rfl rfl rfl rfl hb5 rfl rfl (by kernel_rfl) (by kernel_rfl) rfl (fun _ hw=>(Ev isAgg33 sizeOf33 (off:=0) (o:=0) (part:=(An.enc (An.mk O.Site (W (x1 + 1)) O.At O.Kind O.Who O.Club O.Race O.Time O.Fault O.Of O.Other))) rfl rfl (S.tm rfl) ((S.blk_mem (i:=0) (cells:=(An.enc (An.mk O.Site (W (x1 + 1)) O.At O.Kind O.Who O.Club O.Race O.Time O.Fault O.Of O.Other))) (b:=b1) (T:=33) rfl (Gs (e':=.blk b1 (An.enc (An.mk O.Site (W (x1 + 1)) O.At O.Kind O.Who O.Club O.Race O.Time O.Fault O.Of O.Other)) 33))).kept hw))) fun a S=>Ey 11 (by kernel_rfl) rfl (Db S rfl rfl rfl hb5 (De S (fun _=>Cy (vs:=[.agg (An.enc (nth Ae (W ((Ae.length : Int) - 1)))).toArray,.agg (An.enc (An.mk O.Site (W (x1 + 1)) O.At O.Kind O.Who O.Club O.Race O.Time O.Fault O.Of O.Other)).toArray]) ⟨(S.tm rfl),(S.tm rfl),trivial⟩ call35) (meet_compare_ok _ (nth Ae (W ((Ae.length : Int) - 1))) (An.mk O.Site (W (x1 + 1)) O.At O.Kind O.Who O.Club O.Race O.Time O.Fault O.Of O.Other) _ rfl) rfl ?_));clear S;intro v4 a w15 hv4 hk10 hn4 S
      subst hv4
      refine Ld (Fz hk10 (Ip [12,13] hsel (by kernel_rfl) rfl ?_))
      clear hsel
      refine Gt S rfl rfl rfl rfl hb5 (Hv S (Nk (S.tm rfl) rfl) rfl fun a S=>Er S rfl (Ix hb5 (S.tm rfl) (S.tm rfl)) rfl fun a S=>Iq ?_)
      replace S:=(S.nl [.blk b1 (An.enc (An.mk O.Site (W (x1 + 1)) O.At O.Kind O.Who O.Club O.Race O.Time O.Fault O.Of O.Other)) 33] [true] rfl).k3 0 3 58 rfl
      exact Tn (⟨decide (0 ≤ (Ex (nth Ae (W ((Ae.length : Int) - 1))) (An.mk O.Site (W (x1 + 1)) O.At O.Kind O.Who O.Club O.Race O.Time O.Fault O.Of O.Other))),h,S.nf [true] rfl (subR rfl)⟩)
     ·replace h:=Nr h hb5
      refine Fm [] ([]) Tryz.mixed S rfl (by kernel_rfl) ?_;clear S;intro w16 hk11 hsel S
      refine Ip [0,1,2,3,4,5,6,7,8,9,10,11,12,13] hsel (by kernel_rfl) rfl ?_
      clear hsel
      refine Er S rfl (Rm (S.tm rfl)) rfl fun a S=>Er S rfl (Fd Es (S.tm rfl) (Fb Ad)) rfl fun a S=>Er S rfl (Jn (S.tm rfl) rfl) rfl fun a S=>Er S rfl (Rm (S.tm rfl)) rfl ?_;clear S;intro a S
      iterate 9 (refine Oi S rfl rfl rfl rfl (Fl hb5) rfl ?_ rfl;clear S;intro a S)
      refine Er S rfl (Iy hb5 (S.tm rfl) rfl) rfl fun a S=>Iq ?_
      replace S:=(S.nl [.blk b1 (An.enc (An.mk O.Site (W (x1 + 1)) O.At O.Kind O.Who O.Club O.Race O.Time O.Fault O.Of O.Other)) 33] [true] rfl).k3 0 3 58 rfl
      exact Tn (⟨false,h,S.nf [true] rfl (subR rfl)⟩)
    clear S h;rintro a w12 ⟨x4,h,S⟩;rw [hj4] at h;clear hj4 j4
    refine Tn (Fc h (S.tm rfl) (fun hb6 h=>?_) (fun hb6 h=>?_))
    ·refine Fr (Vk S rfl rfl fun a S=>Vk S rfl rfl fun a S=>Dl (wp_ret (Dc ?_)))
     obtain rfl:=Option.some.inj h
     exact Ki S results20 rfl rfl ⟨_,rfl,(Jg _ _ _)⟩
    ·refine wp_skip (Tn (Fs (Fr (Vm S rfl rfl fun a S=>lv S (Fd Es (S.tm rfl) (Fb Ad)) rfl fun a S=>Vq S Nk rfl rfl rfl fun a S=>Dl (Fc h (S.tm rfl) (fun hb7 h=>?_) (fun hb7 h=>?_))))))
     ·refine Fr (Vk S rfl rfl fun a S=>Vk S rfl rfl fun a S=>Dl (wp_ret (Dc ?_)))
      obtain rfl:=Option.some.inj h
      exact Ki S results20 rfl rfl ⟨_,rfl,(Jg _ _ _)⟩
     ·refine wp_skip (Tn (Fs ?_))
      obtain ⟨j5,hj5,h⟩:=En h
      refine Ec (fun a w'=>∃ x5 : List An,∃ v5 : Value,j5 x5 = some r ∧ Sx w [] nov [.own v5 33 11 x5.length (x5.flatMap An.enc)] [(4,v5),(5,iV 0)] 67 a w') ?_ ?_
      ·obtain ⟨r3,hr6,h⟩:=El h
       obtain ⟨hc2,h⟩:=Hw h
       refine Fm [] ([]) Tryz.mixed S rfl (by kernel_rfl) ?_;clear S;intro w21 hk15 hsel S
       refine Da 0 S hsel rfl rfl rfl (by kernel_rfl) (by kernel_rfl) rfl (fun _ hw=>(Rm (S.tm rfl))) fun a S=>Da 2 S hsel rfl rfl rfl (by kernel_rfl) (by kernel_rfl) rfl (fun _ hw=>(Ev isAgg33 sizeOf33 (off:=0) (o:=0) (part:=(An.enc (An.mk O.Site (W (x1 + 1)) O.At O.Kind O.Who O.Club O.Race O.Time O.Fault O.Of O.Other))) rfl rfl (S.tm rfl) ((S.blk_mem (i:=0) (cells:=(An.enc (An.mk O.Site (W (x1 + 1)) O.At O.Kind O.Who O.Club O.Race O.Time O.Fault O.Of O.Other))) (b:=b1) (T:=33) rfl (Gs (e':=.blk b1 (An.enc (An.mk O.Site (W (x1 + 1)) O.At O.Kind O.Who O.Club O.Race O.Time O.Fault O.Of O.Other)) 33))).kept hw))) fun a S=>CO 1 3 (by kernel_rfl) rfl rfl ?_ ?_
       ·have hz5:=S.keep.size
        refine De S (fun _=>Cy (vs:=[Aa]) ⟨(S.tm rfl),trivial⟩ call8) (Ja _ Aa Ae (Ad.mono (S.le_arg Dj)) _ hr6) rfl ?_;clear S;intro v8 a w22 hv6 hk16 hn6 S
        replace S:=S.take hn6 hz5 hv6
        refine Ld (Wt (v8.ownBlock.toList) hk16 (newO hv6) (Ey 3 (by kernel_rfl) rfl (Eg S underlying26 sizeOf33 zeroValue33 rfl rfl (pv:=[(0,.agg (An.enc (An.mk O.Site (W (x1 + 1)) O.At O.Kind O.Who O.Club O.Race O.Time O.Fault O.Of O.Other)).toArray)]) ⟨rfl,(S.tm rfl),trivial⟩ (cs:=[sV O.Site,iV (W (x1 + 1)),iV O.At,iV O.Kind,sV O.Who,sV O.Club,sV O.Race,iV O.Time,iV O.Fault,sV O.Of,iV O.Other]) (by kernel_rfl) rfl ?_)));clear S;intro a w23 b7 hz6 hk17 S
        refine Ld (Fz (Keep.none hk17) (Ey 4 (by kernel_rfl) rfl ?_))
        refine Li Es An.enc_ok S (S.tm rfl) (i:=1) rfl (S.tm rfl) (j:=0) rfl (ys:=[(An.mk O.Site (W (x1 + 1)) O.At O.Kind O.Who O.Club O.Race O.Time O.Fault O.Of O.Other)]) rfl rfl rfl rfl (by have:=Nh hc2;omega) rfl ?_;clear S;intro v9 a w24 hk18 S
        refine Ld (Fz hk18 (Ip [5,6] hsel (by kernel_rfl) rfl ?_))
        clear hsel
        refine Er S rfl (Ra (S.tm rfl)) rfl fun a S=>Er S rfl (Ra rfl) rfl fun a S=>Iq ?_
        replace S:=(S.nl [.own v9 33 11 (r3 ++ [(An.mk O.Site (W (x1 + 1)) O.At O.Kind O.Who O.Club O.Race O.Time O.Fault O.Of O.Other)]).length ((r3 ++ [(An.mk O.Site (W (x1 + 1)) O.At O.Kind O.Who O.Club O.Race O.Time O.Fault O.Of O.Other)]).flatMap An.enc)] [false,true,false] rfl).k2 4 5 rfl
        exact Tn (⟨(r3 ++ [(An.mk O.Site (W (x1 + 1)) O.At O.Kind O.Who O.Club O.Race O.Time O.Fault O.Of O.Other)]),v9,h,S.nf [true] rfl (subR rfl)⟩)
       ·refine Eg S underlying26 sizeOf33 zeroValue33 rfl rfl (pv:=[(0,.agg (An.enc (An.mk O.Site (W (x1 + 1)) O.At O.Kind O.Who O.Club O.Race O.Time O.Fault O.Of O.Other)).toArray)]) ⟨rfl,(S.tm rfl),trivial⟩ (cs:=[sV O.Site,iV (W (x1 + 1)),iV O.At,iV O.Kind,sV O.Who,sV O.Club,sV O.Race,iV O.Time,iV O.Fault,sV O.Of,iV O.Other]) (by kernel_rfl) rfl ?_;clear S;intro a w25 b8 hz7 hk19 S
        refine Ld (Fz hk19 (Ey 1 (by kernel_rfl) rfl ?_))
        have hz8:=S.keep.size
        refine De S (fun _=>Cy (vs:=[Aa]) ⟨(S.tm rfl),trivial⟩ call8) (Ja _ Aa Ae (Ad.mono (S.le_arg Dj)) _ hr6) rfl ?_;clear S;intro v10 a w26 hv7 hk20 hn7 S
        replace S:=S.take hn7 hz8 hv7
        refine Ld (Wt (v10.ownBlock.toList) hk20 (newO hv7) (Ey 4 (by kernel_rfl) rfl ?_))
        refine Li Es An.enc_ok S (S.tm rfl) (i:=0) rfl (S.tm rfl) (j:=1) rfl (ys:=[(An.mk O.Site (W (x1 + 1)) O.At O.Kind O.Who O.Club O.Race O.Time O.Fault O.Of O.Other)]) rfl rfl rfl rfl (by have:=Nh hc2;omega) rfl ?_;clear S;intro v11 a w27 hk21 S
        refine Ld (Fz hk21 (Ip [5,6] hsel (by kernel_rfl) rfl ?_))
        clear hsel
        refine Er S rfl (Ra (S.tm rfl)) rfl fun a S=>Er S rfl (Ra rfl) rfl fun a S=>Iq ?_
        replace S:=(S.nl [.own v11 33 11 (r3 ++ [(An.mk O.Site (W (x1 + 1)) O.At O.Kind O.Who O.Club O.Race O.Time O.Fault O.Of O.Other)]).length ((r3 ++ [(An.mk O.Site (W (x1 + 1)) O.At O.Kind O.Who O.Club O.Race O.Time O.Fault O.Of O.Other)]).flatMap An.enc)] [true,false,false] rfl).k2 4 5 rfl
        exact Tn (⟨(r3 ++ [(An.mk O.Site (W (x1 + 1)) O.At O.Kind O.Who O.Club O.Race O.Time O.Fault O.Of O.Other)]),v11,h,S.nf [true] rfl (subR rfl)⟩)
      clear S h;rintro a w17 ⟨x5,v5,h,S⟩;rw [hj5] at h;clear hj5 j5
      refine Tn (wp_ret ?_)
      obtain rfl:=Option.some.inj h
      exact Ki S results20 rfl rfl ⟨_,rfl,(Oq S (i:=0) rfl rfl)⟩
set_option maxRecDepth 20000 in
theorem Sw (w : World) (Aa : Value) (Ae : List An) (Ad : Slc (view w []) 11 Aa (Ae.map An.enc)) (O : An) (r : (List An) × Int) (h : Kn Ae O = some r) :
    Calls prog 21 [Aa,.agg (An.enc O).toArray].toArray w (Ret w [] fun τ v _=>∃ u1 : Value,v = .tuple #[u1,iV r.2] ∧ Mq τ 33 11 u1 r.1.length (r.1.flatMap An.enc)):=by
 refine Fe func21 rfl ntmps21 rfl fun a S=>?_
 unfold Kn at h
 replace S:=S.k2 0 1 rfl
 refine Fr (Kw S (S.tm rfl) (cs:=(An.enc O)) rfl rfl ?_);clear S;intro a w1 b1 hz1 hk1 S
 refine Vk S rfl rfl fun a S=>Vk S rfl rfl fun a S=>Dl (Fs (Fr (Vf Hd S rfl rfl fun a S=>Vl isAgg3 0 S rfl rfl rfl rfl fun a S=>Vq S Io rfl rfl rfl fun a S=>Ld ?_)))
 refine Tn (Fc h (S.tm rfl) (fun hb1 h=>?_) (fun hb1 h=>?_))
 ·refine Fr (Vk S rfl rfl fun a S=>Vk S rfl rfl fun a S=>Dl (wp_ret (Dc ?_)))
  obtain rfl:=Option.some.inj h
  exact Ki S results21 rfl rfl ⟨_,rfl,(Jg _ _ _)⟩
 ·refine wp_skip (Tn (Fs (Fr (Vm S rfl rfl fun a S=>lv S (Fd Es (S.tm rfl) (Fb Ad)) rfl fun a S=>lv S (Rm rfl) rfl fun a S=>Dl ?_))))
  replace S:=(S.nl [.blk b1 (An.enc O) 33] [true] rfl).k5 0 3 13 14 15 rfl
  obtain ⟨j1,hj1,h⟩:=En h
  refine Ec (fun a w'=>∃ x1 : Int,j1 x1 = some r ∧ Sx w [] nov [.blk b1 (An.enc (An.mk O.Site x1 O.At O.Kind O.Who O.Club O.Race O.Time O.Fault O.Of O.Other)) 33] [(0,Aa),(3,.pointer (some ⟨b1,0,none⟩))] 62 a w') ?_ ?_
  ·refine wp_block (Hx (fun (ys1 : List An) a w'=>∃ i1 : Nat,∃ x1 : Int,(∃ dn,Ae = dn ++ ys1 ∧ dn.length = i1) ∧ Fy O j1 ys1 i1 x1 = some r ∧ Sx w [] nov [.blk b1 (An.enc (An.mk O.Site x1 O.At O.Kind O.Who O.Club O.Race O.Time O.Fault O.Of O.Other)) 33] [(0,Aa),(3,.pointer (some ⟨b1,0,none⟩)),(13,Aa),(14,iV (Ae.length : Int)),(15,iV (i1 : Int))] 62 a w') List.length Ae ⟨0,O.No,⟨[],rfl,rfl⟩,h,S.nf [true] rfl (subR rfl)⟩ ?_)
   clear S h;rintro ys1 a w2 ⟨i1,x1,⟨dn,hd1,hi1⟩,h,S⟩
   cases ys1 with
   | nil =>
    rw [Fy.eq_1] at h
    refine Fr (Vb S Fa rfl rfl rfl fun a S=>Ld ?_)
    replace S:=S.k6 0 3 13 14 15 16 rfl
    exact Tn (Fs (wp_cond_false ((S.tm rfl).trans (congrArg Value.bool (Jk hd1 hi1))) (wp_exit (Et (Et (Hp (Tn (⟨x1,h,S.nf [true] rfl (subR rfl)⟩))))))))
   | cons y1 ys1 =>
    rw [Fy.eq_2] at h
    refine Fr (Vb S Fa rfl rfl rfl fun a S=>Ld ?_)
    replace S:=S.k6 0 3 13 14 15 16 rfl
    refine Tn (Fs (wp_cond_true ((S.tm rfl).trans (congrArg Value.bool (Hy hd1 hi1))) (wp_skip (Tn (Fs ?_)))))
    obtain ⟨j2,hj2,h⟩:=En h
    refine Ec (fun a w'=>∃ x2 : Int,j2 x2 = some r ∧ Sx w [] nov [.blk b1 (An.enc (An.mk O.Site x2 O.At O.Kind O.Who O.Club O.Race O.Time O.Fault O.Of O.Other)) 33] [(0,Aa),(3,.pointer (some ⟨b1,0,none⟩)),(13,Aa),(14,iV (Ae.length : Int)),(15,iV (i1 : Int))] 62 a w') ?_ ?_
    ·refine wp_block (Fs (Fg ?_))
     obtain ⟨b2,o1,hm1,hr1⟩:=Dt (a:=a) (x:=.tmp 13) (y:=.tmp 15) (ty:=0) Es Ad (Jp hd1 hi1) rfl (S.tm rfl) (S.tm rfl)
     refine lv S (hr1 _) rfl ?_;clear S;intro a S
     clear hr1
     refine lv S (Ev isAgg33 sizeOf33 (off:=o1) (o:=0) (part:=(An.enc y1)) rfl rfl (S.tm rfl) (hm1.at S.emb0)) rfl fun a S=>It S zeroValue33 (cs:=[sV Cw,iV 0,iV 0,iV 0,sV Cw,sV Cw,sV Cw,iV 0,iV 0,sV Cw,iV 0]) rfl rfl ?_;clear S;intro a w5 b3 hz2 hk2 S
     refine Ef S (S.tm rfl) (S.tm rfl) (i:=0) (off:=0) rfl sizeOf33 (vs:=(An.enc y1)) rfl rfl rfl rfl ?_;clear S;intro w6 hk3 S
     refine Dz (Vf Ih S rfl rfl fun a S=>Vl isAgg9 0 S rfl rfl rfl rfl fun a S=>Vf Ih S rfl rfl fun a S=>Vl isAgg9 1 S rfl rfl rfl rfl fun a S=>Vb S Pl rfl rfl rfl fun a S=>Dl ?_)
     obtain ⟨j3,hj3,h⟩:=En h
     refine Ec (fun a w'=>∃ x3 : Int,j3 x3 = some r ∧ Sx w [] nov [.blk b1 (An.enc (An.mk O.Site x3 O.At O.Kind O.Who O.Club O.Race O.Time O.Fault O.Of O.Other)) 33] [(0,Aa),(3,.pointer (some ⟨b1,0,none⟩)),(13,Aa),(14,iV (Ae.length : Int)),(15,iV (i1 : Int))] 62 a w') ?_ ?_
     ·refine Fc h (S.tm rfl) (fun hb2 h=>?_) (fun hb2 h=>?_)
      ·refine Fg (Vf Hd S rfl rfl fun a S=>Vl isAgg3 1 S rfl rfl rfl rfl fun a S=>Vf Hd S rfl rfl fun a S=>Vl isAgg3 0 S rfl rfl rfl rfl fun a S=>Vb S Zj rfl rfl rfl fun a S=>Vf Hd S rfl rfl fun a S=>Ef S (S.tm rfl) (S.tm rfl) (i:=1) (off:=1) rfl sizeOf3 (vs:=[iV (Ud x1 y1.No)]) rfl rfl rfl rfl ?_);clear S;intro w8 hk4 S
       refine Ld ?_
       replace S:=(S.nl [.blk b1 (An.enc (An.mk O.Site (Ud x1 y1.No) O.At O.Kind O.Who O.Club O.Race O.Time O.Fault O.Of O.Other)) 33] [false,true] rfl).k5 0 3 13 14 15 rfl
       exact Tn (⟨Ud x1 y1.No,h,S.nf [true] rfl (subR rfl)⟩)
      ·exact wp_skip (Tn (⟨x1,h,S.nf [false,true] rfl (subR rfl)⟩))
     clear S h;rintro a w7 ⟨x3,h,S⟩;rw [hj3] at h;clear hj3 j3
     exact Ia (Tn (⟨x3,h,S.nf [true] rfl (subR rfl)⟩))
    clear S h;rintro a w4 ⟨x2,h,S⟩;rw [hj2] at h;clear hj2 j2
    exact Tn (Fg (Vq S Ge rfl rfl rfl fun a S=>Vm S rfl rfl fun a S=>Dl (⟨ys1,⟨i1 + 1,x2,⟨_,(hd1).trans (List.append_cons _ _ _),by simp [hi1]⟩,h,S.nf [true] rfl ⟨rfl,rfl,rfl,rfl,(congrArg (fun z=>some (Value.int .i64 z)) (Hz hd1 hi1 (Iz Ad))),trivial⟩⟩,Nat.lt_succ_self _⟩)))
  clear S h;rintro a w3 ⟨x1,h,S⟩;rw [hj1] at h;clear hj1 j1
  refine Tn (Fr (Vf Hd S rfl rfl fun a S=>Vl isAgg3 0 S rfl rfl rfl rfl fun a S=>Vq S Ge rfl rfl rfl fun a S=>Vf Hd S rfl rfl fun a S=>Ef S (S.tm rfl) (S.tm rfl) (i:=0) (off:=1) rfl sizeOf3 (vs:=[iV (W (x1 + 1))]) rfl rfl rfl rfl ?_));clear S;intro w9 hk5 S
  refine Dl (Fs (Fr (lv S (Ev isAgg33 sizeOf33 (off:=0) (o:=0) (part:=(An.enc (An.mk O.Site (W (x1 + 1)) O.At O.Kind O.Who O.Club O.Race O.Time O.Fault O.Of O.Other))) rfl rfl (S.tm rfl) (S.cellsAt (i:=0) rfl)) rfl ?_)));clear S;intro a S
  obtain ⟨r1,hr2,h⟩:=El h
  refine De S (fun _=>Cy (vs:=[.agg (An.enc (An.mk O.Site (W (x1 + 1)) O.At O.Kind O.Who O.Club O.Race O.Time O.Fault O.Of O.Other)).toArray]) ⟨(S.tm rfl),trivial⟩ call29) (Pf _ (An.mk O.Site (W (x1 + 1)) O.At O.Kind O.Who O.Club O.Race O.Time O.Fault O.Of O.Other) _ hr2) rfl ?_;clear S;intro v1 a w10 hv1 hk6 hn1 S
  subst hv1
  refine Va S rfl rfl fun a S=>Dz (Vm S rfl rfl fun a S=>Vq S Io rfl rfl rfl fun a S=>Dl (Fc h (S.tm rfl) (fun hb3 h=>?_) (fun hb3 h=>?_)))
  ·refine Fr (Vm S rfl rfl fun a S=>Vk S rfl rfl fun a S=>Va S rfl rfl fun a S=>Dl (wp_ret (Dc ?_)))
   obtain rfl:=Option.some.inj h
   exact Ki S results21 rfl rfl ⟨_,rfl,(Jg _ _ _)⟩
  ·refine wp_skip (Tn (Fs (Fr (Vm S rfl rfl fun a S=>lv S (Fd Es (S.tm rfl) (Fb Ad)) rfl fun a S=>Va S rfl rfl fun a S=>Dl (Fs ?_)))))
   obtain ⟨j4,hj4,h⟩:=En h
   refine Ec (fun a w'=>∃ x4 : Bool,j4 x4 = some r ∧ Sx w [] nov [.blk b1 (An.enc (An.mk O.Site (W (x1 + 1)) O.At O.Kind O.Who O.Club O.Race O.Time O.Fault O.Of O.Other)) 33] [(0,Aa),(3,.pointer (some ⟨b1,0,none⟩)),(53,bV x4)] 62 a w') ?_ ?_
   ·rcases Bool.eq_false_or_eq_true (decide (0 < (Ae.length : Int))) with hb4 | hb4
    ·replace h:=Nq h hb4
     obtain ⟨hc1,h⟩:=Hw h
     refine Fm [] ([]) Tryz.mixed S rfl (by kernel_rfl) ?_;clear S;intro w13 hk8 hsel S
     refine Da 0 S hsel rfl rfl rfl (by kernel_rfl) (by kernel_rfl) rfl (fun _ hw=>(Rm (S.tm rfl))) fun a S=>Da 1 S hsel rfl rfl rfl (by kernel_rfl) (by kernel_rfl) rfl (fun _ hw=>(Jn (S.tm rfl) rfl)) fun a S=>Da 2 S hsel rfl rfl rfl (by kernel_rfl) (by kernel_rfl) rfl (fun _ hw=>(Rm (S.tm rfl))) fun a S=>Df 3 S hsel rfl rfl rfl rfl hb4 rfl rfl (by kernel_rfl) (by kernel_rfl) rfl (fun _ hw=>(Rm (S.tm rfl))) fun a S=>Df 4 S hsel rfl rfl rfl rfl hb4 rfl rfl (by kernel_rfl) (by kernel_rfl) rfl (fun _ hw=>(Rm (S.tm rfl))) fun a S=>Df 5 S hsel rfl rfl rfl rfl hb4 rfl rfl (by kernel_rfl) (by kernel_rfl) rfl (fun _ hw=>(Kh (S.tm rfl) rfl)) ?_;clear S;intro a S
     obtain ⟨b5,o3,hm3,hr4⟩:=Dt (a:=a) (x:=.tmp 45) (y:=.tmp 47) (ty:=0) Es (Ad.mono (S.le_arg Dj)) (Dg hc1).1 (Dg hc1).2 (S.tm rfl) (S.tm rfl)
     refine Df 6 S hsel rfl rfl rfl rfl hb4 rfl rfl (by kernel_rfl) (by kernel_rfl) rfl (fun _ hw=>hr4 _) ?_;clear S;intro a S
     clear hr4
     refine Df 7 S hsel rfl rfl rfl rfl hb4 rfl rfl (by kernel_rfl) (by kernel_rfl) rfl (fun _ hw=>(Ev isAgg33 sizeOf33 (off:=o3) (o:=0) (part:=(An.enc (nth Ae (W ((Ae.length : Int) - 1))))) rfl rfl (S.tm rfl) (hm3.kept hw))) fun a S=>Df 8 S hsel rfl rfl rfl rfl hb4 rfl rfl (by kernel_rfl) (by kernel_rfl) rfl (fun _ hw=>(Ev isAgg33 sizeOf33 (off:=0) (o:=0) (part:=(An.enc (An.mk O.Site (W (x1 + 1)) O.At O.Kind O.Who O.Club O.Race O.Time O.Fault O.Of O.Other))) rfl rfl (S.tm rfl) ((S.blk_mem (i:=0) (cells:=(An.enc (An.mk O.Site (W (x1 + 1)) O.At O.Kind O.Who O.Club O.Race O.Time O.Fault O.Of O.Other))) (b:=b1) (T:=33) rfl (Gs (e':=.blk b1 (An.enc (An.mk O.Site (W (x1 + 1)) O.At O.Kind O.Who O.Club O.Race O.Time O.Fault O.Of O.Other)) 33))).kept hw))) fun a S=>Ey 9 (by kernel_rfl) rfl (Db S rfl rfl rfl hb4 (De S (fun _=>Cy (vs:=[.agg (An.enc (nth Ae (W ((Ae.length : Int) - 1)))).toArray,.agg (An.enc (An.mk O.Site (W (x1 + 1)) O.At O.Kind O.Who O.Club O.Race O.Time O.Fault O.Of O.Other)).toArray]) ⟨(S.tm rfl),(S.tm rfl),trivial⟩ call27) (tumbref2_DeedOrder_ok _ (nth Ae (W ((Ae.length : Int) - 1))) (An.mk O.Site (W (x1 + 1)) O.At O.Kind O.Who O.Club O.Race O.Time O.Fault O.Of O.Other) _ rfl) rfl ?_));clear S;intro v3 a w14 hv3 hk9 hn3 S
     subst hv3
     refine Ld (Fz hk9 (Ip [10,11] hsel (by kernel_rfl) rfl ?_))
     clear hsel
     refine Gt S rfl rfl rfl rfl hb4 (Hv S (Nk (S.tm rfl) rfl) rfl fun a S=>Er S rfl (Ix hb4 (S.tm rfl) (S.tm rfl)) rfl fun a S=>Iq ?_)
     replace S:=(S.nl [.blk b1 (An.enc (An.mk O.Site (W (x1 + 1)) O.At O.Kind O.Who O.Club O.Race O.Time O.Fault O.Of O.Other)) 33] [true] rfl).k3 0 3 53 rfl
     exact Tn (⟨decide (0 ≤ (Ea (nth Ae (W ((Ae.length : Int) - 1))) (An.mk O.Site (W (x1 + 1)) O.At O.Kind O.Who O.Club O.Race O.Time O.Fault O.Of O.Other))),h,S.nf [true] rfl (subR rfl)⟩)
    ·replace h:=Nr h hb4
     refine Fm [] ([]) Tryz.mixed S rfl (by kernel_rfl) ?_;clear S;intro w15 hk10 hsel S
     refine Ip [0,1,2,3,4,5,6,7,8,9,10,11] hsel (by kernel_rfl) rfl ?_
     clear hsel
     refine Er S rfl (Rm (S.tm rfl)) rfl fun a S=>Er S rfl (Jn (S.tm rfl) rfl) rfl fun a S=>Er S rfl (Rm (S.tm rfl)) rfl ?_;clear S;intro a S
     iterate 8 (refine Oi S rfl rfl rfl rfl (Fl hb4) rfl ?_ rfl;clear S;intro a S)
     refine Er S rfl (Iy hb4 (S.tm rfl) rfl) rfl fun a S=>Iq ?_
     replace S:=(S.nl [.blk b1 (An.enc (An.mk O.Site (W (x1 + 1)) O.At O.Kind O.Who O.Club O.Race O.Time O.Fault O.Of O.Other)) 33] [true] rfl).k3 0 3 53 rfl
     exact Tn (⟨false,h,S.nf [true] rfl (subR rfl)⟩)
   clear S h;rintro a w11 ⟨x4,h,S⟩;rw [hj4] at h;clear hj4 j4
   refine Tn (Fc h (S.tm rfl) (fun hb5 h=>?_) (fun hb5 h=>?_))
   ·refine Fr (Vk S rfl rfl fun a S=>Vk S rfl rfl fun a S=>Dl (wp_ret (Dc ?_)))
    obtain rfl:=Option.some.inj h
    exact Ki S results21 rfl rfl ⟨_,rfl,(Jg _ _ _)⟩
   ·refine wp_skip (Tn (Fs (Fr (Vm S rfl rfl fun a S=>lv S (Fd Es (S.tm rfl) (Fb Ad)) rfl fun a S=>Vq S Hi rfl rfl rfl fun a S=>Dl (Fc h (S.tm rfl) (fun hb6 h=>?_) (fun hb6 h=>?_))))))
    ·refine Fr (Vk S rfl rfl fun a S=>Vk S rfl rfl fun a S=>Dl (wp_ret (Dc ?_)))
     obtain rfl:=Option.some.inj h
     exact Ki S results21 rfl rfl ⟨_,rfl,(Jg _ _ _)⟩
    ·refine wp_skip (Tn (Fs ?_))
     obtain ⟨j5,hj5,h⟩:=En h
     refine Ec (fun a w'=>∃ x5 : List An,∃ v4 : Value,j5 x5 = some r ∧ Sx w [] nov [.own v4 33 11 x5.length (x5.flatMap An.enc)] [(4,v4),(5,iV 0)] 62 a w') ?_ ?_
     ·obtain ⟨r2,hr5,h⟩:=El h
      obtain ⟨hc2,h⟩:=Hw h
      refine Fm [] ([]) Tryz.mixed S rfl (by kernel_rfl) ?_;clear S;intro w20 hk14 hsel S
      refine Da 0 S hsel rfl rfl rfl (by kernel_rfl) (by kernel_rfl) rfl (fun _ hw=>(Rm (S.tm rfl))) fun a S=>Da 2 S hsel rfl rfl rfl (by kernel_rfl) (by kernel_rfl) rfl (fun _ hw=>(Ev isAgg33 sizeOf33 (off:=0) (o:=0) (part:=(An.enc (An.mk O.Site (W (x1 + 1)) O.At O.Kind O.Who O.Club O.Race O.Time O.Fault O.Of O.Other))) rfl rfl (S.tm rfl) ((S.blk_mem (i:=0) (cells:=(An.enc (An.mk O.Site (W (x1 + 1)) O.At O.Kind O.Who O.Club O.Race O.Time O.Fault O.Of O.Other))) (b:=b1) (T:=33) rfl (Gs (e':=.blk b1 (An.enc (An.mk O.Site (W (x1 + 1)) O.At O.Kind O.Who O.Club O.Race O.Time O.Fault O.Of O.Other)) 33))).kept hw))) fun a S=>CO 1 3 (by kernel_rfl) rfl rfl ?_ ?_
      ·have hz5:=S.keep.size
       refine De S (fun _=>Cy (vs:=[Aa]) ⟨(S.tm rfl),trivial⟩ call8) (Ja _ Aa Ae (Ad.mono (S.le_arg Dj)) _ hr5) rfl ?_;clear S;intro v7 a w21 hv5 hk15 hn5 S
       replace S:=S.take hn5 hz5 hv5
       refine Ld (Wt (v7.ownBlock.toList) hk15 (newO hv5) (Ey 3 (by kernel_rfl) rfl (Eg S underlying26 sizeOf33 zeroValue33 rfl rfl (pv:=[(0,.agg (An.enc (An.mk O.Site (W (x1 + 1)) O.At O.Kind O.Who O.Club O.Race O.Time O.Fault O.Of O.Other)).toArray)]) ⟨rfl,(S.tm rfl),trivial⟩ (cs:=[sV O.Site,iV (W (x1 + 1)),iV O.At,iV O.Kind,sV O.Who,sV O.Club,sV O.Race,iV O.Time,iV O.Fault,sV O.Of,iV O.Other]) (by kernel_rfl) rfl ?_)));clear S;intro a w22 b7 hz6 hk16 S
       refine Ld (Fz (Keep.none hk16) (Ey 4 (by kernel_rfl) rfl ?_))
       refine Li Es An.enc_ok S (S.tm rfl) (i:=1) rfl (S.tm rfl) (j:=0) rfl (ys:=[(An.mk O.Site (W (x1 + 1)) O.At O.Kind O.Who O.Club O.Race O.Time O.Fault O.Of O.Other)]) rfl rfl rfl rfl (by have:=Nh hc2;omega) rfl ?_;clear S;intro v8 a w23 hk17 S
       refine Ld (Fz hk17 (Ip [5,6] hsel (by kernel_rfl) rfl ?_))
       clear hsel
       refine Er S rfl (Ra (S.tm rfl)) rfl fun a S=>Er S rfl (Ra rfl) rfl fun a S=>Iq ?_
       replace S:=(S.nl [.own v8 33 11 (r2 ++ [(An.mk O.Site (W (x1 + 1)) O.At O.Kind O.Who O.Club O.Race O.Time O.Fault O.Of O.Other)]).length ((r2 ++ [(An.mk O.Site (W (x1 + 1)) O.At O.Kind O.Who O.Club O.Race O.Time O.Fault O.Of O.Other)]).flatMap An.enc)] [false,true,false] rfl).k2 4 5 rfl
       exact Tn (⟨(r2 ++ [(An.mk O.Site (W (x1 + 1)) O.At O.Kind O.Who O.Club O.Race O.Time O.Fault O.Of O.Other)]),v8,h,S.nf [true] rfl (subR rfl)⟩)
      ·refine Eg S underlying26 sizeOf33 zeroValue33 rfl rfl (pv:=[(0,.agg (An.enc (An.mk O.Site (W (x1 + 1)) O.At O.Kind O.Who O.Club O.Race O.Time O.Fault O.Of O.Other)).toArray)]) ⟨rfl,(S.tm rfl),trivial⟩ (cs:=[sV O.Site,iV (W (x1 + 1)),iV O.At,iV O.Kind,sV O.Who,sV O.Club,sV O.Race,iV O.Time,iV O.Fault,sV O.Of,iV O.Other]) (by kernel_rfl) rfl ?_;clear S;intro a w24 b8 hz7 hk18 S
       refine Ld (Fz hk18 (Ey 1 (by kernel_rfl) rfl ?_))
       have hz8:=S.keep.size
       refine De S (fun _=>Cy (vs:=[Aa]) ⟨(S.tm rfl),trivial⟩ call8) (Ja _ Aa Ae (Ad.mono (S.le_arg Dj)) _ hr5) rfl ?_;clear S;intro v9 a w25 hv6 hk19 hn6 S
       replace S:=S.take hn6 hz8 hv6
       refine Ld (Wt (v9.ownBlock.toList) hk19 (newO hv6) (Ey 4 (by kernel_rfl) rfl ?_))
       refine Li Es An.enc_ok S (S.tm rfl) (i:=0) rfl (S.tm rfl) (j:=1) rfl (ys:=[(An.mk O.Site (W (x1 + 1)) O.At O.Kind O.Who O.Club O.Race O.Time O.Fault O.Of O.Other)]) rfl rfl rfl rfl (by have:=Nh hc2;omega) rfl ?_;clear S;intro v10 a w26 hk20 S
       refine Ld (Fz hk20 (Ip [5,6] hsel (by kernel_rfl) rfl ?_))
       clear hsel
       refine Er S rfl (Ra (S.tm rfl)) rfl fun a S=>Er S rfl (Ra rfl) rfl fun a S=>Iq ?_
       replace S:=(S.nl [.own v10 33 11 (r2 ++ [(An.mk O.Site (W (x1 + 1)) O.At O.Kind O.Who O.Club O.Race O.Time O.Fault O.Of O.Other)]).length ((r2 ++ [(An.mk O.Site (W (x1 + 1)) O.At O.Kind O.Who O.Club O.Race O.Time O.Fault O.Of O.Other)]).flatMap An.enc)] [true,false,false] rfl).k2 4 5 rfl
       exact Tn (⟨(r2 ++ [(An.mk O.Site (W (x1 + 1)) O.At O.Kind O.Who O.Club O.Race O.Time O.Fault O.Of O.Other)]),v10,h,S.nf [true] rfl (subR rfl)⟩)
     clear S h;rintro a w16 ⟨x5,v4,h,S⟩;rw [hj5] at h;clear hj5 j5
     refine Tn (wp_ret ?_)
     obtain rfl:=Option.some.inj h
     exact Ki S results21 rfl rfl ⟨_,rfl,(Oq S (i:=0) rfl rfl)⟩
theorem Ua (w : World) (Ak : Ed) (r : Int) (h : Pj Ak = some r) :
    Calls prog 106 [.agg (Ed.enc Ak).toArray].toArray w (Ret w [] fun _ v _=>v = iV r):=by
 refine Fe func106 rfl ntmps106 rfl fun a S=>?_
 unfold Pj at h
 replace S:=S.k1 0 rfl
 refine Fr (Kw S (S.tm rfl) (cs:=(Ed.enc Ak)) rfl rfl ?_);clear S;intro a w1 b1 hz1 hk1 S
 refine Vk S rfl rfl fun a S=>Dl (Fs (wp_block (Fr (Vf Wv S rfl rfl fun a S=>Vl isAgg9 0 S rfl rfl rfl rfl ?_))));clear S;intro a S
 obtain ⟨r1,hr1,h⟩:=El h
 refine De S (fun _=>Cy (vs:=[sV Ak.Key]) ⟨(S.tm rfl),trivial⟩ call56) (Ml _ Ak.Key _ hr1) rfl ?_;clear S;intro v1 a w2 hv1 hk2 hn1 S
 subst hv1
 refine Vu S Hl rfl rfl fun a S=>Va S rfl rfl fun a S=>Dl (Fc h (S.tm rfl) (fun hb1 h=>?_) (fun hb1 h=>?_))
 ·refine Fr (Vk S rfl rfl fun a S=>Dl (wp_ret (Gg (Dc ?_))))
  obtain rfl:=Option.some.inj h
  exact Dx S results106 rfl rfl
 ·refine Fr (Vf Zu S rfl rfl fun a S=>Vl isAgg3 0 S rfl rfl rfl rfl fun a S=>De S (fun _=>Cy (vs:=[iV Ak.Stroke,iV 1,iV 5]) ⟨(S.tm rfl),rfl,rfl,trivial⟩ call57) (Gv _ Ak.Stroke 1 5 _ rfl) rfl ?_);clear S;intro v2 a w3 hv2 hk3 hn2 S
  subst hv2
  refine Vu S Hl rfl rfl fun a S=>Vm S rfl rfl fun a S=>Gr 5 (fun a w'=>Keep [] w3 w' ∧ Sx w [] nov [.blk b1 (Ed.enc Ak) 68] [(1,.pointer (some ⟨b1,0,none⟩)),(18,bV ((!(Dd Ak.Stroke 1 5)) || (!(Dd Ak.Sex 0 2))))] 95 a w') ?_ ?_
  ·rcases Bool.eq_false_or_eq_true (!(Dd Ak.Stroke 1 5)) with hb2 | hb2
   ·iterate 4 (refine Gd S rfl rfl rfl (Mn hb2) rfl ?_ rfl;clear S;intro a S)
    exact lv S (Kj (!(Dd Ak.Sex 0 2)) hb2 (S.tm rfl) rfl) rfl fun a S=>Dl (⟨Keep.refl _ _,S.nf [true] rfl (subR rfl)⟩)
   ·refine Db S rfl rfl rfl hb2 (Vf fa_68_5 S rfl rfl fun a S=>Db S rfl rfl rfl hb2 (Vl isAgg3 0 S rfl rfl rfl rfl fun a S=>Db S rfl rfl rfl hb2 (De S (fun _=>Cy (vs:=[iV Ak.Sex,iV 0,iV 2]) ⟨(S.tm rfl),rfl,rfl,trivial⟩ call57) (Gv _ Ak.Sex 0 2 _ rfl) rfl ?_)));clear S;intro v3 a w5 hv3 hk4 hn3 S
    subst hv3
    exact Db S rfl rfl rfl hb2 (Vu S Hl rfl rfl fun a S=>lv S (Kk hb2 (S.tm rfl) (S.tm rfl)) rfl fun a S=>Dl (⟨hk4,S.nf [true] rfl (subR rfl)⟩))
  clear S;rintro a w4 ⟨hk5,S⟩
  refine Va S rfl rfl fun a S=>Dl (Fc h (S.tm rfl) (fun hb3 h=>?_) (fun hb3 h=>?_))
  ·refine Fr (Vk S rfl rfl fun a S=>Dl (wp_ret (Gg (Dc ?_))))
   obtain rfl:=Option.some.inj h
   exact Dx S results106 rfl rfl
  ·refine Fr (Vf Ww S rfl rfl fun a S=>Vl isAgg3 0 S rfl rfl rfl rfl fun a S=>Vq S Io rfl rfl rfl fun a S=>Vm S rfl rfl fun a S=>Gr 4 (fun a w'=>Keep [] w4 w' ∧ Sx w [] nov [.blk b1 (Ed.enc Ak) 68] [(1,.pointer (some ⟨b1,0,none⟩)),(27,bV ((!decide (Ak.Course = 25)) && (!decide (Ak.Course = 50))))] 95 a w') ?_ ?_)
   ·rcases Bool.eq_false_or_eq_true (!decide (Ak.Course = 25)) with hb4 | hb4
    ·exact Db S rfl rfl rfl hb4 (Vf Ww S rfl rfl fun a S=>Db S rfl rfl rfl hb4 (Vl isAgg3 0 S rfl rfl rfl rfl fun a S=>Db S rfl rfl rfl hb4 (Vq S Io rfl rfl rfl fun a S=>lv S (Hn hb4 (S.tm rfl) (S.tm rfl)) rfl fun a S=>Dl (⟨Keep.refl _ _,S.nf [true] rfl (subR rfl)⟩))))
    ·iterate 3 (refine Gd S rfl rfl rfl (Fl hb4) rfl ?_ rfl;clear S;intro a S)
     exact lv S (Ho (!decide (Ak.Course = 50)) hb4 (S.tm rfl) rfl) rfl fun a S=>Dl (⟨Keep.refl _ _,S.nf [true] rfl (subR rfl)⟩)
   clear S;rintro a w6 ⟨hk6,S⟩
   refine Vm S rfl rfl fun a S=>Gr 5 (fun a w'=>Keep [] w6 w' ∧ Sx w [] nov [.blk b1 (Ed.enc Ak) 68] [(1,.pointer (some ⟨b1,0,none⟩)),(33,bV (((!decide (Ak.Course = 25)) && (!decide (Ak.Course = 50))) || (!(Dd Ak.Legs 1 4))))] 95 a w') ?_ ?_
   ·rcases Bool.eq_false_or_eq_true ((!decide (Ak.Course = 25)) && (!decide (Ak.Course = 50))) with hb5 | hb5
    ·iterate 4 (refine Gd S rfl rfl rfl (Mn hb5) rfl ?_ rfl;clear S;intro a S)
     exact lv S (Kj (!(Dd Ak.Legs 1 4)) hb5 (S.tm rfl) rfl) rfl fun a S=>Dl (⟨Keep.refl _ _,S.nf [true] rfl (subR rfl)⟩)
    ·refine Db S rfl rfl rfl hb5 (Vf Wx S rfl rfl fun a S=>Db S rfl rfl rfl hb5 (Vl isAgg3 0 S rfl rfl rfl rfl fun a S=>Db S rfl rfl rfl hb5 (De S (fun _=>Cy (vs:=[iV Ak.Legs,iV 1,iV 4]) ⟨(S.tm rfl),rfl,rfl,trivial⟩ call57) (Gv _ Ak.Legs 1 4 _ rfl) rfl ?_)));clear S;intro v4 a w8 hv4 hk7 hn4 S
     subst hv4
     exact Db S rfl rfl rfl hb5 (Vu S Hl rfl rfl fun a S=>lv S (Kk hb5 (S.tm rfl) (S.tm rfl)) rfl fun a S=>Dl (⟨hk7,S.nf [true] rfl (subR rfl)⟩))
   clear S;rintro a w7 ⟨hk8,S⟩
   refine Vm S rfl rfl fun a S=>Gr 5 (fun a w'=>Keep [] w7 w' ∧ Sx w [] nov [.blk b1 (Ed.enc Ak) 68] [(1,.pointer (some ⟨b1,0,none⟩)),(39,bV ((((!decide (Ak.Course = 25)) && (!decide (Ak.Course = 50))) || (!(Dd Ak.Legs 1 4))) || (!(Dd Ak.Metres 25 1500))))] 95 a w') ?_ ?_
   ·rcases Bool.eq_false_or_eq_true (((!decide (Ak.Course = 25)) && (!decide (Ak.Course = 50))) || (!(Dd Ak.Legs 1 4))) with hb6 | hb6
    ·iterate 4 (refine Gd S rfl rfl rfl (Mn hb6) rfl ?_ rfl;clear S;intro a S)
     exact lv S (Kj (!(Dd Ak.Metres 25 1500)) hb6 (S.tm rfl) rfl) rfl fun a S=>Dl (⟨Keep.refl _ _,S.nf [true] rfl (subR rfl)⟩)
    ·refine Db S rfl rfl rfl hb6 (Vf Zt S rfl rfl fun a S=>Db S rfl rfl rfl hb6 (Vl isAgg3 0 S rfl rfl rfl rfl fun a S=>Db S rfl rfl rfl hb6 (De S (fun _=>Cy (vs:=[iV Ak.Metres,iV 25,iV 1500]) ⟨(S.tm rfl),rfl,rfl,trivial⟩ call57) (Gv _ Ak.Metres 25 1500 _ rfl) rfl ?_)));clear S;intro v5 a w10 hv5 hk9 hn5 S
     subst hv5
     exact Db S rfl rfl rfl hb6 (Vu S Hl rfl rfl fun a S=>lv S (Kk hb6 (S.tm rfl) (S.tm rfl)) rfl fun a S=>Dl (⟨hk9,S.nf [true] rfl (subR rfl)⟩))
   clear S;rintro a w9 ⟨hk10,S⟩
   refine Vm S rfl rfl fun a S=>Gr 4 (fun a w'=>Keep [] w9 w' ∧ Sx w [] nov [.blk b1 (Ed.enc Ak) 68] [(1,.pointer (some ⟨b1,0,none⟩)),(44,bV (((((!decide (Ak.Course = 25)) && (!decide (Ak.Course = 50))) || (!(Dd Ak.Legs 1 4))) || (!(Dd Ak.Metres 25 1500))) || (decide (Ak.Young < 0))))] 95 a w') ?_ ?_
   ·rcases Bool.eq_false_or_eq_true ((((!decide (Ak.Course = 25)) && (!decide (Ak.Course = 50))) || (!(Dd Ak.Legs 1 4))) || (!(Dd Ak.Metres 25 1500))) with hb7 | hb7
    ·iterate 3 (refine Gd S rfl rfl rfl (Mn hb7) rfl ?_ rfl;clear S;intro a S)
     exact lv S (Kj (decide (Ak.Young < 0)) hb7 (S.tm rfl) rfl) rfl fun a S=>Dl (⟨Keep.refl _ _,S.nf [true] rfl (subR rfl)⟩)
    ·exact Db S rfl rfl rfl hb7 (Vf CU S rfl rfl fun a S=>Db S rfl rfl rfl hb7 (Vl isAgg3 0 S rfl rfl rfl rfl fun a S=>Db S rfl rfl rfl hb7 (Vq S Fa rfl rfl rfl fun a S=>lv S (Kk hb7 (S.tm rfl) (S.tm rfl)) rfl fun a S=>Dl (⟨Keep.refl _ _,S.nf [true] rfl (subR rfl)⟩))))
   clear S;rintro a w11 ⟨hk11,S⟩
   refine Vm S rfl rfl fun a S=>Gr 6 (fun a w'=>Keep [] w11 w' ∧ Sx w [] nov [.blk b1 (Ed.enc Ak) 68] [(1,.pointer (some ⟨b1,0,none⟩)),(51,bV ((((((!decide (Ak.Course = 25)) && (!decide (Ak.Course = 50))) || (!(Dd Ak.Legs 1 4))) || (!(Dd Ak.Metres 25 1500))) || (decide (Ak.Young < 0))) || (decide (Ak.Old < Ak.Young))))] 95 a w') ?_ ?_
   ·rcases Bool.eq_false_or_eq_true (((((!decide (Ak.Course = 25)) && (!decide (Ak.Course = 50))) || (!(Dd Ak.Legs 1 4))) || (!(Dd Ak.Metres 25 1500))) || (decide (Ak.Young < 0))) with hb8 | hb8
    ·iterate 5 (refine Gd S rfl rfl rfl (Mn hb8) rfl ?_ rfl;clear S;intro a S)
     exact lv S (Kj (decide (Ak.Old < Ak.Young)) hb8 (S.tm rfl) rfl) rfl fun a S=>Dl (⟨Keep.refl _ _,S.nf [true] rfl (subR rfl)⟩)
    ·refine Db S rfl rfl rfl hb8 (Vf CU S rfl rfl fun a S=>Db S rfl rfl rfl hb8 (Vl isAgg3 0 S rfl rfl rfl rfl fun a S=>Db S rfl rfl rfl hb8 (Vf CV S rfl rfl fun a S=>Db S rfl rfl rfl hb8 (Vl isAgg3 0 S rfl rfl rfl rfl fun a S=>Db S rfl rfl rfl hb8 (Vb S Jn rfl rfl rfl fun a S=>lv S (Kk hb8 (S.tm rfl) (S.tm rfl)) rfl ?_)))));clear S;intro a S
     exact Dl (⟨Keep.refl _ _,S.nf [true] rfl (subR rfl)⟩)
   clear S;rintro a w12 ⟨hk12,S⟩
   refine Vm S rfl rfl fun a S=>Gr 4 (fun a w'=>Keep [] w12 w' ∧ Sx w [] nov [.blk b1 (Ed.enc Ak) 68] [(1,.pointer (some ⟨b1,0,none⟩)),(56,bV (((((((!decide (Ak.Course = 25)) && (!decide (Ak.Course = 50))) || (!(Dd Ak.Legs 1 4))) || (!(Dd Ak.Metres 25 1500))) || (decide (Ak.Young < 0))) || (decide (Ak.Old < Ak.Young))) || (decide (120 < Ak.Old))))] 95 a w') ?_ ?_
   ·rcases Bool.eq_false_or_eq_true ((((((!decide (Ak.Course = 25)) && (!decide (Ak.Course = 50))) || (!(Dd Ak.Legs 1 4))) || (!(Dd Ak.Metres 25 1500))) || (decide (Ak.Young < 0))) || (decide (Ak.Old < Ak.Young))) with hb9 | hb9
    ·iterate 3 (refine Gd S rfl rfl rfl (Mn hb9) rfl ?_ rfl;clear S;intro a S)
     exact lv S (Kj (decide (120 < Ak.Old)) hb9 (S.tm rfl) rfl) rfl fun a S=>Dl (⟨Keep.refl _ _,S.nf [true] rfl (subR rfl)⟩)
    ·exact Db S rfl rfl rfl hb9 (Vf CV S rfl rfl fun a S=>Db S rfl rfl rfl hb9 (Vl isAgg3 0 S rfl rfl rfl rfl fun a S=>Db S rfl rfl rfl hb9 (Vq S Jn rfl rfl rfl fun a S=>lv S (Kk hb9 (S.tm rfl) (S.tm rfl)) rfl fun a S=>Dl (⟨Keep.refl _ _,S.nf [true] rfl (subR rfl)⟩))))
   clear S;rintro a w13 ⟨hk13,S⟩
   refine Va S rfl rfl fun a S=>Dl (Fc h (S.tm rfl) (fun hb10 h=>?_) (fun hb10 h=>?_))
   ·refine Fr (Vk S rfl rfl fun a S=>Dl (wp_ret (Gg (Dc ?_))))
    obtain rfl:=Option.some.inj h
    exact Dx S results106 rfl rfl
   ·refine Fr (Vf Zt S rfl rfl fun a S=>Vl isAgg3 0 S rfl rfl rfl rfl fun a S=>Vf Ww S rfl rfl fun a S=>Vl isAgg3 0 S rfl rfl rfl rfl ?_);clear S;intro a S
    obtain ⟨hc1,h⟩:=Hw h
    refine lv S (Zi (S.tm rfl) (S.tm rfl) (Xc hc1)) rfl fun a S=>Vq S Io rfl rfl rfl fun a S=>Va S rfl rfl fun a S=>Dl (Fc h (S.tm rfl) (fun hb11 h=>?_) (fun hb11 h=>?_))
    ·refine Fr (Vk S rfl rfl fun a S=>Dl (wp_ret (Gg (Dc ?_))))
     obtain rfl:=Option.some.inj h
     exact Dx S results106 rfl rfl
    ·refine Fs (Fr (Vf Zu S rfl rfl fun a S=>Vl isAgg3 0 S rfl rfl rfl rfl fun a S=>Vq S Hi rfl rfl rfl fun a S=>Vm S rfl rfl fun a S=>Gr 4 (fun a w'=>Keep [] w13 w' ∧ Sx w [] nov [.blk b1 (Ed.enc Ak) 68] [(1,.pointer (some ⟨b1,0,none⟩)),(72,bV ((decide (Ak.Stroke = 5)) && (decide (Ak.Legs = 1))))] 95 a w') ?_ ?_))
     ·rcases Bool.eq_false_or_eq_true (decide (Ak.Stroke = 5)) with hb12 | hb12
      ·exact Db S rfl rfl rfl hb12 (Vf Wx S rfl rfl fun a S=>Db S rfl rfl rfl hb12 (Vl isAgg3 0 S rfl rfl rfl rfl fun a S=>Db S rfl rfl rfl hb12 (Vq S Hi rfl rfl rfl fun a S=>lv S (Hn hb12 (S.tm rfl) (S.tm rfl)) rfl fun a S=>Dl (⟨Keep.refl _ _,S.nf [true] rfl (subR rfl)⟩))))
      ·iterate 3 (refine Gd S rfl rfl rfl (Fl hb12) rfl ?_ rfl;clear S;intro a S)
       exact lv S (Ho (decide (Ak.Legs = 1)) hb12 (S.tm rfl) rfl) rfl fun a S=>Dl (⟨Keep.refl _ _,S.nf [true] rfl (subR rfl)⟩)
     clear S;rintro a w14 ⟨hk14,S⟩
     refine Vm S rfl rfl ?_;clear S;intro a S
     obtain ⟨j1,hj1,h⟩:=En h
     refine Gr 8 (fun a w'=>∃ c1,j1 c1 = some r ∧ Keep [] w14 w' ∧ Sx w [] nov [.blk b1 (Ed.enc Ak) 68] [(1,.pointer (some ⟨b1,0,none⟩)),(81,bV c1)] 95 a w') ?_ ?_
     ·rcases Bool.eq_false_or_eq_true ((decide (Ak.Stroke = 5)) && (decide (Ak.Legs = 1))) with hb13 | hb13
      ·replace h:=Nq h hb13
       refine Db S rfl rfl rfl hb13 (Vf Zt S rfl rfl fun a S=>Db S rfl rfl rfl hb13 (Vl isAgg3 0 S rfl rfl rfl rfl fun a S=>Db S rfl rfl rfl hb13 (Vf Ww S rfl rfl fun a S=>Db S rfl rfl rfl hb13 (Vl isAgg3 0 S rfl rfl rfl rfl fun a S=>Db S rfl rfl rfl hb13 (Vu S (Xa rfl) rfl rfl fun a S=>Db S rfl rfl rfl hb13 ?_)))))
       obtain ⟨hc2,h⟩:=Hw h
       exact lv S (Zi (S.tm rfl) (S.tm rfl) (Xc hc2)) rfl fun a S=>Db S rfl rfl rfl hb13 (Vq S Io rfl rfl rfl fun a S=>lv S (Hn hb13 (S.tm rfl) (S.tm rfl)) rfl fun a S=>Dl (⟨_,h,Keep.refl _ _,S.nf [true] rfl (subR rfl)⟩))
      ·replace h:=Nr h hb13
       iterate 7 (refine Gd S rfl rfl rfl (Fl hb13) rfl ?_ rfl;clear S;intro a S)
       exact Vq S (Ho true hb13) rfl rfl rfl fun a S=>Dl (⟨_,h,Keep.refl _ _,S.nf [true] rfl (subR rfl)⟩)
     clear S h;rintro a w15 ⟨c1,h,hk15,S⟩;rw [hj1] at h;clear hj1 j1
     refine Va S rfl rfl fun a S=>Dl ?_
     obtain ⟨j2,hj2,h⟩:=En h
     refine Ec (fun a w'=>∃ x1 : Bool,j2 x1 = some r ∧ Sx w [] nov [.blk b1 (Ed.enc Ak) 68] [(64,bV x1)] 95 a w') ?_ ?_
     ·refine Fc h (S.tm rfl) (fun hb14 h=>?_) (fun hb14 h=>?_)
      ·exact wp_skip (Tn (⟨c1,h,S.nf [true] rfl ⟨rfl,trivial⟩⟩))
      ·refine Fg (Vf Zu S rfl rfl fun a S=>Vl isAgg3 0 S rfl rfl rfl rfl fun a S=>Vq S Hi rfl rfl rfl fun a S=>Vm S rfl rfl fun a S=>Gr 4 (fun a w'=>Keep [] w15 w' ∧ Sx w [] nov [.blk b1 (Ed.enc Ak) 68] [(1,.pointer (some ⟨b1,0,none⟩)),(89,bV ((decide (Ak.Stroke = 5)) && (decide (1 < Ak.Legs))))] 95 a w') ?_ ?_)
       ·rcases Bool.eq_false_or_eq_true (decide (Ak.Stroke = 5)) with hb15 | hb15
        ·exact Db S rfl rfl rfl hb15 (Vf Wx S rfl rfl fun a S=>Db S rfl rfl rfl hb15 (Vl isAgg3 0 S rfl rfl rfl rfl fun a S=>Db S rfl rfl rfl hb15 (Vq S Jn rfl rfl rfl fun a S=>lv S (Hn hb15 (S.tm rfl) (S.tm rfl)) rfl fun a S=>Dl (⟨Keep.refl _ _,S.nf [true] rfl (subR rfl)⟩))))
        ·iterate 3 (refine Gd S rfl rfl rfl (Fl hb15) rfl ?_ rfl;clear S;intro a S)
         exact lv S (Ho (decide (1 < Ak.Legs)) hb15 (S.tm rfl) rfl) rfl fun a S=>Dl (⟨Keep.refl _ _,S.nf [true] rfl (subR rfl)⟩)
       clear S;rintro a w17 ⟨hk16,S⟩
       refine Vm S rfl rfl fun a S=>Gr 4 (fun a w'=>Keep [] w17 w' ∧ Sx w [] nov [.blk b1 (Ed.enc Ak) 68] [(94,bV (((decide (Ak.Stroke = 5)) && (decide (1 < Ak.Legs))) && (!decide (Ak.Legs = 4))))] 95 a w') ?_ ?_
       ·rcases Bool.eq_false_or_eq_true ((decide (Ak.Stroke = 5)) && (decide (1 < Ak.Legs))) with hb16 | hb16
        ·exact Db S rfl rfl rfl hb16 (Vf Wx S rfl rfl fun a S=>Db S rfl rfl rfl hb16 (Vl isAgg3 0 S rfl rfl rfl rfl fun a S=>Db S rfl rfl rfl hb16 (Vq S Io rfl rfl rfl fun a S=>lv S (Hn hb16 (S.tm rfl) (S.tm rfl)) rfl fun a S=>Dl (⟨Keep.refl _ _,S.nf [true] rfl ⟨rfl,trivial⟩⟩))))
        ·iterate 3 (refine Gd S rfl rfl rfl (Fl hb16) rfl ?_ rfl;clear S;intro a S)
         exact lv S (Ho (!decide (Ak.Legs = 4)) hb16 (S.tm rfl) rfl) rfl fun a S=>Dl (⟨Keep.refl _ _,S.nf [true] rfl ⟨rfl,trivial⟩⟩)
       clear S;rintro a w18 ⟨hk17,S⟩
       exact Va S rfl rfl fun a S=>Dl (⟨(((decide (Ak.Stroke = 5)) && (decide (1 < Ak.Legs))) && (!decide (Ak.Legs = 4))),h,S.nf [true] rfl ⟨rfl,trivial⟩⟩)
     clear S h;rintro a w16 ⟨x1,h,S⟩;rw [hj2] at h;clear hj2 j2
     refine Tn (Fc h (S.tm rfl) (fun hb17 h=>?_) (fun hb17 h=>?_))
     ·refine Fr (Vk S rfl rfl fun a S=>Dl (wp_ret (Gg (Dc ?_))))
      obtain rfl:=Option.some.inj h
      exact Dx S results106 rfl rfl
     ·refine wp_skip (Ia (Tn (Fr (Vk S rfl rfl fun a S=>Dl (wp_ret ?_)))))
      obtain rfl:=Option.some.inj h
      exact Dx S results106 rfl rfl
theorem Te (w : World) (O : Ed) (Ap : Nat) (Ag : Ed) (Ah : (view w []) Ap = some (.cells [sV Ag.Key,iV Ag.Metres,iV Ag.Stroke,iV Ag.Course,iV Ag.Legs,iV Ag.Sex,iV Ag.Young,iV Ag.Old].toArray 68 (0,0))) (r : Bool) (h : Ow O Ag = r) :
    Calls prog 108 [.agg (Ed.enc O).toArray,.pointer (some ⟨Ap,0,none⟩)].toArray w (Ret w [] fun _ v _=>v = bV r):=by
 refine Fe func108 rfl ntmps108 rfl fun a S=>?_
 unfold Ow at h
 replace S:=S.k2 0 1 rfl
 refine Fr (Kw S (S.tm rfl) (cs:=(Ed.enc O)) rfl rfl ?_);clear S;intro a w1 b1 hz1 hk1 S
 refine Vk S rfl rfl fun a S=>Dz (Vf Wv S rfl rfl fun a S=>Vl isAgg9 0 S rfl rfl rfl rfl fun a S=>Vf Wv S rfl rfl fun a S=>lv S (Ep isAgg9 (off:=0) (o:=0) (S.tm rfl) ((Gw Ah).at S.emb0) rfl) rfl fun a S=>Vb S Pl rfl rfl rfl fun a S=>Va S rfl rfl ?_);clear S;intro a S
 refine Dl (wp_ret ?_)
 subst h
 exact Dx S results108 rfl rfl
theorem Mw (w : World) (Aq : Value) (As : List Ed) (Bh : Slc (view w []) 8 Aq (As.map Ed.enc)) (Av : Nat) (Ai : Ed) (Bk : (view w []) Av = some (.cells [sV Ai.Key,iV Ai.Metres,iV Ai.Stroke,iV Ai.Course,iV Ai.Legs,iV Ai.Sex,iV Ai.Young,iV Ai.Old].toArray 68 (0,0))) (r : Int) (h : Iw As Ai = r) :
    Calls prog 96 [Aq,.func (.func 108) #[] #[.pointer (some ⟨Av,0,none⟩)]].toArray w (Ret w [] fun _ v _=>v = iV r):=by
 refine Fe func96 rfl ntmps96 rfl fun a S=>?_
 unfold Iw at h
 replace S:=S.k2 0 1 rfl
 refine Fr (Vk S rfl rfl fun a S=>Dl (Fs (Fr (Vm S rfl rfl fun a S=>lv S (Fd Ux (S.tm rfl) (Fb Bh)) rfl fun a S=>lv S (Rm rfl) rfl ?_))));clear S;intro a S
 refine Dl ?_
 replace S:=S.k4 0 1 7 8 rfl
 obtain ⟨j1,hj1,h⟩:=En h
 refine Ec (fun a w'=>j1 = r ∧ Sx w [] nov [] [] 19 a w') ?_ ?_
 ·refine wp_block (Hx (fun (ys1 : List Ed) a w'=>∃ i1 : Nat,(∃ dn,As = dn ++ ys1 ∧ dn.length = i1) ∧ Ej Ai j1 ys1 i1 = r ∧ Sx w [] nov [] [(0,Aq),(1,.func (.func 108) #[] #[.pointer (some ⟨Av,0,none⟩)]),(7,iV (As.length : Int)),(8,iV (i1 : Int))] 19 a w') List.length As ⟨0,⟨[],rfl,rfl⟩,h,S.nf [] rfl (subR rfl)⟩ ?_)
  clear S h;rintro ys1 a w1 ⟨i1,⟨dn,hd1,hi1⟩,h,S⟩
  cases ys1 with
  | nil =>
   rw [Ej.eq_1] at h
   refine Fr (Vb S Fa rfl rfl rfl fun a S=>Ld ?_)
   replace S:=S.k5 0 1 7 8 9 rfl
   exact Tn (Fs (wp_cond_false ((S.tm rfl).trans (congrArg Value.bool (Jk hd1 hi1))) (wp_exit (Et (Et (Hp (Tn (⟨h,S.nf [] rfl trivial⟩))))))))
  | cons y1 ys1 =>
   rw [Ej.eq_2] at h
   refine Fr (Vb S Fa rfl rfl rfl fun a S=>Ld ?_)
   replace S:=S.k5 0 1 7 8 9 rfl
   refine Tn (Fs (wp_cond_true ((S.tm rfl).trans (congrArg Value.bool (Hy hd1 hi1))) (wp_skip (Tn (Fs (wp_block (Fr (Vm S rfl rfl fun a S=>Va S rfl rfl ?_))))))));clear S;intro a S
   refine Dl (Fs (Fg ?_))
   iterate 3 (refine Vm S rfl rfl ?_;clear S;intro a S)
   obtain ⟨b1,o1,hm1,hr1⟩:=Dt (a:=a) (x:=.tmp 12) (y:=.tmp 13) (ty:=0) Ux Bh (Jp hd1 hi1) rfl (S.tm rfl) (S.tm rfl)
   refine lv S (hr1 _) rfl ?_;clear S;intro a S
   clear hr1
   refine lv S (Ev isAgg68 sizeOf68 (off:=o1) (o:=0) (part:=(Ed.enc y1)) rfl rfl (S.tm rfl) (hm1.at S.emb0)) rfl fun a S=>De S (fun _=>Md (cap:=[.pointer (some ⟨Av,0,none⟩)]) (S.tm rfl) (vs:=[.agg (Ed.enc y1).toArray]) ⟨(S.tm rfl),trivial⟩ call108) (Te _ y1 Av Ai ((S.le_arg Dj) _ _ Bk) _ rfl) rfl ?_;clear S;intro v1 a w3 hv1 hk1 hn1 S
   subst hv1
   refine Dl (Fc h (S.tm rfl) (fun hb1 h=>?_) (fun hb1 h=>?_))
   ·refine Fr (Vm S rfl rfl fun a S=>Va S rfl rfl fun a S=>Ld ?_)
    replace S:=S.k1 4 rfl
    refine Tn (wp_ret (Gg (Dc (Dc (Gg (Dc (Dc ?_)))))))
    subst h
    exact Dx S results96 rfl rfl
   ·exact wp_skip (Ia (Tn (Fg (Vq S Ge rfl rfl rfl fun a S=>Vm S rfl rfl fun a S=>Dl (⟨ys1,⟨i1 + 1,⟨_,(hd1).trans (List.append_cons _ _ _),by simp [hi1]⟩,h,S.nf [] rfl ⟨rfl,rfl,rfl,(congrArg (fun z=>some (Value.int .i64 z)) (Hz hd1 hi1 (Iz Bh))),trivial⟩⟩,Nat.lt_succ_self _⟩)))))
 clear S h;rintro a w2 ⟨h,S⟩;rw [hj1] at h;clear hj1 j1
 refine Tn (Fr (Vk S rfl rfl fun a S=>Dl (wp_ret ?_)))
 subst h
 exact Dx S results96 rfl rfl
theorem Mb (w : World) (Aq : Value) (As : List Ed) (Bh : Slc (view w []) 8 Aq (As.map Ed.enc)) (Av : Nat) (Ai : Ed) (Bk : (view w []) Av = some (.cells [sV Ai.Key,iV Ai.Metres,iV Ai.Stroke,iV Ai.Course,iV Ai.Legs,iV Ai.Sex,iV Ai.Young,iV Ai.Old].toArray 68 (0,0))) (r : Bool) (h : Ig As Ai = r) :
    Calls prog 107 [Aq,.func (.func 108) #[] #[.pointer (some ⟨Av,0,none⟩)]].toArray w (Ret w [] fun _ v _=>v = bV r):=by
 refine Fe func107 rfl ntmps107 rfl fun a S=>?_
 unfold Ig at h
 replace S:=S.k2 0 1 rfl
 refine Fr (Vk S rfl rfl fun a S=>Dz (Vm S rfl rfl fun a S=>Vm S rfl rfl fun a S=>De S (fun _=>Cy (vs:=[Aq,.func (.func 108) #[] #[.pointer (some ⟨Av,0,none⟩)]]) ⟨(S.tm rfl),(S.tm rfl),trivial⟩ call96) (Mw _ Aq As (Bh.mono (S.le_arg Dj)) Av Ai ((S.le_arg Dj) _ _ Bk) _ rfl) rfl ?_));clear S;intro v1 a w1 hv1 hk1 hn1 S
 subst hv1
 refine Vq S Nk rfl rfl rfl fun a S=>Va S rfl rfl fun a S=>Dl (wp_ret ?_)
 subst h
 exact Dx S results107 rfl rfl
theorem Tf (w : World) (Bp : Pz) (Cr : R71) (Cu : Vv (view w []) Bp Cr) (r : Int) (h : Ox Bp = some r) :
    Calls prog 109 [.agg (R71.enc Cr).toArray].toArray w (Ret w [] fun _ v _=>v = iV r):=by
 obtain ⟨u1,rfl,hs1⟩:=Cu
 refine Fe func109 rfl ntmps109 rfl fun a S=>?_
 unfold Ox at h
 replace S:=S.k1 0 rfl
 refine Fr (Kw S (S.tm rfl) (cs:=[u1.val,iV Bp.Relay,iV Bp.Most]) rfl rfl ?_);clear S;intro a w1 b1 hz1 hk1 S
 refine Vk S rfl rfl fun a S=>Dl (Fs (Fr (Vf Zv S rfl rfl fun a S=>Vl isAgg22 0 S rfl rfl rfl rfl fun a S=>lv S (Fd Kz (S.tm rfl) (Fb hs1)) rfl fun a S=>Vq S Jn rfl rfl rfl fun a S=>Ld ?_)))
 refine Tn (Fc h (S.tm rfl) (fun hb1 h=>?_) (fun hb1 h=>?_))
 ·refine Fr (Vk S rfl rfl fun a S=>Dl (wp_ret (Dc ?_)))
  obtain rfl:=Option.some.inj h
  exact Dx S results109 rfl rfl
 ·refine wp_skip (Tn (Fs (Fr (Vf Zv S rfl rfl fun a S=>Vl isAgg22 0 S rfl rfl rfl rfl fun a S=>lv S (Fd Kz (S.tm rfl) (Fb hs1)) rfl fun a S=>lv S (Rm rfl) rfl fun a S=>Dl ?_))))
  replace S:=(S.nl [.blk b1 [u1.val,iV Bp.Relay,iV Bp.Most] 71] [true] rfl).k4 1 10 11 12 rfl
  obtain ⟨j1,hj1,h⟩:=En h
  refine Ec (fun a w'=>j1 = some r ∧ Sx w [] nov [.blk b1 [u1.val,iV Bp.Relay,iV Bp.Most] 71] [(1,.pointer (some ⟨b1,0,none⟩))] 43 a w') ?_ ?_
  ·refine wp_block (Hx (fun (ys1 : List Int) a w'=>∃ i1 : Nat,(∃ dn,Bp.Points = dn ++ ys1 ∧ dn.length = i1) ∧ Ic Bp j1 ys1 i1 = some r ∧ Sx w [] nov [.blk b1 [u1.val,iV Bp.Relay,iV Bp.Most] 71] [(1,.pointer (some ⟨b1,0,none⟩)),(10,u1.val),(11,iV (Bp.Points.length : Int)),(12,iV (i1 : Int))] 43 a w') List.length Bp.Points ⟨0,⟨[],rfl,rfl⟩,h,S.nf [true] rfl (subR rfl)⟩ ?_)
   clear S h;rintro ys1 a w2 ⟨i1,⟨dn,hd1,hi1⟩,h,S⟩
   cases ys1 with
   | nil =>
    rw [Ic.eq_1] at h
    refine Fr (Vb S Fa rfl rfl rfl fun a S=>Ld ?_)
    replace S:=S.k5 1 10 11 12 13 rfl
    exact Tn (Fs (wp_cond_false ((S.tm rfl).trans (congrArg Value.bool (Jk hd1 hi1))) (wp_exit (Et (Et (Hp (Tn (⟨h,S.nf [true] rfl ⟨rfl,trivial⟩⟩))))))))
   | cons y1 ys1 =>
    rw [Ic.eq_2] at h
    refine Fr (Vb S Fa rfl rfl rfl fun a S=>Ld ?_)
    replace S:=S.k5 1 10 11 12 13 rfl
    refine Tn (Fs (wp_cond_true ((S.tm rfl).trans (congrArg Value.bool (Hy hd1 hi1))) (wp_skip (Tn (Fs (wp_block (Fr (Vm S rfl rfl ?_))))))));clear S;intro a S
    obtain ⟨b2,o1,hm1,hr1⟩:=Dt (a:=a) (x:=.tmp 10) (y:=.tmp 12) (ty:=0) Kz hs1 (Jp hd1 hi1) rfl (S.tm rfl) (S.tm rfl)
    refine lv S (hr1 _) rfl ?_;clear S;intro a S
    clear hr1
    refine lv S (Ep isAgg3 (off:=o1) (o:=0) (S.tm rfl) (hm1.at S.emb0) rfl) rfl fun a S=>Va S rfl rfl fun a S=>Va S rfl rfl fun a S=>Dl (Fs (Fr (Vm S rfl rfl fun a S=>De S (fun _=>Cy (vs:=[iV y1,iV 0,iV 10000]) ⟨(S.tm rfl),rfl,rfl,trivial⟩ call57) (Gv _ y1 0 10000 _ rfl) rfl ?_)));clear S;intro v1 a w4 hv1 hk2 hn1 S
    subst hv1
    refine Vu S Hl rfl rfl fun a S=>Dl (Fc h (S.tm rfl) (fun hb2 h=>?_) (fun hb2 h=>?_))
    ·refine Fr (Vk S rfl rfl fun a S=>Dl (wp_ret (Dc (Gg (Dc (Dc (Gg ?_)))))))
     refine Dc (Dc ?_)
     obtain rfl:=Option.some.inj h
     exact Dx S results109 rfl rfl
    ·refine wp_skip (Tn (Fr (Vm S rfl rfl fun a S=>Vq S Jn rfl rfl rfl fun a S=>Vm S rfl rfl ?_)));clear S;intro a S
     obtain ⟨j2,hj2,h⟩:=En h
     refine Gr 9 (fun a w'=>∃ c1,j2 c1 = some r ∧ Keep [] w4 w' ∧ Sx w [] nov [.blk b1 [u1.val,iV Bp.Relay,iV Bp.Most] 71] [(1,.pointer (some ⟨b1,0,none⟩)),(10,u1.val),(11,iV (Bp.Points.length : Int)),(12,iV (i1 : Int)),(31,bV c1)] 43 a w') ?_ ?_
     ·rcases Bool.eq_false_or_eq_true (decide (0 < (i1 : Int))) with hb3 | hb3
      ·replace h:=Nq h hb3
       refine Db S rfl rfl rfl hb3 (Vm S rfl rfl fun a S=>Db S rfl rfl rfl hb3 (Vf Zv S rfl rfl fun a S=>Db S rfl rfl rfl hb3 (Vl isAgg22 0 S rfl rfl rfl rfl fun a S=>Db S rfl rfl rfl hb3 (Vm S rfl rfl fun a S=>Db S rfl rfl rfl hb3 (Vq S Kh rfl rfl rfl fun a S=>Db S rfl rfl rfl hb3 ?_)))))
       obtain ⟨hc1,h⟩:=Hw h
       obtain ⟨b3,o2,hm2,hr2⟩:=Dt (a:=a) (x:=.tmp 25) (y:=.tmp 27) (ty:=0) Kz hs1 (Dg hc1).1 (Dg hc1).2 (S.tm rfl) (S.tm rfl)
       refine lv S (hr2 _) rfl ?_;clear S;intro a S
       clear hr2
       exact Db S rfl rfl rfl hb3 (lv S (Ep isAgg3 (off:=o2) (o:=0) (S.tm rfl) (hm2.at S.emb0) rfl) rfl fun a S=>Db S rfl rfl rfl hb3 (Vb S Jn rfl rfl rfl fun a S=>lv S (Hn hb3 (S.tm rfl) (S.tm rfl)) rfl fun a S=>Dl (⟨_,h,Keep.refl _ _,S.nf [true] rfl (subR rfl)⟩)))
      ·replace h:=Nr h hb3
       iterate 8 (refine Gd S rfl rfl rfl (Fl hb3) rfl ?_ rfl;clear S;intro a S)
       exact Vq S (Ho true hb3) rfl rfl rfl fun a S=>Dl (⟨_,h,Keep.refl _ _,S.nf [true] rfl (subR rfl)⟩)
     clear S h;rintro a w5 ⟨c1,h,hk3,S⟩;rw [hj2] at h;clear hj2 j2
     refine Dl (Fc h (S.tm rfl) (fun hb4 h=>?_) (fun hb4 h=>?_))
     ·refine Fr (Vk S rfl rfl fun a S=>Dl (wp_ret (Gg (Dc (Dc (Gg (Dc ?_)))))))
      refine Dc ?_
      obtain rfl:=Option.some.inj h
      exact Dx S results109 rfl rfl
     ·exact wp_skip (Ia (Tn (Fg (Vq S Ge rfl rfl rfl fun a S=>Vm S rfl rfl fun a S=>Dl (⟨ys1,⟨i1 + 1,⟨_,(hd1).trans (List.append_cons _ _ _),by simp [hi1]⟩,h,S.nf [true] rfl ⟨rfl,rfl,rfl,(congrArg (fun z=>some (Value.int .i64 z)) (Hz hd1 hi1 (Iz hs1))),trivial⟩⟩,Nat.lt_succ_self _⟩)))))
  clear S h;rintro a w3 ⟨h,S⟩;rw [hj1] at h;clear hj1 j1
  refine Tn (Fs (Fr (Vf fa_71_1 S rfl rfl fun a S=>Vl isAgg3 0 S rfl rfl rfl rfl fun a S=>De S (fun _=>Cy (vs:=[iV Bp.Relay,iV 1,iV 10]) ⟨(S.tm rfl),rfl,rfl,trivial⟩ call57) (Gv _ Bp.Relay 1 10 _ rfl) rfl ?_)));clear S;intro v2 a w6 hv2 hk4 hn2 S
  subst hv2
  refine Vu S Hl rfl rfl fun a S=>Vm S rfl rfl fun a S=>Gr 5 (fun a w'=>Keep [] w6 w' ∧ Sx w [] nov [.blk b1 [u1.val,iV Bp.Relay,iV Bp.Most] 71] [(42,bV ((!(Dd Bp.Relay 1 10)) || (!(Dd Bp.Most 0 10))))] 43 a w') ?_ ?_
  ·rcases Bool.eq_false_or_eq_true (!(Dd Bp.Relay 1 10)) with hb5 | hb5
   ·iterate 4 (refine Gd S rfl rfl rfl (Mn hb5) rfl ?_ rfl;clear S;intro a S)
    exact lv S (Kj (!(Dd Bp.Most 0 10)) hb5 (S.tm rfl) rfl) rfl fun a S=>Dl (⟨Keep.refl _ _,S.nf [true] rfl ⟨rfl,trivial⟩⟩)
   ·refine Db S rfl rfl rfl hb5 (Vf fa_71_2 S rfl rfl fun a S=>Db S rfl rfl rfl hb5 (Vl isAgg3 0 S rfl rfl rfl rfl fun a S=>Db S rfl rfl rfl hb5 (De S (fun _=>Cy (vs:=[iV Bp.Most,iV 0,iV 10]) ⟨(S.tm rfl),rfl,rfl,trivial⟩ call57) (Gv _ Bp.Most 0 10 _ rfl) rfl ?_)));clear S;intro v3 a w8 hv3 hk5 hn3 S
    subst hv3
    exact Db S rfl rfl rfl hb5 (Vu S Hl rfl rfl fun a S=>lv S (Kk hb5 (S.tm rfl) (S.tm rfl)) rfl fun a S=>Dl (⟨hk5,S.nf [true] rfl ⟨rfl,trivial⟩⟩))
  clear S;rintro a w7 ⟨hk6,S⟩
  refine Dl (Fc h (S.tm rfl) (fun hb6 h=>?_) (fun hb6 h=>?_))
  ·refine Fr (Vk S rfl rfl fun a S=>Dl (wp_ret (Dc ?_)))
   obtain rfl:=Option.some.inj h
   exact Dx S results109 rfl rfl
  ·refine wp_skip (Tn (Fr (Vk S rfl rfl fun a S=>Dl (wp_ret ?_))))
   obtain rfl:=Option.some.inj h
   exact Dx S results109 rfl rfl
theorem Uk (w : World) (Bv : Lq) (r : Int) (h : Qa Bv = r) :
    Calls prog 110 [.agg (Lq.enc Bv).toArray].toArray w (Ret w [] fun _ v _=>v = iV r):=by
 refine Fe func110 rfl ntmps110 rfl fun a S=>?_
 unfold Qa at h
 replace S:=S.k1 0 rfl
 refine Fr (Kw S (S.tm rfl) (cs:=(Lq.enc Bv)) rfl rfl ?_);clear S;intro a w1 b1 hz1 hk1 S
 refine Vk S rfl rfl fun a S=>Dl (Fs (Fr (Vf fa_73_0 S rfl rfl fun a S=>Vl isAgg3 0 S rfl rfl rfl rfl fun a S=>De S (fun _=>Cy (vs:=[iV Bv.Size,iV 1,iV 10]) ⟨(S.tm rfl),rfl,rfl,trivial⟩ call57) (Gv _ Bv.Size 1 10 _ rfl) rfl ?_)));clear S;intro v1 a w2 hv1 hk2 hn1 S
 subst hv1
 refine Vu S Hl rfl rfl fun a S=>Vm S rfl rfl fun a S=>Gr 5 (fun a w'=>Keep [] w2 w' ∧ Sx w [] nov [.blk b1 (Lq.enc Bv) 73] [(1,.pointer (some ⟨b1,0,none⟩)),(12,bV ((!(Dd Bv.Size 1 10)) || (!(Dd Bv.Many 1 5))))] 19 a w') ?_ ?_
 ·rcases Bool.eq_false_or_eq_true (!(Dd Bv.Size 1 10)) with hb1 | hb1
  ·iterate 4 (refine Gd S rfl rfl rfl (Mn hb1) rfl ?_ rfl;clear S;intro a S)
   exact lv S (Kj (!(Dd Bv.Many 1 5)) hb1 (S.tm rfl) rfl) rfl fun a S=>Dl (⟨Keep.refl _ _,S.nf [true] rfl (subR rfl)⟩)
  ·refine Db S rfl rfl rfl hb1 (Vf fa_73_1 S rfl rfl fun a S=>Db S rfl rfl rfl hb1 (Vl isAgg3 0 S rfl rfl rfl rfl fun a S=>Db S rfl rfl rfl hb1 (De S (fun _=>Cy (vs:=[iV Bv.Many,iV 1,iV 5]) ⟨(S.tm rfl),rfl,rfl,trivial⟩ call57) (Gv _ Bv.Many 1 5 _ rfl) rfl ?_)));clear S;intro v2 a w4 hv2 hk3 hn2 S
   subst hv2
   exact Db S rfl rfl rfl hb1 (Vu S Hl rfl rfl fun a S=>lv S (Kk hb1 (S.tm rfl) (S.tm rfl)) rfl fun a S=>Dl (⟨hk3,S.nf [true] rfl (subR rfl)⟩))
 clear S;rintro a w3 ⟨hk4,S⟩
 refine Vm S rfl rfl fun a S=>Gr 5 (fun a w'=>Keep [] w3 w' ∧ Sx w [] nov [.blk b1 (Lq.enc Bv) 73] [(18,bV (((!(Dd Bv.Size 1 10)) || (!(Dd Bv.Many 1 5))) || (!(Dd Bv.Reserves 0 10))))] 19 a w') ?_ ?_
 ·rcases Bool.eq_false_or_eq_true ((!(Dd Bv.Size 1 10)) || (!(Dd Bv.Many 1 5))) with hb2 | hb2
  ·iterate 4 (refine Gd S rfl rfl rfl (Mn hb2) rfl ?_ rfl;clear S;intro a S)
   exact lv S (Kj (!(Dd Bv.Reserves 0 10)) hb2 (S.tm rfl) rfl) rfl fun a S=>Dl (⟨Keep.refl _ _,S.nf [true] rfl ⟨rfl,trivial⟩⟩)
  ·refine Db S rfl rfl rfl hb2 (Vf fa_73_2 S rfl rfl fun a S=>Db S rfl rfl rfl hb2 (Vl isAgg3 0 S rfl rfl rfl rfl fun a S=>Db S rfl rfl rfl hb2 (De S (fun _=>Cy (vs:=[iV Bv.Reserves,iV 0,iV 10]) ⟨(S.tm rfl),rfl,rfl,trivial⟩ call57) (Gv _ Bv.Reserves 0 10 _ rfl) rfl ?_)));clear S;intro v3 a w6 hv3 hk5 hn3 S
   subst hv3
   exact Db S rfl rfl rfl hb2 (Vu S Hl rfl rfl fun a S=>lv S (Kk hb2 (S.tm rfl) (S.tm rfl)) rfl fun a S=>Dl (⟨hk5,S.nf [true] rfl ⟨rfl,trivial⟩⟩))
 clear S;rintro a w5 ⟨hk6,S⟩
 refine Dl (Fc h (S.tm rfl) (fun hb3 h=>?_) (fun hb3 h=>?_))
 ·refine Fr (Vk S rfl rfl fun a S=>Dl (wp_ret (Dc ?_)))
  subst h
  exact Dx S results110 rfl rfl
 ·refine wp_skip (Tn (Fr (Vk S rfl rfl fun a S=>Dl (wp_ret ?_))))
  subst h
  exact Dx S results110 rfl rfl
theorem Vc (w : World) (Ab : Lt) (Br : R75) (By : Pk (view w []) Ab Br) (r : Int) (h : Oy Ab = some r) :
    Calls prog 94 [.agg (R75.enc Br).toArray].toArray w (Ret w [] fun _ v _=>v = iV r):=by
 obtain ⟨u1,u2,rfl,hs1,⟨u3,rfl,hs2⟩⟩:=By
 refine Fe func94 rfl ntmps94 rfl fun a S=>?_
 unfold Oy at h
 replace S:=S.k1 0 rfl
 refine Fr (Kw S (S.tm rfl) (cs:=[u1.val,u3.val,iV Ab.Table.Relay,iV Ab.Table.Most,iV Ab.Final.Size,iV Ab.Final.Many,iV Ab.Final.Reserves]) rfl rfl ?_);clear S;intro a w1 b1 hz1 hk1 S
 refine Vk S rfl rfl fun a S=>Dl (Fs (Fr (Vf Uz S rfl rfl fun a S=>Vl isAgg69 0 S rfl rfl rfl rfl fun a S=>lv S (Fd Ux (S.tm rfl) (Fb hs1)) rfl fun a S=>Vq S Jn rfl rfl rfl fun a S=>Ld ?_)))
 refine Tn (Fc h (S.tm rfl) (fun hb1 h=>?_) (fun hb1 h=>?_))
 ·refine Fr (Vk S rfl rfl fun a S=>Dl (wp_ret (Dc ?_)))
  obtain rfl:=Option.some.inj h
  exact Dx S results94 rfl rfl
 ·refine wp_skip (Tn (Fs (Fr (Vf Uz S rfl rfl fun a S=>Vl isAgg69 0 S rfl rfl rfl rfl fun a S=>lv S (Fd Ux (S.tm rfl) (Fb hs1)) rfl fun a S=>lv S (Rm rfl) rfl fun a S=>Dl ?_))))
  replace S:=(S.nl [.blk b1 [u1.val,u3.val,iV Ab.Table.Relay,iV Ab.Table.Most,iV Ab.Final.Size,iV Ab.Final.Many,iV Ab.Final.Reserves] 75] [true] rfl).k4 1 12 13 14 rfl
  obtain ⟨j1,hj1,h⟩:=En h
  refine Ec (fun a w'=>j1 = some r ∧ Sx w [] nov [.blk b1 [u1.val,u3.val,iV Ab.Table.Relay,iV Ab.Table.Most,iV Ab.Final.Size,iV Ab.Final.Many,iV Ab.Final.Reserves] 75] [(1,.pointer (some ⟨b1,0,none⟩))] 40 a w') ?_ ?_
  ·refine wp_block (Hx (fun (ys1 : List Ed) a w'=>∃ i1 : Nat,(∃ dn,Ab.Races = dn ++ ys1 ∧ dn.length = i1) ∧ Jl Ab j1 ys1 i1 = some r ∧ Sx w [] nov [.blk b1 [u1.val,u3.val,iV Ab.Table.Relay,iV Ab.Table.Most,iV Ab.Final.Size,iV Ab.Final.Many,iV Ab.Final.Reserves] 75] [(1,.pointer (some ⟨b1,0,none⟩)),(12,u1.val),(13,iV (Ab.Races.length : Int)),(14,iV (i1 : Int))] 40 a w') List.length Ab.Races ⟨0,⟨[],rfl,rfl⟩,h,S.nf [true] rfl (subR rfl)⟩ ?_)
   clear S h;rintro ys1 a w2 ⟨i1,⟨dn,hd1,hi1⟩,h,S⟩
   cases ys1 with
   | nil =>
    rw [Jl.eq_1] at h
    refine Fr (Vb S Fa rfl rfl rfl fun a S=>Ld ?_)
    replace S:=S.k5 1 12 13 14 15 rfl
    exact Tn (Fs (wp_cond_false ((S.tm rfl).trans (congrArg Value.bool (Jk hd1 hi1))) (wp_exit (Et (Et (Hp (Tn (⟨h,S.nf [true] rfl ⟨rfl,trivial⟩⟩))))))))
   | cons y1 ys1 =>
    rw [Jl.eq_2] at h
    refine Fr (Vb S Fa rfl rfl rfl fun a S=>Ld ?_)
    replace S:=S.k5 1 12 13 14 15 rfl
    refine Tn (Fs (wp_cond_true ((S.tm rfl).trans (congrArg Value.bool (Hy hd1 hi1))) (wp_skip (Tn (Fs (wp_block (Fr (Vm S rfl rfl ?_))))))));clear S;intro a S
    obtain ⟨b2,o1,hm1,hr1⟩:=Dt (a:=a) (x:=.tmp 12) (y:=.tmp 14) (ty:=0) Ux hs1 (Jp hd1 hi1) rfl (S.tm rfl) (S.tm rfl)
    refine lv S (hr1 _) rfl ?_;clear S;intro a S
    clear hr1
    refine lv S (Ev isAgg68 sizeOf68 (off:=o1) (o:=0) (part:=(Ed.enc y1)) rfl rfl (S.tm rfl) (hm1.at S.emb0)) rfl fun a S=>It S zeroValue68 (cs:=[sV Cw,iV 0,iV 0,iV 0,iV 0,iV 0,iV 0,iV 0]) rfl rfl ?_;clear S;intro a w4 b3 hz2 hk2 S
    refine Va S rfl rfl fun a S=>Ef S (S.tm rfl) (S.tm rfl) (i:=0) (off:=0) rfl sizeOf68 (vs:=(Ed.enc y1)) rfl rfl rfl rfl ?_;clear S;intro w5 hk3 S
    refine Dl (Fs (Fr (lv S (Ev isAgg68 sizeOf68 (off:=0) (o:=0) (part:=(Ed.enc y1)) rfl rfl (S.tm rfl) (S.cellsAt (i:=0) rfl)) rfl ?_)));clear S;intro a S
    obtain ⟨r1,hr2,h⟩:=El h
    refine De S (fun _=>Cy (vs:=[.agg (Ed.enc y1).toArray]) ⟨(S.tm rfl),trivial⟩ call106) (Ua _ y1 _ hr2) rfl ?_;clear S;intro v1 a w6 hv1 hk4 hn1 S
    subst hv1
    refine Va S rfl rfl fun a S=>Dz (Vm S rfl rfl fun a S=>Vq S Io rfl rfl rfl fun a S=>Ld ?_)
    replace S:=(S.nl [.blk b3 (Ed.enc y1) 68,.blk b1 [u1.val,u3.val,iV Ab.Table.Relay,iV Ab.Table.Most,iV Ab.Final.Size,iV Ab.Final.Many,iV Ab.Final.Reserves] 75] [true,true] rfl).k8 1 3 4 5 12 13 14 22 rfl
    refine Tn (Fc h (S.tm rfl) (fun hb2 h=>?_) (fun hb2 h=>?_))
    ·refine Fr (Vm S rfl rfl fun a S=>Va S rfl rfl fun a S=>Dl (wp_ret (Dc (Gg (Dc (Dc ?_))))))
     refine Gg (Dc (Dc ?_))
     obtain rfl:=Option.some.inj h
     exact Dx S results94 rfl rfl
    ·refine wp_skip (Tn (Fr (Vf Uz S rfl rfl fun a S=>Vl isAgg69 1 S rfl rfl rfl rfl fun a S=>Vm S rfl rfl ?_)));clear S;intro a S
     obtain ⟨hc1,h⟩:=Hw h
     obtain ⟨v2,hs3,hr3⟩:=AL (a:=a) (x:=.tmp 25) (y':=.tmp 26) (ty:=69) Ux hs1 (S.tm rfl) (S.tm rfl) hc1
     refine lv S (hr3 _) rfl ?_;clear S;intro a S
     clear hr3
     refine lv S (Ok (us:=#[]) (xs:=[].toArray) (ys:=[.tmp 4].toArray) (by simp) (evA ⟨(S.tm rfl),trivial⟩ (vs:=[.pointer (some ⟨b3,0,none⟩)]))) rfl fun a S=>De S (fun _=>Cy (vs:=[v2,.func (.func 108) #[] #[.pointer (some ⟨b3,0,none⟩)]]) ⟨(S.tm rfl),(S.tm rfl),trivial⟩ call107) (Mb _ v2 (cut Ab.Races 0 (i1 : Int)) (hs3.mono (S.le_arg Dj)) b3 y1 (S.blk_view (i:=0) rfl ((Gs (e':=.blk b3 (Ed.enc y1) 68)) _ rfl)) _ rfl) rfl ?_;clear S;intro v3 a w7 hv2 hk5 hn2 S
     subst hv2
     refine Dl (Fc h (S.tm rfl) (fun hb3 h=>?_) (fun hb3 h=>?_))
     ·refine Fr (Vk S rfl rfl fun a S=>Ld ?_)
      replace S:=S.n0.k1 2 rfl
      refine Tn (wp_ret (Gg (Dc (Dc (Gg (Dc (Dc ?_)))))))
      obtain rfl:=Option.some.inj h
      exact Dx S results94 rfl rfl
     ·refine wp_skip (Ia (Tn (Fg (Vq S Ge rfl rfl rfl fun a S=>Vm S rfl rfl fun a S=>Ld ?_))))
      replace S:=S.d0.k4 1 12 13 14 rfl
      exact Tn (⟨ys1,⟨i1 + 1,⟨_,(hd1).trans (List.append_cons _ _ _),by simp [hi1]⟩,h,S.nf [true] rfl ⟨rfl,rfl,rfl,(congrArg (fun z=>some (Value.int .i64 z)) (Hz hd1 hi1 (Iz hs1))),trivial⟩⟩,Nat.lt_succ_self _⟩)
  clear S h;rintro a w3 ⟨h,S⟩;rw [hj1] at h;clear hj1 j1
  refine Tn (Fs (Fr (Vf fa_75_1 S rfl rfl fun a S=>lv S (Ev isAgg71 sizeOf71 (off:=0) (o:=1) (part:=[u3.val,iV Ab.Table.Relay,iV Ab.Table.Most]) rfl rfl (S.tm rfl) (S.cellsAt (i:=0) rfl)) rfl ?_)));clear S;intro a S
  obtain ⟨r2,hr4,h⟩:=El h
  refine De S (fun _=>Cy (vs:=[.agg (R71.enc (R71.mk u3 Ab.Table.Relay Ab.Table.Most)).toArray]) ⟨(S.tm rfl),trivial⟩ call109) (Tf _ Ab.Table (R71.mk u3 Ab.Table.Relay Ab.Table.Most) ⟨u3,rfl,(hs2.mono (S.le_arg Dj))⟩ _ hr4) rfl ?_;clear S;intro v4 a w8 hv3 hk6 hn3 S
  subst hv3
  refine Va S rfl rfl fun a S=>Dz (Vm S rfl rfl fun a S=>Vq S Io rfl rfl rfl fun a S=>Dl (Fc h (S.tm rfl) (fun hb4 h=>?_) (fun hb4 h=>?_)))
  ·refine Fr (Vm S rfl rfl fun a S=>Va S rfl rfl fun a S=>Dl (wp_ret (Dc ?_)))
   obtain rfl:=Option.some.inj h
   exact Dx S results94 rfl rfl
  ·refine wp_skip (Tn (Fr (Vf fa_75_2 S rfl rfl fun a S=>lv S (Ev isAgg73 sizeOf73 (off:=0) (o:=4) (part:=(Lq.enc Ab.Final)) rfl rfl (S.tm rfl) (S.cellsAt (i:=0) rfl)) rfl fun a S=>De S (fun _=>Cy (vs:=[.agg (Lq.enc Ab.Final).toArray]) ⟨(S.tm rfl),trivial⟩ call110) (Uk _ Ab.Final _ rfl) rfl ?_)));clear S;intro v5 a w9 hv4 hk7 hn4 S
   subst hv4
   refine Va S rfl rfl fun a S=>Dl (wp_ret ?_)
   obtain rfl:=Option.some.inj h
   exact Dx S results94 rfl rfl
theorem Wm (w : World) (ψ : View) (hψ : View.le ψ (view w [])) (Ab : Lt) (Br : R75) (By : Pk ψ Ab Br) (Aa : Value) (Ae : List An) (Ad : Slc ψ 11 Aa (Ae.map An.enc)) (Au : Int) (r : (Option Ib)) (h : Oz Ab Ae Au = some r) :
    Calls prog 95 [.agg (R75.enc Br).toArray,Aa,iV Au].toArray w (Ret w [] fun τ v _=>Rp (join ψ τ) 135 Uw.enc Si v r):=by
 obtain ⟨u1,u2,rfl,hs1,⟨u3,rfl,hs2⟩⟩:=By
 refine Fe func95 rfl ntmps95 rfl fun a S=>?_
 unfold Oz at h
 replace S:=S.k3 0 1 2 rfl
 refine Fr (Kw S (S.tm rfl) (cs:=[u1.val,u3.val,iV Ab.Table.Relay,iV Ab.Table.Most,iV Ab.Final.Size,iV Ab.Final.Many,iV Ab.Final.Reserves]) rfl rfl ?_);clear S;intro a w1 b1 hz1 hk1 S
 refine Vk S rfl rfl fun a S=>Dz (lv S (Ev isAgg75 sizeOf75 (off:=0) (o:=0) (part:=[u1.val,u3.val,iV Ab.Table.Relay,iV Ab.Table.Most,iV Ab.Final.Size,iV Ab.Final.Many,iV Ab.Final.Reserves]) rfl rfl (S.tm rfl) (S.cellsAt (i:=0) rfl)) rfl ?_);clear S;intro a S
 refine lv S (Nw bt_135 (pv:=[(0,.agg #[u1.val,u3.val,iV Ab.Table.Relay,iV Ab.Table.Most,iV Ab.Final.Size,iV Ab.Final.Many,iV Ab.Final.Reserves])]) ⟨rfl,(S.tm rfl),trivial⟩ (cs:=[u1.val,u3.val,iV Ab.Table.Relay,iV Ab.Table.Most,iV Ab.Final.Size,iV Ab.Final.Many,iV Ab.Final.Reserves,.slice none 0 0]) (by obtain ⟨_,_,hv⟩:=(Fb hs1);rw [hv];clear hv;obtain ⟨_,_,hv⟩:=(Fb hs2);rw [hv];clear hv;kernel_rfl)) rfl ?_;clear S;intro a S
 refine Kw S (S.tm rfl) (cs:=[u1.val,u3.val,iV Ab.Table.Relay,iV Ab.Table.Most,iV Ab.Final.Size,iV Ab.Final.Many,iV Ab.Final.Reserves,.slice none 0 0]) rfl rfl ?_;clear S;intro a w2 b2 hz2 hk2 S
 replace S:=S.nil 33 11
 refine Va S rfl rfl fun a S=>Dl (Fs (Fr (Vm S rfl rfl fun a S=>Vm S rfl rfl ?_)));clear S;intro a S
 obtain ⟨r1,hr1,h⟩:=El h
 have hz3:=S.keep.size
 refine De S (fun _=>Cy (vs:=[Aa,iV Au]) ⟨(S.tm rfl),(S.tm rfl),trivial⟩ call37) (Rt _ Aa Ae (Ad.mono (View.le_trans hψ (S.le_arg Dj))) Au _ hr1) rfl ?_;clear S;intro v1 a w3 hv1 hk3 hn1 S
 obtain ⟨φ1,hl1,hm1,S⟩:=S.see' hn1 hz3
 have hs3:=hv1.mono hm1
 refine lv S (Fd Kz (S.tm rfl) (Fb (Fq Iu hs3))) rfl fun a S=>lv S (Rm rfl) rfl fun a S=>Dl ?_
 replace S:=(S.nl [.own (.slice none 0 0) 33 11 ([] : List An).length (([] : List An).flatMap An.enc),.blk b2 [u1.val,u3.val,iV Ab.Table.Relay,iV Ab.Table.Most,iV Ab.Final.Size,iV Ab.Final.Many,iV Ab.Final.Reserves,(.slice none 0 0)] 135] [true,true,false] rfl).k5 1 7 15 16 17 rfl
 obtain ⟨j1,hj1,h⟩:=En h
 refine Ec (fun a w'=>∃ x1 : List An,∃ v2 : Value,j1 x1 = some r ∧ Sx w [] φ1 [.own v2 33 11 x1.length (x1.flatMap An.enc),.blk b2 [u1.val,u3.val,iV Ab.Table.Relay,iV Ab.Table.Most,iV Ab.Final.Size,iV Ab.Final.Many,iV Ab.Final.Reserves,v2] 135] [(7,.pointer (some ⟨b2,0,none⟩))] 36 a w') ?_ ?_
 ·refine wp_block (Hx (fun (ys1 : List Int) a w'=>∃ i1 : Nat,∃ x1 : List An,∃ v2 : Value,(∃ dn,r1 = dn ++ ys1 ∧ dn.length = i1) ∧ Ii Ae j1 ys1 i1 x1 = some r ∧ Sx w [] φ1 [.own v2 33 11 x1.length (x1.flatMap An.enc),.blk b2 [u1.val,u3.val,iV Ab.Table.Relay,iV Ab.Table.Most,iV Ab.Final.Size,iV Ab.Final.Many,iV Ab.Final.Reserves,v2] 135] [(1,Aa),(7,.pointer (some ⟨b2,0,none⟩)),(15,v1),(16,iV (r1.length : Int)),(17,iV (i1 : Int))] 36 a w') List.length r1 ⟨0,([] : List An),(.slice none 0 0),⟨[],rfl,rfl⟩,h,S.nf [true,true] rfl (subR rfl)⟩ ?_)
  clear S h;rintro ys1 a w4 ⟨i1,x1,v2,⟨dn,hd1,hi1⟩,h,S⟩
  cases ys1 with
  | nil =>
   rw [Ii.eq_1] at h
   refine Fr (Vb S Fa rfl rfl rfl fun a S=>Ld ?_)
   replace S:=S.k6 1 7 15 16 17 18 rfl
   exact Tn (Fs (wp_cond_false ((S.tm rfl).trans (congrArg Value.bool (Jk hd1 hi1))) (wp_exit (Et (Et (Hp (Tn (⟨x1,v2,h,S.nf [true,true] rfl ⟨rfl,trivial⟩⟩))))))))
  | cons y1 ys1 =>
   rw [Ii.eq_2] at h
   refine Fr (Vb S Fa rfl rfl rfl fun a S=>Ld ?_)
   replace S:=S.k6 1 7 15 16 17 18 rfl
   refine Tn (Fs (wp_cond_true ((S.tm rfl).trans (congrArg Value.bool (Hy hd1 hi1))) (wp_skip (Tn (Fs (wp_block (Fs (Fg ?_))))))))
   obtain ⟨b3,o1,hm2,hr2⟩:=Dt (a:=a) (x:=.tmp 15) (y:=.tmp 17) (ty:=0) Kz (Fq Iu hs3) (Jp hd1 hi1) rfl (S.tm rfl) (S.tm rfl)
   refine lv S (hr2 _) rfl ?_;clear S;intro a S
   clear hr2
   refine lv S (Ep isAgg3 (off:=o1) (o:=0) (S.tm rfl) (hm2.at S.emb) rfl) rfl fun a S=>Va S rfl rfl fun a S=>Dl ?_
   obtain ⟨hc1,h⟩:=Hw h
   obtain ⟨hc2,h⟩:=Hw h
   refine Fm [13] (v2.ownBlock.toList) Tryz.mixed S rfl (by kernel_rfl) ?_;clear S;intro w9 hk7 hsel S
   refine Hc 0 S hsel rfl rfl (by kernel_rfl) (by kernel_rfl) rfl (fun _=>(Rm (S.tm rfl))) fun a S=>Hc 1 S hsel rfl rfl (by kernel_rfl) (by kernel_rfl) rfl (fun _=>(Rm (S.tm rfl))) fun a S=>Hc 2 S hsel rfl rfl (by kernel_rfl) (by kernel_rfl) rfl (fun _=>(Jj (S.tm rfl))) fun a S=>Hc 3 S hsel rfl rfl (by kernel_rfl) (by kernel_rfl) rfl (fun _=>(Em Xj (S.tm rfl))) fun a S=>Da 4 S hsel rfl (by kernel_rfl) (by kernel_rfl) (by kernel_rfl) (by kernel_rfl) rfl (fun _ hw=>(Ep isAgg26 (off:=0) (o:=7) (S.tm rfl) ((S.blk_mem (i:=1) (cells:=[u1.val,u3.val,iV Ab.Table.Relay,iV Ab.Table.Most,iV Ab.Final.Size,iV Ab.Final.Many,iV Ab.Final.Reserves,v2]) (b:=b2) (T:=135) rfl (Kd (i:=0) (j:=1) (e:=.own v2 33 11 x1.length (x1.flatMap An.enc)) (e':=.blk b2 [u1.val,u3.val,iV Ab.Table.Relay,iV Ab.Table.Most,iV Ab.Final.Size,iV Ab.Final.Many,iV Ab.Final.Reserves,v2] 135) S rfl rfl rfl)).kept hw) rfl)) fun a S=>Hc 5 S hsel rfl rfl (by kernel_rfl) (by kernel_rfl) rfl (fun _=>(Rm (S.tm rfl))) fun a S=>Hc 6 S hsel rfl rfl (by kernel_rfl) (by kernel_rfl) rfl (fun _=>(Rm (S.tm rfl))) ?_;clear S;intro a S
   obtain ⟨b6,o3,hm4,hr4⟩:=Dt (a:=a) (x:=.tmp 26) (y:=.tmp 27) (ty:=0) Es (Ad.mono (View.le_trans hψ (S.le_arg (Hq (i:=0) (e:=.own v2 33 11 x1.length (x1.flatMap An.enc)) rfl)))) (Dg hc1).1 (Dg hc1).2 (S.tm rfl) (S.tm rfl)
   refine Hc 7 S hsel rfl rfl (by kernel_rfl) (by kernel_rfl) rfl (fun _=>hr4 _) ?_;clear S;intro a S
   clear hr4
   refine Da 8 S hsel rfl (by kernel_rfl) (by kernel_rfl) (by kernel_rfl) (by kernel_rfl) rfl (fun _ hw=>(Ev isAgg33 sizeOf33 (off:=o3) (o:=0) (part:=(An.enc (nth Ae y1))) rfl rfl (S.tm rfl) (hm4.kept hw))) fun a S=>Ey 9 (by kernel_rfl) rfl (Eg S underlying26 sizeOf33 zeroValue33 rfl rfl (pv:=[(0,.agg (An.enc (nth Ae y1)).toArray)]) ⟨rfl,(S.tm rfl),trivial⟩ (cs:=[sV ((nth Ae y1).Site),iV ((nth Ae y1).No),iV ((nth Ae y1).At),iV ((nth Ae y1).Kind),sV ((nth Ae y1).Who),sV ((nth Ae y1).Club),sV ((nth Ae y1).Race),iV ((nth Ae y1).Time),iV ((nth Ae y1).Fault),sV ((nth Ae y1).Of),iV ((nth Ae y1).Other)]) (by kernel_rfl) rfl ?_);clear S;intro a w10 b7 hz5 hk8 S
   refine Ld (Fz (Keep.none hk8) (Ey 10 (by kernel_rfl) rfl ?_))
   refine Li Es An.enc_ok S (S.tm rfl) (i:=1) rfl (S.tm rfl) (j:=0) rfl (ys:=[(nth Ae y1)]) rfl rfl rfl rfl (by have:=Nh hc2;omega) rfl ?_;clear S;intro v4 a w11 hk9 S
   refine Ld (Fz hk9 (Hc 11 S hsel rfl rfl (by kernel_rfl) (by kernel_rfl) rfl (fun _=>(Jj (S.tm rfl))) fun a S=>Hc 12 S hsel rfl rfl (by kernel_rfl) (by kernel_rfl) rfl (fun _=>(Em Xj (S.tm rfl))) fun a S=>Wr 13 (v4.ownBlock.toList ++ [b2]) rfl (by kernel_rfl) rfl (Ef S (S.tm rfl) (S.tm rfl) (i:=2) (off:=7) rfl sizeOf26 (vs:=[v4]) (Jd.cells (Mr (S.own_at (i:=1) rfl))) rfl rfl (all1 (Jd.one (Mr (S.own_at (i:=1) rfl))) rfl) ?_)));clear S;intro w12 hk10 S
   refine Ld (Ws (So (by kernel_rfl) ?_))
   clear hsel
   replace S:=(S.nl [.own v4 33 11 (x1 ++ [(nth Ae y1)]).length ((x1 ++ [(nth Ae y1)]).flatMap An.enc),.blk b2 [u1.val,u3.val,iV Ab.Table.Relay,iV Ab.Table.Most,iV Ab.Final.Size,iV Ab.Final.Many,iV Ab.Final.Reserves,v4] 135] [false,true,true] rfl).k5 1 7 15 16 17 rfl
   exact Ia (Tn (Fg (Vq S Ge rfl rfl rfl fun a S=>Vm S rfl rfl fun a S=>Dl (⟨ys1,⟨i1 + 1,(x1 ++ [(nth Ae y1)]),v4,⟨_,(hd1).trans (List.append_cons _ _ _),by simp [hi1]⟩,h,S.nf [true,true] rfl ⟨rfl,rfl,rfl,rfl,(congrArg (fun z=>some (Value.int .i64 z)) (Hz hd1 hi1 (Iz (Fq Iu hs3)))),trivial⟩⟩,Nat.lt_succ_self _⟩))))
 clear S h;rintro a w5 ⟨x1,v2,h,S⟩;rw [hj1] at h;clear hj1 j1
 refine Tn (Fr (Vm S rfl rfl fun a S=>Va S rfl rfl fun a S=>Dl (wp_ret ?_)))
 obtain ⟨φ2,hl2,hs4,S⟩:=S.freezeT (xs:=x1) (enc:=An.enc) (i:=0) rfl (fun _ h=>by cases h)
 replace S:=S.nk [.blk b2 [u1.val,u3.val,iV Ab.Table.Relay,iV Ab.Table.Most,iV Ab.Final.Size,iV Ab.Final.Many,iV Ab.Final.Reserves,v2] 135] [(6,.pointer (some ⟨b2,0,none⟩)),(7,.pointer (some ⟨b2,0,none⟩)),(35,.pointer (some ⟨b2,0,none⟩))] [] rfl (subR rfl)
 obtain ⟨φ3,hl3,hb1,S⟩:=S.freezeB (i:=0) rfl (by simp)
 replace S:=S.nk [] [(6,.pointer (some ⟨b2,0,none⟩)),(7,.pointer (some ⟨b2,0,none⟩)),(35,.pointer (some ⟨b2,0,none⟩))] [] rfl (subR rfl)
 obtain rfl:=Option.some.inj h
 exact Dx S results95 rfl (Rp.mk (Uw.mk (R75.mk u1 (R71.mk u3 Ab.Table.Relay Ab.Table.Most) Ab.Final) ⟨v2,Jd.one (Fb (Fq An.enc_ok hs4))⟩) (Mu (Tq hψ S.le_newer) _ _ ⟨(R75.mk u1 (R71.mk u3 Ab.Table.Relay Ab.Table.Most) Ab.Final),⟨v2,Jd.one (Fb (Fq An.enc_ok hs4))⟩,rfl,⟨u1,(R71.mk u3 Ab.Table.Relay Ab.Table.Most),rfl,(hs1.mono (le_join_left _ _)),⟨u3,rfl,(hs2.mono (le_join_left _ _))⟩⟩,((Fq An.enc_ok hs4).mono (View.le_trans hl3 (S.all_right hψ)))⟩) ((Tq hψ S.le_newer) _ _ ((S.all_right hψ) _ _ hb1)))
set_option maxRecDepth 20000 in
theorem Zz (w : World) (ψ : View) (hψ : View.le ψ (view w [])) (Ab : Lt) (Br : R75) (By : Pk ψ Ab Br) (Aa : Value) (Ae : List An) (Ad : Slc ψ 11 Aa (Ae.map An.enc)) (Cn : Value) (Au : List Int) (Cj : Slc ψ 1 Cn (Au.map eInt)) (r : (Option Ib) × Int) (h : Tr Ab Ae Au = some r) :
    Calls prog 76 [.agg (R75.enc Br).toArray,Aa,Cn].toArray w (Ret w [] fun τ v _=>∃ u1 : Value,v = .tuple #[u1,iV r.2] ∧ Rp (join ψ τ) 135 Uw.enc Si u1 r.1):=by
 obtain ⟨u1,u2,rfl,hs1,⟨u3,rfl,hs2⟩⟩:=By
 refine Fe func76 rfl ntmps76 rfl fun a S=>?_
 unfold Tr at h
 replace S:=S.k3 0 1 2 rfl
 refine Fr (Kw S (S.tm rfl) (cs:=[u1.val,u3.val,iV Ab.Table.Relay,iV Ab.Table.Most,iV Ab.Final.Size,iV Ab.Final.Many,iV Ab.Final.Reserves]) rfl rfl ?_);clear S;intro a w1 b1 hz1 hk1 S
 refine Vk S rfl rfl fun a S=>Vk S rfl rfl fun a S=>Dl (Fs (Fr (lv S (Ev isAgg75 sizeOf75 (off:=0) (o:=0) (part:=[u1.val,u3.val,iV Ab.Table.Relay,iV Ab.Table.Most,iV Ab.Final.Size,iV Ab.Final.Many,iV Ab.Final.Reserves]) rfl rfl (S.tm rfl) (S.cellsAt (i:=0) rfl)) rfl ?_)));clear S;intro a S
 obtain ⟨r1,hr1,h⟩:=El h
 refine De S (fun _=>Cy (vs:=[.agg (R75.enc (R75.mk u1 (R71.mk u3 Ab.Table.Relay Ab.Table.Most) Ab.Final)).toArray]) ⟨(S.tm rfl),trivial⟩ call94) (Vc _ Ab (R75.mk u1 (R71.mk u3 Ab.Table.Relay Ab.Table.Most) Ab.Final) ⟨u1,(R71.mk u3 Ab.Table.Relay Ab.Table.Most),rfl,(hs1.mono (View.le_trans hψ (S.le_arg Dj))),⟨u3,rfl,(hs2.mono (View.le_trans hψ (S.le_arg Dj)))⟩⟩ _ hr1) rfl ?_;clear S;intro v1 a w2 hv1 hk2 hn1 S
 subst hv1
 refine Va S rfl rfl fun a S=>Dz (Vm S rfl rfl fun a S=>Vq S Io rfl rfl rfl fun a S=>Dl (Fc h (S.tm rfl) (fun hb1 h=>?_) (fun hb1 h=>?_)))
 ·refine Fr (Vm S rfl rfl fun a S=>Vk S rfl rfl fun a S=>Va S rfl rfl fun a S=>Dl (wp_ret (Dc ?_)))
  obtain rfl:=Option.some.inj h
  exact Ki S results76 rfl rfl ⟨_,rfl,rfl⟩
 ·refine wp_skip (Tn (Fs (Fr (Vm S rfl rfl ?_))));clear S;intro a S
  obtain ⟨r2,hr2,h⟩:=El h
  refine De S (fun _=>Cy (vs:=[Aa]) ⟨(S.tm rfl),trivial⟩ call17) (Kp _ Aa Ae (Ad.mono (View.le_trans hψ (S.le_arg Dj))) _ hr2) rfl ?_;clear S;intro v2 a w3 hv2 hk3 hn2 S
  subst hv2
  refine Va S rfl rfl fun a S=>Dz (Vm S rfl rfl fun a S=>Vq S Io rfl rfl rfl fun a S=>Ld ?_)
  replace S:=(S.nl [.blk b1 [u1.val,u3.val,iV Ab.Table.Relay,iV Ab.Table.Most,iV Ab.Final.Size,iV Ab.Final.Many,iV Ab.Final.Reserves] 75] [true] rfl).k5 1 2 3 9 20 rfl
  refine Tn (Fc h (S.tm rfl) (fun hb2 h=>?_) (fun hb2 h=>?_))
  ·refine Fr (Vm S rfl rfl fun a S=>Vk S rfl rfl fun a S=>Va S rfl rfl fun a S=>Dl (wp_ret (Dc ?_)))
   obtain rfl:=Option.some.inj h
   exact Ki S results76 rfl rfl ⟨_,rfl,rfl⟩
  ·refine wp_skip (Tn (Fs (Fr (Vm S rfl rfl fun a S=>lv S (Fd Kz (S.tm rfl) (Fb Cj)) rfl fun a S=>lv S (Rm rfl) rfl fun a S=>Dl ?_))))
   replace S:=S.k6 1 2 3 22 23 24 rfl
   obtain ⟨j1,hj1,h⟩:=En h
   refine Ec (fun a w'=>j1 = some r ∧ Sx w [] nov [.blk b1 [u1.val,u3.val,iV Ab.Table.Relay,iV Ab.Table.Most,iV Ab.Final.Size,iV Ab.Final.Many,iV Ab.Final.Reserves] 75] [(1,Aa),(2,Cn),(3,.pointer (some ⟨b1,0,none⟩))] 41 a w') ?_ ?_
   ·refine wp_block (Hx (fun (ys1 : List Int) a w'=>∃ i1 : Nat,(∃ dn,Au = dn ++ ys1 ∧ dn.length = i1) ∧ Ku j1 ys1 i1 = some r ∧ Sx w [] nov [.blk b1 [u1.val,u3.val,iV Ab.Table.Relay,iV Ab.Table.Most,iV Ab.Final.Size,iV Ab.Final.Many,iV Ab.Final.Reserves] 75] [(1,Aa),(2,Cn),(3,.pointer (some ⟨b1,0,none⟩)),(22,Cn),(23,iV (Au.length : Int)),(24,iV (i1 : Int))] 41 a w') List.length Au ⟨0,⟨[],rfl,rfl⟩,h,S.nf [true] rfl (subR rfl)⟩ ?_)
    clear S h;rintro ys1 a w4 ⟨i1,⟨dn,hd1,hi1⟩,h,S⟩
    cases ys1 with
    | nil =>
     rw [Ku.eq_1] at h
     refine Fr (Vb S Fa rfl rfl rfl fun a S=>Ld ?_)
     replace S:=S.k7 1 2 3 22 23 24 25 rfl
     exact Tn (Fs (wp_cond_false ((S.tm rfl).trans (congrArg Value.bool (Jk hd1 hi1))) (wp_exit (Et (Et (Hp (Tn (⟨h,S.nf [true] rfl (subR rfl)⟩))))))))
    | cons y1 ys1 =>
     rw [Ku.eq_2] at h
     refine Fr (Vb S Fa rfl rfl rfl fun a S=>Ld ?_)
     replace S:=S.k7 1 2 3 22 23 24 25 rfl
     refine Tn (Fs (wp_cond_true ((S.tm rfl).trans (congrArg Value.bool (Hy hd1 hi1))) (wp_skip (Tn (Fs (wp_block (Fs (Fg ?_))))))))
     obtain ⟨b2,o1,hm1,hr3⟩:=Dt (a:=a) (x:=.tmp 22) (y:=.tmp 24) (ty:=0) Kz Cj (Jp hd1 hi1) rfl (S.tm rfl) (S.tm rfl)
     refine lv S (hr3 _) rfl ?_;clear S;intro a S
     clear hr3
     refine lv S (Ep isAgg3 (off:=o1) (o:=0) (S.tm rfl) (hm1.at (emb_le hψ S.emb0)) rfl) rfl fun a S=>Va S rfl rfl fun a S=>Dz (Vm S rfl rfl fun a S=>De S (fun _=>Cy (vs:=[iV y1]) ⟨(S.tm rfl),trivial⟩ call36) (Pd _ y1 _ rfl) rfl ?_);clear S;intro v3 a w6 hv3 hk4 hn3 S
     subst hv3
     refine Vu S Hl rfl rfl fun a S=>Dl (Fc h (S.tm rfl) (fun hb3 h=>?_) (fun hb3 h=>?_))
     ·refine Fr (Vk S rfl rfl fun a S=>Vk S rfl rfl fun a S=>Ld ?_)
      replace S:=S.n0.k2 6 7 rfl
      refine Tn (wp_ret (Gg (Dc (Dc (Gg (Dc (Dc ?_)))))))
      obtain rfl:=Option.some.inj h
      exact Ki S results76 rfl rfl ⟨_,rfl,rfl⟩
     ·exact wp_skip (Ia (Tn (Fg (Vq S Ge rfl rfl rfl fun a S=>Vm S rfl rfl fun a S=>Dl (⟨ys1,⟨i1 + 1,⟨_,(hd1).trans (List.append_cons _ _ _),by simp [hi1]⟩,h,S.nf [true] rfl ⟨rfl,rfl,rfl,rfl,rfl,(congrArg (fun z=>some (Value.int .i64 z)) (Hz hd1 hi1 (Iz Cj))),trivial⟩⟩,Nat.lt_succ_self _⟩)))))
   clear S h;rintro a w5 ⟨h,S⟩;rw [hj1] at h;clear hj1 j1
   refine Tn (Fs ?_)
   obtain ⟨hc1,h⟩:=Hw h
   obtain ⟨r3,hr5,h⟩:=El h
   refine Fm [] ([]) Tryz.mixed S rfl (by kernel_rfl) ?_;clear S;intro w8 hk6 hsel S
   refine Da 0 S hsel rfl rfl rfl (by kernel_rfl) (by kernel_rfl) rfl (fun _ hw=>(Ev isAgg75 sizeOf75 (off:=0) (o:=0) (part:=[u1.val,u3.val,iV Ab.Table.Relay,iV Ab.Table.Most,iV Ab.Final.Size,iV Ab.Final.Many,iV Ab.Final.Reserves]) rfl rfl (S.tm rfl) ((S.blk_mem (i:=0) (cells:=[u1.val,u3.val,iV Ab.Table.Relay,iV Ab.Table.Most,iV Ab.Final.Size,iV Ab.Final.Many,iV Ab.Final.Reserves]) (b:=b1) (T:=75) rfl (Gs (e':=.blk b1 [u1.val,u3.val,iV Ab.Table.Relay,iV Ab.Table.Most,iV Ab.Final.Size,iV Ab.Final.Many,iV Ab.Final.Reserves] 75))).kept hw))) fun a S=>Da 1 S hsel rfl rfl rfl (by kernel_rfl) (by kernel_rfl) rfl (fun _ hw=>(Rm (S.tm rfl))) fun a S=>Da 2 S hsel rfl rfl rfl (by kernel_rfl) (by kernel_rfl) rfl (fun _ hw=>(Rm (S.tm rfl))) fun a S=>Da 3 S hsel rfl rfl rfl (by kernel_rfl) (by kernel_rfl) rfl (fun _ hw=>(Rm (S.tm rfl))) fun a S=>Da 4 S hsel rfl rfl rfl (by kernel_rfl) (by kernel_rfl) rfl (fun _ hw=>(Fd Kz (S.tm rfl) (Fb Cj))) fun a S=>Da 5 S hsel rfl rfl rfl (by kernel_rfl) (by kernel_rfl) rfl (fun _ hw=>(Kh (S.tm rfl) rfl)) ?_;clear S;intro a S
   obtain ⟨b4,o3,hm4,hr6⟩:=Dt (a:=a) (x:=.tmp 34) (y:=.tmp 37) (ty:=0) Kz (Cj.mono (View.le_trans hψ (S.le_arg Dj))) (Dg hc1).1 (Dg hc1).2 (S.tm rfl) (S.tm rfl)
   refine Da 6 S hsel rfl rfl rfl (by kernel_rfl) (by kernel_rfl) rfl (fun _ hw=>hr6 _) ?_;clear S;intro a S
   clear hr6
   refine Da 7 S hsel rfl rfl rfl (by kernel_rfl) (by kernel_rfl) rfl (fun _ hw=>(Ep isAgg3 (off:=o3) (o:=0) (S.tm rfl) (hm4.kept hw) rfl)) fun a S=>Ey 8 (by kernel_rfl) rfl ?_
   have hz3:=S.keep.size
   refine De S (fun _=>Cy (vs:=[.agg (R75.enc (R75.mk u1 (R71.mk u3 Ab.Table.Relay Ab.Table.Most) Ab.Final)).toArray,Aa,iV (nth Au (W ((Au.length : Int) - 1)))]) ⟨(S.tm rfl),(S.tm rfl),(S.tm rfl),trivial⟩ call95) (Wm _ (join ψ nov) (Ou (View.le_trans hψ (S.le_arg Dj)) (S.le_new Dj)) Ab (R75.mk u1 (R71.mk u3 Ab.Table.Relay Ab.Table.Most) Ab.Final) ⟨u1,(R71.mk u3 Ab.Table.Relay Ab.Table.Most),rfl,(hs1.mono (le_join_left _ _)),⟨u3,rfl,(hs2.mono (le_join_left _ _))⟩⟩ Aa Ae (Ad.mono (le_join_left _ _)) (nth Au (W ((Au.length : Int) - 1))) _ hr5) rfl ?_;clear S;intro v5 a w9 hv5 hk7 hn5 S
   obtain ⟨φ2,hl2,hm5,S⟩:=S.see' hn5 hz3
   have hq2:=Rp.mono (Mu (Ro hl2 hm5)) (Ro hl2 hm5) hv5
   refine Ld (Fz hk7 (Ip [9,10] hsel (by kernel_rfl) rfl ?_))
   clear hsel
   refine Er S rfl (Ra (S.tm rfl)) rfl fun a S=>Er S rfl (Ra rfl) rfl fun a S=>Iq ?_
   replace S:=S.n0.k2 6 7 rfl
   refine Tn (wp_ret ?_)
   obtain rfl:=Option.some.inj h
   exact Ki S results76 rfl rfl ⟨_,rfl,(Rp.mono (Mu (Tq hψ S.le_newer)) (Tq hψ S.le_newer) hq2)⟩
theorem Vy (w : World) (Ak : Ed) (Ap : Nat) (Ag : ByteArray) (Ah : (view w []) Ap = some (.cells [sV Ag].toArray 9 (0,0))) (r : Bool) (h : Rc Ak Ag = r) :
    Calls prog 97 [.agg (Ed.enc Ak).toArray,.pointer (some ⟨Ap,0,none⟩)].toArray w (Ret w [] fun _ v _=>v = bV r):=by
 refine Fe func97 rfl ntmps97 rfl fun a S=>?_
 unfold Rc at h
 replace S:=S.k2 0 1 rfl
 refine Fr (Kw S (S.tm rfl) (cs:=(Ed.enc Ak)) rfl rfl ?_);clear S;intro a w1 b1 hz1 hk1 S
 refine Vk S rfl rfl fun a S=>Dz (Vf Wv S rfl rfl fun a S=>Vl isAgg9 0 S rfl rfl rfl rfl fun a S=>lv S (Ep isAgg9 (off:=0) (o:=0) (S.tm rfl) ((Gw Ah).at S.emb0) rfl) rfl fun a S=>Vb S Pl rfl rfl rfl fun a S=>Va S rfl rfl fun a S=>Ld ?_)
 refine Tn (wp_ret ?_)
 subst h
 exact Dx S results97 rfl rfl
theorem Np (w : World) (Aq : Value) (As : List Ed) (Bh : Slc (view w []) 8 Aq (As.map Ed.enc)) (Av : Nat) (Ai : ByteArray) (Bk : (view w []) Av = some (.cells [sV Ai].toArray 9 (0,0))) (r : Int) (h : Eh As Ai = r) :
    Calls prog 96 [Aq,.func (.func 97) #[] #[.pointer (some ⟨Av,0,none⟩)]].toArray w (Ret w [] fun _ v _=>v = iV r):=by
 refine Fe func96 rfl ntmps96 rfl fun a S=>?_
 unfold Eh at h
 replace S:=S.k2 0 1 rfl
 refine Fr (Vk S rfl rfl fun a S=>Dl (Fs (Fr (Vm S rfl rfl fun a S=>lv S (Fd Ux (S.tm rfl) (Fb Bh)) rfl fun a S=>lv S (Rm rfl) rfl ?_))));clear S;intro a S
 refine Dl ?_
 replace S:=S.k4 0 1 7 8 rfl
 obtain ⟨j1,hj1,h⟩:=En h
 refine Ec (fun a w'=>j1 = r ∧ Sx w [] nov [] [] 19 a w') ?_ ?_
 ·refine wp_block (Hx (fun (ys1 : List Ed) a w'=>∃ i1 : Nat,(∃ dn,As = dn ++ ys1 ∧ dn.length = i1) ∧ Ew Ai j1 ys1 i1 = r ∧ Sx w [] nov [] [(0,Aq),(1,.func (.func 97) #[] #[.pointer (some ⟨Av,0,none⟩)]),(7,iV (As.length : Int)),(8,iV (i1 : Int))] 19 a w') List.length As ⟨0,⟨[],rfl,rfl⟩,h,S.nf [] rfl (subR rfl)⟩ ?_)
  clear S h;rintro ys1 a w1 ⟨i1,⟨dn,hd1,hi1⟩,h,S⟩
  cases ys1 with
  | nil =>
   rw [Ew.eq_1] at h
   refine Fr (Vb S Fa rfl rfl rfl fun a S=>Ld ?_)
   replace S:=S.k5 0 1 7 8 9 rfl
   exact Tn (Fs (wp_cond_false ((S.tm rfl).trans (congrArg Value.bool (Jk hd1 hi1))) (wp_exit (Et (Et (Hp (Tn (⟨h,S.nf [] rfl trivial⟩))))))))
  | cons y1 ys1 =>
   rw [Ew.eq_2] at h
   refine Fr (Vb S Fa rfl rfl rfl fun a S=>Ld ?_)
   replace S:=S.k5 0 1 7 8 9 rfl
   refine Tn (Fs (wp_cond_true ((S.tm rfl).trans (congrArg Value.bool (Hy hd1 hi1))) (wp_skip (Tn (Fs (wp_block (Fr (Vm S rfl rfl fun a S=>Va S rfl rfl ?_))))))));clear S;intro a S
   refine Dl (Fs (Fg ?_))
   iterate 3 (refine Vm S rfl rfl ?_;clear S;intro a S)
   obtain ⟨b1,o1,hm1,hr1⟩:=Dt (a:=a) (x:=.tmp 12) (y:=.tmp 13) (ty:=0) Ux Bh (Jp hd1 hi1) rfl (S.tm rfl) (S.tm rfl)
   refine lv S (hr1 _) rfl ?_;clear S;intro a S
   clear hr1
   refine lv S (Ev isAgg68 sizeOf68 (off:=o1) (o:=0) (part:=(Ed.enc y1)) rfl rfl (S.tm rfl) (hm1.at S.emb0)) rfl fun a S=>De S (fun _=>Md (cap:=[.pointer (some ⟨Av,0,none⟩)]) (S.tm rfl) (vs:=[.agg (Ed.enc y1).toArray]) ⟨(S.tm rfl),trivial⟩ call97) (Vy _ y1 Av Ai ((S.le_arg Dj) _ _ Bk) _ rfl) rfl ?_;clear S;intro v1 a w3 hv1 hk1 hn1 S
   subst hv1
   refine Dl (Fc h (S.tm rfl) (fun hb1 h=>?_) (fun hb1 h=>?_))
   ·refine Fr (Vm S rfl rfl fun a S=>Va S rfl rfl fun a S=>Ld ?_)
    replace S:=S.k1 4 rfl
    refine Tn (wp_ret (Gg (Dc (Dc (Gg (Dc (Dc ?_)))))))
    subst h
    exact Dx S results96 rfl rfl
   ·exact wp_skip (Ia (Tn (Fg (Vq S Ge rfl rfl rfl fun a S=>Vm S rfl rfl fun a S=>Dl (⟨ys1,⟨i1 + 1,⟨_,(hd1).trans (List.append_cons _ _ _),by simp [hi1]⟩,h,S.nf [] rfl ⟨rfl,rfl,rfl,(congrArg (fun z=>some (Value.int .i64 z)) (Hz hd1 hi1 (Iz Bh))),trivial⟩⟩,Nat.lt_succ_self _⟩)))))
 clear S h;rintro a w2 ⟨h,S⟩;rw [hj1] at h;clear hj1 j1
 refine Tn (Fr (Vk S rfl rfl fun a S=>Dl (wp_ret ?_)))
 subst h
 exact Dx S results96 rfl rfl
set_option maxRecDepth 20000 in
theorem Yf (w : World) (O : Int) (r : Int) (h : Ug O = some r) :
    Calls prog 71 [.int .u32 O].toArray w (Ret w [] fun _ v _=>v = iV r):=by
 refine Fe func71 rfl ntmps71 rfl fun a S=>?_
 unfold Ug at h
 replace S:=S.k1 0 rfl
 refine Fr (Vk S rfl rfl fun a S=>Dl (Fs (Fr (Vm S rfl rfl fun a S=>Vq S Nk rfl rfl rfl fun a S=>Ld ?_))))
 refine Tn ?_
 obtain ⟨j1,hj1,h⟩:=En h
 refine Ec (fun a w'=>∃ x1 : Int,∃ x2 : Int,j1 x1 x2 = some r ∧ Sx w [] nov [] [(0,.int .u32 x1),(2,iV x2)] 19 a w') ?_ ?_
 ·refine Fc h (S.tm rfl) (fun hb1 h=>?_) (fun hb1 h=>?_)
  ·refine Fr (Vm S rfl rfl fun a S=>lv S (Xb (S.tm rfl) rfl (by decide)) rfl fun a S=>Va S rfl rfl fun a S=>Dl (Fg (Vk S rfl rfl fun a S=>Dl ?_)))
   exact ⟨Pw .u32 O 16,16,h,S.nf [] rfl (subR rfl)⟩
  ·exact wp_skip (Tn (⟨O,0,h,S.nf [] rfl (subR rfl)⟩))
 clear S h;rintro a w1 ⟨x1,x2,h,S⟩;rw [hj1] at h;clear hj1 j1
 refine Tn (Fs (Fr (Vm S rfl rfl fun a S=>Vq S Nk rfl rfl rfl fun a S=>Dl ?_)))
 obtain ⟨j2,hj2,h⟩:=En h
 refine Ec (fun a w'=>∃ x3 : Int,∃ x4 : Int,j2 x3 x4 = some r ∧ Sx w [] nov [] [(0,.int .u32 x3),(2,iV x4)] 19 a w') ?_ ?_
 ·refine Fc h (S.tm rfl) (fun hb2 h=>?_) (fun hb2 h=>?_)
  ·refine Fr (Vm S rfl rfl fun a S=>lv S (Xb (S.tm rfl) rfl (by decide)) rfl fun a S=>Va S rfl rfl fun a S=>Dl (Fg (Vm S rfl rfl fun a S=>Vq S Ge rfl rfl rfl fun a S=>Va S rfl rfl ?_)));clear S;intro a S
   exact Dl (⟨Pw .u32 x1 8,W (x2 + 8),h,S.nf [] rfl (subR rfl)⟩)
  ·exact wp_skip (Tn (⟨x1,x2,h,S.nf [] rfl (subR rfl)⟩))
 clear S h;rintro a w2 ⟨x3,x4,h,S⟩;rw [hj2] at h;clear hj2 j2
 refine Tn (Fr (Vm S rfl rfl fun a S=>Vm S rfl rfl fun a S=>Vu S (Tk underlying107 underlying5) rfl rfl ?_));clear S;intro a S
 obtain ⟨hc1,h⟩:=Hw h
 refine lv S (Qi underlying9 rfl (S.tm rfl) hc1) rfl fun a S=>Vu S (Tk underlying5 underlying3) rfl rfl fun a S=>Vb S Ge rfl rfl rfl fun a S=>Va S rfl rfl fun a S=>Dl (wp_ret ?_)
 obtain rfl:=Option.some.inj h
 exact Dx S results71 rfl rfl
set_option maxRecDepth 20000 in
theorem Yg (w : World) (O : Int) (r : Int) (h : Uh O = some r) :
    Calls prog 72 [.int .u64 O].toArray w (Ret w [] fun _ v _=>v = iV r):=by
 refine Fe func72 rfl ntmps72 rfl fun a S=>?_
 unfold Uh at h
 replace S:=S.k1 0 rfl
 refine Fr (Vk S rfl rfl fun a S=>Dl (Fs (Fr (Vm S rfl rfl fun a S=>Vq S Nk rfl rfl rfl fun a S=>Ld ?_))))
 refine Tn ?_
 obtain ⟨j1,hj1,h⟩:=En h
 refine Ec (fun a w'=>∃ x1 : Int,∃ x2 : Int,j1 x1 x2 = some r ∧ Sx w [] nov [] [(0,.int .u64 x1),(2,iV x2)] 25 a w') ?_ ?_
 ·refine Fc h (S.tm rfl) (fun hb1 h=>?_) (fun hb1 h=>?_)
  ·refine Fr (Vm S rfl rfl fun a S=>lv S (Xb (S.tm rfl) rfl (by decide)) rfl fun a S=>Va S rfl rfl fun a S=>Dl (Fg (Vk S rfl rfl fun a S=>Dl ?_)))
   exact ⟨Pw .u64 O 32,32,h,S.nf [] rfl (subR rfl)⟩
  ·exact wp_skip (Tn (⟨O,0,h,S.nf [] rfl (subR rfl)⟩))
 clear S h;rintro a w1 ⟨x1,x2,h,S⟩;rw [hj1] at h;clear hj1 j1
 refine Tn (Fs (Fr (Vm S rfl rfl fun a S=>Vq S Nk rfl rfl rfl fun a S=>Dl ?_)))
 obtain ⟨j2,hj2,h⟩:=En h
 refine Ec (fun a w'=>∃ x3 : Int,∃ x4 : Int,j2 x3 x4 = some r ∧ Sx w [] nov [] [(0,.int .u64 x3),(2,iV x4)] 25 a w') ?_ ?_
 ·refine Fc h (S.tm rfl) (fun hb2 h=>?_) (fun hb2 h=>?_)
  ·refine Fr (Vm S rfl rfl fun a S=>lv S (Xb (S.tm rfl) rfl (by decide)) rfl fun a S=>Va S rfl rfl fun a S=>Dl (Fg (Vm S rfl rfl fun a S=>Vq S Ge rfl rfl rfl fun a S=>Va S rfl rfl ?_)));clear S;intro a S
   exact Dl (⟨Pw .u64 x1 16,W (x2 + 16),h,S.nf [] rfl (subR rfl)⟩)
  ·exact wp_skip (Tn (⟨x1,x2,h,S.nf [] rfl (subR rfl)⟩))
 clear S h;rintro a w2 ⟨x3,x4,h,S⟩;rw [hj2] at h;clear hj2 j2
 refine Tn (Fs (Fr (Vm S rfl rfl fun a S=>Vq S Nk rfl rfl rfl fun a S=>Dl ?_)))
 obtain ⟨j3,hj3,h⟩:=En h
 refine Ec (fun a w'=>∃ x5 : Int,∃ x6 : Int,j3 x5 x6 = some r ∧ Sx w [] nov [] [(0,.int .u64 x5),(2,iV x6)] 25 a w') ?_ ?_
 ·refine Fc h (S.tm rfl) (fun hb3 h=>?_) (fun hb3 h=>?_)
  ·refine Fr (Vm S rfl rfl fun a S=>lv S (Xb (S.tm rfl) rfl (by decide)) rfl fun a S=>Va S rfl rfl fun a S=>Dl (Fg (Vm S rfl rfl fun a S=>Vq S Ge rfl rfl rfl fun a S=>Va S rfl rfl ?_)));clear S;intro a S
   exact Dl (⟨Pw .u64 x3 8,W (x4 + 8),h,S.nf [] rfl (subR rfl)⟩)
  ·exact wp_skip (Tn (⟨x3,x4,h,S.nf [] rfl (subR rfl)⟩))
 clear S h;rintro a w3 ⟨x5,x6,h,S⟩;rw [hj3] at h;clear hj3 j3
 refine Tn (Fr (Vm S rfl rfl fun a S=>Vm S rfl rfl fun a S=>Vu S (Tk underlying109 underlying5) rfl rfl ?_));clear S;intro a S
 obtain ⟨hc1,h⟩:=Hw h
 refine lv S (Qi underlying9 rfl (S.tm rfl) hc1) rfl fun a S=>Vu S (Tk underlying5 underlying3) rfl rfl fun a S=>Vb S Ge rfl rfl rfl fun a S=>Va S rfl rfl fun a S=>Dl (wp_ret ?_)
 obtain rfl:=Option.some.inj h
 exact Dx S results72 rfl rfl
theorem AV (w : World) (O : Int) (r : Int) (h : Uu O = some r) :
    Calls prog 51 [.int .u64 O].toArray w (Ret w [] fun _ v _=>v = iV r):=by
 refine Fe func51 rfl ntmps51 rfl fun a S=>?_
 unfold Uu at h
 replace S:=S.k1 0 rfl
 refine Fr (Vk S rfl rfl fun a S=>Dl (Fs (Fc h rfl (fun hb1 h=>?_) (fun hb1 h=>?_))))
 ·refine Fr (Vm S rfl rfl fun a S=>Vu S (Tk underlying88 underlying107) rfl rfl ?_);clear S;intro a S
  obtain ⟨r1,hr1,h⟩:=El h
  refine De S (fun _=>Cy (vs:=[.int .u32 (IntKind.wrap .u32 O)]) ⟨(S.tm rfl),trivial⟩ call71) (Yf _ (IntKind.wrap .u32 O) _ hr1) rfl ?_;clear S;intro v1 a w1 hv1 hk1 hn1 S
  subst hv1
  refine Va S rfl rfl fun a S=>Dl (wp_ret (Dc ?_))
  obtain rfl:=Option.some.inj h
  exact Dx S results51 rfl rfl
 ·refine wp_skip (Tn (Fr (Vm S rfl rfl ?_)));clear S;intro a S
  obtain ⟨r2,hr2,h⟩:=El h
  refine De S (fun _=>Cy (vs:=[.int .u64 O]) ⟨(S.tm rfl),trivial⟩ call72) (Yg _ O _ hr2) rfl ?_;clear S;intro v2 a w2 hv2 hk2 hn2 S
  subst hv2
  refine Va S rfl rfl fun a S=>Dl (wp_ret ?_)
  obtain rfl:=Option.some.inj h
  exact Dx S results51 rfl rfl
theorem Ub (w : World) (Am : An) (Ao : An) (r : Int) (h : Jt Am Ao = r) :
    Calls prog 98 [.agg (An.enc Am).toArray,.agg (An.enc Ao).toArray].toArray w (Ret w [] fun _ v _=>v = iV r):=by
 refine Fe func98 rfl ntmps98 rfl fun a S=>?_
 unfold Jt at h
 replace S:=S.k2 0 1 rfl
 refine Fr (Kw S (S.tm rfl) (cs:=(An.enc Am)) rfl rfl ?_);clear S;intro a w1 b1 hz1 hk1 S
 refine Kw S (S.tm rfl) (cs:=(An.enc Ao)) rfl rfl ?_;clear S;intro a w2 b2 hz2 hk2 S
 refine Vk S rfl rfl fun a S=>Dz (Vf Lv S rfl rfl fun a S=>Vl isAgg9 1 S rfl rfl rfl rfl fun a S=>Vf Lv S rfl rfl fun a S=>Vl isAgg9 0 S rfl rfl rfl rfl fun a S=>De S (fun _=>Cy (vs:=[sV Am.Who,sV Ao.Who]) ⟨(S.tm rfl),(S.tm rfl),trivial⟩ call47) (Ko _ Am.Who Ao.Who _ rfl) rfl ?_);clear S;intro v1 a w3 hv1 hk3 hn1 S
 subst hv1
 refine Va S rfl rfl fun a S=>Dl (wp_ret ?_)
 subst h
 exact Dx S results98 rfl rfl
set_option maxRecDepth 20000 in
theorem Lf (w : World) (Z : Value) (Aw : List An) (Bt : (LEnt.own Z 33 11 Aw.length (Aw.flatMap An.enc)).holds w) (Am : Int) (Ao : Int) (r : (List An)) (h : Fi Aw Am Ao = some r) :
    Calls prog 60 [Z,iV Am,iV Ao,.func (.func 98) #[] #[]].toArray w (Ret w (Z.ownBlock.toList) fun _ v w'=>(LEnt.own Z 33 11 r.length (r.flatMap An.enc)).holds w' ∧ v = .tuple #[]):=by
 refine La (Z.ownBlock.toList) [.own Z 33 11 Aw.length (Aw.flatMap An.enc)] func60 rfl ntmps60 rfl (fun e he=>by simp only [List.mem_singleton] at he;subst he;exact Bt) (Lz _) (Nm _) fun a S=>?_
 unfold Fi at h
 replace S:=(S.nl [.own Z 33 11 Aw.length (Aw.flatMap An.enc)] [true] rfl).k4 0 1 2 3 rfl
 refine Fr (Vm S rfl rfl fun a S=>Vq S Ge rfl rfl rfl fun a S=>Va S rfl rfl fun a S=>Dl ?_)
 replace S:=S.k5 0 1 2 3 8 rfl
 obtain ⟨j1,hj1,h⟩:=En h
 refine Ec (fun a w'=>∃ x1 : List An,j1 x1 = some r ∧ Sx w (Z.ownBlock.toList) nov [.own Z 33 11 x1.length (x1.flatMap An.enc)] [] 53 a w') ?_ ?_
 ·refine wp_block (Hx (fun (m1 : Nat) a w'=>∃ x1 : List An,∃ x2 : Int,Ds Ao Am j1 m1 x1 x2 = some r ∧ Sx w (Z.ownBlock.toList) nov [.own Z 33 11 x1.length (x1.flatMap An.enc)] [(0,Z),(1,iV Am),(2,iV Ao),(3,.func (.func 98) #[] #[]),(8,iV x2)] 53 a w') id ((Ao - (W (Am + 1))).toNat + 2) ⟨Aw,W (Am + 1),h,S.nf [true] rfl (subR rfl)⟩ ?_)
  clear S h;rintro m1 a w1 ⟨x1,x2,h,S⟩
  cases m1 with
  | zero=>rw [Ds.eq_1] at h;cases h
  | succ m1 =>
   rw [Ds.eq_2] at h
   refine Fs (Fr (Vm S rfl rfl fun a S=>Vm S rfl rfl fun a S=>Vb S Fa rfl rfl rfl fun a S=>Dl (Fc h (S.tm rfl) (fun hb1 h=>?_) (fun hb1 h=>?_))))
   ·refine wp_skip (Tn (Fs (wp_block (Fr (Vm S rfl rfl fun a S=>Va S rfl rfl fun a S=>Dl ?_)))))
    replace S:=S.k6 0 1 2 3 8 9 rfl
    obtain ⟨j2,hj2,h⟩:=En h
    refine Ec (fun a w'=>∃ x3 : List An,j2 x3 = some r ∧ Sx w (Z.ownBlock.toList) nov [.own Z 33 11 x3.length (x3.flatMap An.enc)] [(0,Z),(1,iV Am),(2,iV Ao),(3,.func (.func 98) #[] #[]),(8,iV x2)] 53 a w') ?_ ?_
    ·refine wp_block (Hx (fun (m2 : Nat) a w'=>∃ x3 : List An,∃ x4 : Int,Di Am j2 m2 x3 x4 = some r ∧ Sx w (Z.ownBlock.toList) nov [.own Z 33 11 x3.length (x3.flatMap An.enc)] [(0,Z),(1,iV Am),(2,iV Ao),(3,.func (.func 98) #[] #[]),(8,iV x2),(9,iV x4)] 53 a w') id ((x2 - Am).toNat + 2) ⟨x1,x2,h,S.nf [true] rfl (subR rfl)⟩ ?_)
     clear S h;rintro m2 a w3 ⟨x3,x4,h,S⟩
     cases m2 with
     | zero=>rw [Di.eq_1] at h;cases h
     | succ m2 =>
      rw [Di.eq_2] at h
      refine Fs (Fs ?_)
      obtain ⟨j3,hj3,h⟩:=En h
      refine Ec (fun a w'=>∃ x5 : Bool,j3 x5 = some r ∧ Sx w (Z.ownBlock.toList) nov [.own Z 33 11 x3.length (x3.flatMap An.enc)] [(0,Z),(1,iV Am),(2,iV Ao),(3,.func (.func 98) #[] #[]),(8,iV x2),(9,iV x4),(34,bV x5)] 53 a w') ?_ ?_
      ·rcases Bool.eq_false_or_eq_true (decide (Am < x4)) with hb2 | hb2
       ·replace h:=Nq h hb2
        obtain ⟨hc1,h⟩:=Hw h
        obtain ⟨hc2,h⟩:=Hw h
        refine Fm [] ([]) Tryz.mixed S rfl (by kernel_rfl) ?_;clear S;intro w7 hk2 hsel S
        refine Da 0 S hsel rfl rfl rfl (by kernel_rfl) (by kernel_rfl) rfl (fun _ hw=>(Rm (S.tm rfl))) fun a S=>Da 1 S hsel rfl rfl rfl (by kernel_rfl) (by kernel_rfl) rfl (fun _ hw=>(Rm (S.tm rfl))) fun a S=>Da 2 S hsel rfl rfl rfl (by kernel_rfl) (by kernel_rfl) rfl (fun _ hw=>(Jn (S.tm rfl) (S.tm rfl))) fun a S=>Da 3 S hsel rfl rfl rfl (by kernel_rfl) (by kernel_rfl) rfl (fun _ hw=>(Rm (S.tm rfl))) fun a S=>Df 4 S hsel rfl rfl rfl rfl hb2 rfl rfl (by kernel_rfl) (by kernel_rfl) rfl (fun _ hw=>(Rm (S.tm rfl))) fun a S=>Df 5 S hsel rfl rfl rfl rfl hb2 rfl rfl (by kernel_rfl) (by kernel_rfl) rfl (fun _ hw=>(Rm (S.tm rfl))) fun a S=>Df 6 S hsel rfl rfl rfl rfl hb2 rfl rfl (by kernel_rfl) (by kernel_rfl) rfl (fun _ hw=>(Rm (S.tm rfl))) ?_;clear S;intro a S
        obtain ⟨b3,hg3,hr3⟩:=Jf (a:=a) (x:=.tmp 23) (y:=.tmp 24) (ty:=0) Es An.enc_ok S (i:=0) rfl (Dg hc1).1 (Dg hc1).2 (S.tm rfl) (S.tm rfl)
        refine Df 7 S hsel rfl rfl rfl rfl hb2 rfl rfl (by kernel_rfl) (by kernel_rfl) rfl (fun _ hw=>(hr3 _)) ?_;clear S;intro a S
        clear hr3
        refine Df 8 S hsel rfl rfl rfl rfl hb2 rfl rfl (by kernel_rfl) (by kernel_rfl) rfl (fun _ hw=>(Ev isAgg33 sizeOf33 (off:=x4.toNat * 11) (o:=0) (part:=(An.enc (nth x3 x4))) rfl rfl (S.tm rfl) ((Pm An.enc_ok S (i:=0) rfl hg3 (Dg hc1).1 (Gs (e':=.own Z 33 11 x3.length (x3.flatMap An.enc)))).kept hw))) fun a S=>Df 9 S hsel rfl rfl rfl rfl hb2 rfl rfl (by kernel_rfl) (by kernel_rfl) rfl (fun _ hw=>(Rm (S.tm rfl))) fun a S=>Df 10 S hsel rfl rfl rfl rfl hb2 rfl rfl (by kernel_rfl) (by kernel_rfl) rfl (fun _ hw=>(Rm (S.tm rfl))) fun a S=>Df 11 S hsel rfl rfl rfl rfl hb2 rfl rfl (by kernel_rfl) (by kernel_rfl) rfl (fun _ hw=>(Kh (S.tm rfl) rfl)) ?_;clear S;intro a S
        obtain ⟨b4,hg4,hr4⟩:=Jf (a:=a) (x:=.tmp 27) (y:=.tmp 29) (ty:=0) Es An.enc_ok S (i:=0) rfl (Dg hc2).1 (Dg hc2).2 (S.tm rfl) (S.tm rfl)
        refine Df 12 S hsel rfl rfl rfl rfl hb2 rfl rfl (by kernel_rfl) (by kernel_rfl) rfl (fun _ hw=>(hr4 _)) ?_;clear S;intro a S
        clear hr4
        refine Df 13 S hsel rfl rfl rfl rfl hb2 rfl rfl (by kernel_rfl) (by kernel_rfl) rfl (fun _ hw=>(Ev isAgg33 sizeOf33 (off:=((W (x4 - 1)).toNat) * 11) (o:=0) (part:=(An.enc (nth x3 (W (x4 - 1))))) rfl rfl (S.tm rfl) ((Pm An.enc_ok S (i:=0) rfl hg4 (Dg hc2).1 (Gs (e':=.own Z 33 11 x3.length (x3.flatMap An.enc)))).kept hw))) fun a S=>Ey 14 (by kernel_rfl) rfl (Db S rfl rfl rfl hb2 (De S (fun _=>Md (cap:=[]) (S.tm rfl) (vs:=[.agg (An.enc (nth x3 x4)).toArray,.agg (An.enc (nth x3 (W (x4 - 1)))).toArray]) ⟨(S.tm rfl),(S.tm rfl),trivial⟩ call98) (Ub _ (nth x3 x4) (nth x3 (W (x4 - 1))) _ rfl) rfl ?_));clear S;intro v2 a w8 hv2 hk3 hn2 S
        subst hv2
        refine Ld (Fz hk3 (Ip [15,16] hsel (by kernel_rfl) rfl ?_))
        clear hsel
        refine Gt S rfl rfl rfl rfl hb2 (Hv S (Fa (S.tm rfl) rfl) rfl fun a S=>Er S rfl (Ix hb2 (S.tm rfl) (S.tm rfl)) rfl fun a S=>Iq ?_)
        replace S:=S.nk [.own Z 33 11 x3.length (x3.flatMap An.enc)] [(0,Z),(1,iV Am),(2,iV Ao),(3,.func (.func 98) #[] #[]),(8,iV x2),(9,iV x4),(22,.func (.func 98) #[] #[]),(23,Z),(24,iV x4),(25,.pointer (some ⟨b3,x4.toNat * 11,none⟩)),(26,.agg (An.enc (nth x3 x4)).toArray),(27,Z),(28,iV x4),(29,iV (W (x4 - 1))),(30,.pointer (some ⟨b4,((W (x4 - 1)).toNat) * 11,none⟩)),(31,.agg (An.enc (nth x3 (W (x4 - 1)))).toArray),(32,iV (Jt (nth x3 x4) (nth x3 (W (x4 - 1))))),(33,bV (decide ((Jt (nth x3 x4) (nth x3 (W (x4 - 1)))) < 0))),(34,bV (decide ((Jt (nth x3 x4) (nth x3 (W (x4 - 1)))) < 0)))] [true] rfl (subR rfl)
        exact Tn (⟨decide ((Jt (nth x3 x4) (nth x3 (W (x4 - 1)))) < 0),h,S.nf [true] rfl (subR rfl)⟩)
       ·replace h:=Nr h hb2
        refine Fm [] ([]) Tryz.mixed S rfl (by kernel_rfl) ?_;clear S;intro w9 hk4 hsel S
        refine Ip [0,1,2,3,4,5,6,7,8,9,10,11,12,13,14,15,16] hsel (by kernel_rfl) rfl ?_
        clear hsel
        refine Er S rfl (Rm (S.tm rfl)) rfl fun a S=>Er S rfl (Rm (S.tm rfl)) rfl fun a S=>Er S rfl (Jn (S.tm rfl) (S.tm rfl)) rfl fun a S=>Er S rfl (Rm (S.tm rfl)) rfl ?_;clear S;intro a S
        iterate 12 (refine Oi S rfl rfl rfl rfl (Fl hb2) rfl ?_ rfl;clear S;intro a S)
        refine Er S rfl (Iy hb2 (S.tm rfl) rfl) rfl fun a S=>Iq ?_
        replace S:=S.k7 0 1 2 3 8 9 34 rfl
        exact Tn (⟨false,h,S.nf [true] rfl (subR rfl)⟩)
      clear S h;rintro a w5 ⟨x5,h,S⟩;rw [hj3] at h;clear hj3 j3
      refine Tn (Fc h (S.tm rfl) (fun hb3 h=>?_) (fun hb3 h=>?_))
      ·refine wp_skip (Tn (Fs (wp_block ?_)))
       obtain ⟨hc3,h⟩:=Hw h
       obtain ⟨hc4,h⟩:=Hw h
       obtain ⟨hc5,h⟩:=Hw h
       obtain ⟨hc6,h⟩:=Hw h
       refine Fm [15,17] ([]) Tryz.mixed S rfl (by kernel_rfl) ?_;clear S;intro w14 hk9 hsel S
       refine Hc 0 S hsel rfl rfl (by kernel_rfl) (by kernel_rfl) rfl (fun _=>(Rm (S.tm rfl))) fun a S=>Hc 1 S hsel rfl rfl (by kernel_rfl) (by kernel_rfl) rfl (fun _=>(Rm (S.tm rfl))) fun a S=>Hc 2 S hsel rfl rfl (by kernel_rfl) (by kernel_rfl) rfl (fun _=>(Rm (S.tm rfl))) fun a S=>Hc 3 S hsel rfl rfl (by kernel_rfl) (by kernel_rfl) rfl (fun _=>(Rm (S.tm rfl))) fun a S=>Hc 4 S hsel rfl rfl (by kernel_rfl) (by kernel_rfl) rfl (fun _=>(Kh (S.tm rfl) rfl)) fun a S=>Hc 5 S hsel rfl rfl (by kernel_rfl) (by kernel_rfl) rfl (fun _=>(Rm (S.tm rfl))) fun a S=>Hc 6 S hsel rfl rfl (by kernel_rfl) (by kernel_rfl) rfl (fun _=>(Rm (S.tm rfl))) fun a S=>Hc 7 S hsel rfl rfl (by kernel_rfl) (by kernel_rfl) rfl (fun _=>(Kh (S.tm rfl) rfl)) ?_;clear S;intro a S
       obtain ⟨b9,hg9,hr9⟩:=Jf (a:=a) (x:=.tmp 42) (y:=.tmp 44) (ty:=0) Es An.enc_ok S (i:=0) rfl (Dg hc3).1 (Dg hc3).2 (S.tm rfl) (S.tm rfl)
       refine Hc 8 S hsel rfl rfl (by kernel_rfl) (by kernel_rfl) rfl (fun _=>(hr9 _)) ?_;clear S;intro a S
       clear hr9
       refine Da 9 S hsel rfl (by kernel_rfl) (by kernel_rfl) (by kernel_rfl) (by kernel_rfl) rfl (fun _ hw=>(Ev isAgg33 sizeOf33 (off:=((W (x4 - 1)).toNat) * 11) (o:=0) (part:=(An.enc (nth x3 (W (x4 - 1))))) rfl rfl (S.tm rfl) ((Pm An.enc_ok S (i:=0) rfl hg9 (Dg hc3).1 (Gs (e':=.own Z 33 11 x3.length (x3.flatMap An.enc)))).kept hw))) fun a S=>Hc 10 S hsel rfl rfl (by kernel_rfl) (by kernel_rfl) rfl (fun _=>(Rm (S.tm rfl))) fun a S=>Hc 11 S hsel rfl rfl (by kernel_rfl) (by kernel_rfl) rfl (fun _=>(Rm (S.tm rfl))) ?_;clear S;intro a S
       obtain ⟨b10,hg10,hr10⟩:=Jf (a:=a) (x:=.tmp 47) (y:=.tmp 48) (ty:=0) Es An.enc_ok S (i:=0) rfl (Dg hc4).1 (Dg hc4).2 (S.tm rfl) (S.tm rfl)
       refine Hc 12 S hsel rfl rfl (by kernel_rfl) (by kernel_rfl) rfl (fun _=>(hr10 _)) ?_;clear S;intro a S
       clear hr10
       refine Da 13 S hsel rfl (by kernel_rfl) (by kernel_rfl) (by kernel_rfl) (by kernel_rfl) rfl (fun _ hw=>(Ev isAgg33 sizeOf33 (off:=x4.toNat * 11) (o:=0) (part:=(An.enc (nth x3 x4))) rfl rfl (S.tm rfl) ((Pm An.enc_ok S (i:=0) rfl hg10 (Dg hc4).1 (Gs (e':=.own Z 33 11 x3.length (x3.flatMap An.enc)))).kept hw))) ?_;clear S;intro a S
       obtain ⟨b11,hg11,hr11⟩:=Jf (a:=a) (x:=.tmp 37) (y:=.tmp 38) (ty:=0) Es An.enc_ok S (i:=0) rfl (Dg hc5).1 (Dg hc5).2 (S.tm rfl) (S.tm rfl)
       refine Hc 14 S hsel rfl rfl (by kernel_rfl) (by kernel_rfl) rfl (fun _=>(hr11 _)) ?_;clear S;intro a S
       clear hr11
       refine Wr 15 (Z.ownBlock.toList) rfl (by kernel_rfl) rfl (Qj (c:=0) (j:=x4.toNat) (nth x3 (W (x4 - 1))) An.enc_ok S (S.tm rfl) (S.tm rfl) (i:=0) rfl hg11 (Dg hc5).1 sizeOf33 (vs:=[sV ((nth x3 (W (x4 - 1))).Site),iV ((nth x3 (W (x4 - 1))).No),iV ((nth x3 (W (x4 - 1))).At),iV ((nth x3 (W (x4 - 1))).Kind),sV ((nth x3 (W (x4 - 1))).Who),sV ((nth x3 (W (x4 - 1))).Club),sV ((nth x3 (W (x4 - 1))).Race),iV ((nth x3 (W (x4 - 1))).Time),iV ((nth x3 (W (x4 - 1))).Fault),sV ((nth x3 (W (x4 - 1))).Of),iV ((nth x3 (W (x4 - 1))).Other)]) rfl rfl rfl rfl rfl ?_);clear S;intro w16 hk11 S
       refine Ld (Ws ?_)
       obtain ⟨b12,hg12,hr12⟩:=Jf (a:=a) (x:=.tmp 39) (y:=.tmp 41) (ty:=0) Es An.enc_ok S (i:=0) rfl (Dg hc6).1 (Dg hc6).2 (S.tm rfl) (S.tm rfl)
       refine Da 16 S hsel rfl rfl rfl (by kernel_rfl) (by kernel_rfl) rfl (fun _ hw=>(hr12 _)) ?_;clear S;intro a S
       clear hr12
       refine Ey 17 (by kernel_rfl) rfl (Qj (c:=0) (j:=(W (x4 - 1)).toNat) (nth x3 x4) An.enc_ok S (S.tm rfl) (S.tm rfl) (i:=0) rfl hg12 (Dg hc6).1 sizeOf33 (vs:=[sV ((nth x3 x4).Site),iV ((nth x3 x4).No),iV ((nth x3 x4).At),iV ((nth x3 x4).Kind),sV ((nth x3 x4).Who),sV ((nth x3 x4).Club),sV ((nth x3 x4).Race),iV ((nth x3 x4).Time),iV ((nth x3 x4).Fault),sV ((nth x3 x4).Of),iV ((nth x3 x4).Other)]) rfl rfl rfl rfl rfl ?_);clear S;intro w18 hk13 S
       refine Ld (Fz hk13 (So (by kernel_rfl) ?_))
       clear hsel
       replace S:=(S.nl [.own Z 33 11 ((x3.set x4.toNat (nth x3 (W (x4 - 1)))).set ((W (x4 - 1)).toNat) (nth x3 x4)).length (((x3.set x4.toNat (nth x3 (W (x4 - 1)))).set ((W (x4 - 1)).toNat) (nth x3 x4)).flatMap An.enc)] [true] rfl).k6 0 1 2 3 8 9 rfl
       exact Ia (Tn (Fg (Vm S rfl rfl fun a S=>Vq S Kh rfl rfl rfl fun a S=>Va S rfl rfl fun a S=>Dl (⟨m2,⟨((x3.set x4.toNat (nth x3 (W (x4 - 1)))).set ((W (x4 - 1)).toNat) (nth x3 x4)),W (x4 - 1),h,S.nf [true] rfl ⟨rfl,rfl,rfl,rfl,rfl,rfl,trivial⟩⟩,Nat.lt_succ_self _⟩))))
      ·exact wp_exit (Et (Et (Hp (Tn (⟨x3,h,S.nf [true] rfl (subR rfl)⟩)))))
    clear S h;rintro a w4 ⟨x3,h,S⟩;rw [hj2] at h;clear hj2 j2
    exact Ia (Tn (Fg (Vm S rfl rfl fun a S=>Vq S Ge rfl rfl rfl fun a S=>Va S rfl rfl fun a S=>Dl (⟨m1,⟨x3,W (x2 + 1),h,S.nf [true] rfl ⟨rfl,rfl,rfl,rfl,rfl,trivial⟩⟩,Nat.lt_succ_self _⟩))))
   ·exact wp_exit (Et (Et (Hp (Tn (⟨x1,h,S.nf [true] rfl trivial⟩)))))
 clear S h;rintro a w2 ⟨x1,h,S⟩;rw [hj1] at h;clear hj1 j1
 obtain rfl:=Option.some.inj h
 exact Uf S results60 ⟨(S.holds _ (List.mem_of_getElem? (i:=0) rfl)),rfl⟩
theorem Ma (w : World) (Z : Value) (Aw : List An) (Bt : (LEnt.own Z 33 11 Aw.length (Aw.flatMap An.enc)).holds w) (Am : Int) (Ao : Int) (Cp : Int) (r : (List An)) (h : Gx Aw Am Ao Cp = some r) :
    Calls prog 50 [Z,iV Am,iV Ao,iV Cp,.func (.func 98) #[] #[]].toArray w (Ret w (Z.ownBlock.toList) fun _ v w'=>(LEnt.own Z 33 11 r.length (r.flatMap An.enc)).holds w' ∧ v = .tuple #[]):=by
 refine La (Z.ownBlock.toList) [.own Z 33 11 Aw.length (Aw.flatMap An.enc)] func50 rfl ntmps50 rfl (fun e he=>by simp only [List.mem_singleton] at he;subst he;exact Bt) (Lz _) (Nm _) fun a S=>?_
 unfold Gx at h
 replace S:=(S.nl [.own Z 33 11 Aw.length (Aw.flatMap An.enc)] [true] rfl).k5 0 1 2 3 4 rfl
 refine Fr (Vk S rfl rfl fun a S=>Dz (Vk S rfl rfl fun a S=>Dl ?_))
 replace S:=S.k6 0 1 2 3 4 10 rfl
 refine Ec (fun a w'=>False) ?_ ?_
 ·refine wp_block (Hx (fun (m1 : Nat) a w'=>∃ x1 : Int,∃ x2 : Int,∃ x3 : Int,∃ x4 : Bool,Ee Aw m1 x1 x2 x3 x4 = some r ∧ Sx w (Z.ownBlock.toList) nov [.own Z 33 11 Aw.length (Aw.flatMap An.enc)] [(0,Z),(1,iV x1),(2,iV x2),(3,iV x3),(4,.func (.func 98) #[] #[]),(10,bV x4)] 148 a w') id 4611686018427387904 ⟨Am,Ao,Cp,true,h,S.nf [true] rfl (subR rfl)⟩ ?_)
  clear S h;rintro m1 a w1 ⟨x1,x2,x3,x4,h,S⟩
  cases m1 with
  | zero=>rw [Ee.eq_1] at h;cases h
  | succ m1 =>
   rw [Ee.eq_2] at h
   refine wp_block (Fr (Vm S rfl rfl fun a S=>Vm S rfl rfl fun a S=>Vb S Kh rfl rfl rfl fun a S=>Va S rfl rfl fun a S=>Dl (Fs (Fs ?_))))
   refine Fg (Vm S rfl rfl fun a S=>Vq S Sa rfl rfl rfl fun a S=>Dl (Fc h (S.tm rfl) (fun hb1 h=>?_) (fun hb1 h=>?_)))
   ·refine Fs (Fg ?_)
    iterate 4 (refine Vm S rfl rfl ?_;clear S;intro a S)
    obtain ⟨r1,hr1,h⟩:=El h
    refine Nz 0 S rfl (fun _=>.own Z 33 11 r1.length (r1.flatMap An.enc)) (fun _=>Cy (vs:=[Z,iV x1,iV x2,.func (.func 98) #[] #[]]) ⟨(S.tm rfl),(S.tm rfl),(S.tm rfl),(S.tm rfl),trivial⟩ call60) (Lf _ Z Aw (S.holds _ (List.mem_of_getElem? (i:=0) rfl)) x1 x2 _ hr1) rfl (fun _ _ _ h=>⟨h.1,fun _ hc=>hc⟩) ?_;clear S;intro v1 a w3 hv1 hk1 hn1 S
    replace hv1:=hv1.2
    subst hv1
    refine Ld ?_
    replace S:=(S.nl [.own Z 33 11 r1.length (r1.flatMap An.enc)] [true] rfl).k0
    refine Tn (wp_ret (Dc (Gg (Dc (Gg (Dc ?_))))))
    obtain rfl:=Option.some.inj h
    exact Uf S results50 ⟨(S.holds _ (List.mem_of_getElem? (i:=0) rfl)),rfl⟩
   ·refine wp_skip (Tn (Fs (Fr (Vm S rfl rfl fun a S=>Vq S Hi rfl rfl rfl fun a S=>Dl (Fc h (S.tm rfl) (fun hb2 h=>?_) (fun hb2 h=>?_))))))
    ·refine Fs ?_
     cases h
    ·refine wp_skip (Tn (Fs (Fr (Vm S rfl rfl fun a S=>Vu S Hl rfl rfl fun a S=>Ld ?_))))
     replace S:=S.k1 39 rfl
     refine Tn (Fc h (S.tm rfl) (fun hb3 h=>?_) (fun hb3 h=>?_))
     ·refine Fs ?_
      cases h
     ·refine wp_skip (Tn (Fs ?_))
      cases h
 exact fun _ _ h=>h.elim
theorem Ng (w : World) (Bg : Value) (O : List An) (Ca : (LEnt.own Bg 33 11 O.length (O.flatMap An.enc)).holds w) (r : (List An)) (h : Gp O = some r) :
    Calls prog 34 [Bg,.func (.func 98) #[] #[]].toArray w (Ret w (Bg.ownBlock.toList) fun _ v w'=>(LEnt.own Bg 33 11 r.length (r.flatMap An.enc)).holds w' ∧ v = .tuple #[]):=by
 refine La (Bg.ownBlock.toList) [.own Bg 33 11 O.length (O.flatMap An.enc)] func34 rfl ntmps34 rfl (fun e he=>by simp only [List.mem_singleton] at he;subst he;exact Ca) (Lz _) (Nm _) fun a S=>?_
 unfold Gp at h
 replace S:=(S.nl [.own Bg 33 11 O.length (O.flatMap An.enc)] [true] rfl).k2 0 1 rfl
 refine Fr (Vm S rfl rfl fun a S=>lv S (Fd Es (S.tm rfl) (Mr (S.own_at (i:=0) rfl))) rfl fun a S=>Va S rfl rfl fun a S=>Dl (Fg ?_))
 iterate 3 (refine Vm S rfl rfl ?_;clear S;intro a S)
 refine Vu S (Tk underlying3 underlying88) rfl rfl ?_;clear S;intro a S
 obtain ⟨r1,hr1,h⟩:=El h
 refine De S (fun _=>Cy (vs:=[.int .u64 (IntKind.wrap .u64 (O.length : Int))]) ⟨(S.tm rfl),trivial⟩ call51) (AV _ (IntKind.wrap .u64 (O.length : Int)) _ hr1) rfl ?_;clear S;intro v1 a w1 hv1 hk1 hn1 S
 subst hv1
 refine Vm S rfl rfl ?_;clear S;intro a S
 obtain ⟨r2,hr2,h⟩:=El h
 refine Nz 0 S rfl (fun _=>.own Bg 33 11 r2.length (r2.flatMap An.enc)) (fun _=>Cy (vs:=[Bg,iV 0,iV (O.length : Int),iV r1,.func (.func 98) #[] #[]]) ⟨(S.tm rfl),rfl,(S.tm rfl),(S.tm rfl),(S.tm rfl),trivial⟩ call50) (Ma _ Bg O (S.holds _ (List.mem_of_getElem? (i:=0) rfl)) 0 (O.length : Int) r1 _ hr2) rfl (fun _ _ _ h=>⟨h.1,fun _ hc=>hc⟩) ?_;clear S;intro v2 a w2 hv2 hk2 hn2 S
 replace hv2:=hv2.2
 subst hv2
 refine Ld ?_
 obtain rfl:=Option.some.inj h
 exact Uf S results34 ⟨(S.holds _ (List.mem_of_getElem? (i:=0) rfl)),rfl⟩
theorem Rw (w : World) (U : Nat) (Ax : Lt) (Bx : R75) (Cf : Pk (view w []) Ax Bx) (Az : Value) (Bf : List An) (Bn : Slc (view w []) 11 Az (Bf.map An.enc)) (Ar : (view w []) U = some (.cells (R75.enc Bx ++ [Az]).toArray 135 (0,0))) (Bd : ByteArray) (r : (List An)) (h : Nf Ax Bf Bd = some r) :
    Calls prog 78 [.pointer (some ⟨U,0,none⟩),sV Bd].toArray w (Ret w [] fun τ v _=>Mq τ 33 11 v r.length (r.flatMap An.enc)):=by
 obtain ⟨u1,u2,rfl,hs1,⟨u3,rfl,hs2⟩⟩:=Cf
 replace Ar : (view w []) U = some (.cells [u1.val,u3.val,iV Ax.Table.Relay,iV Ax.Table.Most,iV Ax.Final.Size,iV Ax.Final.Many,iV Ax.Final.Reserves,Az].toArray 135 (0,0)):=Ar
 refine Fe func78 rfl ntmps78 rfl fun a S=>?_
 unfold Nf at h
 replace S:=S.k2 0 1 rfl
 refine Fr (Vk S rfl rfl fun a S=>Dz (BN (κ:=ByteArray) (ν:=An) S rfl Value.string (fun x=>Value.agg (An.enc x).toArray) ?_));clear S;intro a w1 b1 hz1 hk1 S
 refine Va S rfl rfl fun a S=>Dl (Fs (Fr (Vm S rfl rfl fun a S=>Vu S Jj rfl rfl fun a S=>Vf Xj S rfl rfl fun a S=>lv S (Ep isAgg26 (off:=0) (o:=7) (S.tm rfl) ((Gw Ar).at S.emb0) rfl) rfl fun a S=>lv S (Fd Es (S.tm rfl) (Fb Bn)) rfl ?_)));clear S;intro a S
 refine lv S (Rm rfl) rfl fun a S=>Dl ?_
 replace S:=(S.nl [.map b1 (Gl Value.string (fun x=>Value.agg (An.enc x).toArray) ([] : List (ByteArray × An)) ([] : List Nat)) 0] [true] rfl).k5 1 5 15 16 17 rfl
 obtain ⟨j1,hj1,h⟩:=En h
 refine Ec (fun a w'=>∃ x1 : List (ByteArray × An),∃ bs1 : List Nat,∃ ck1 : Nat,j1 x1 = some r ∧ Mo x1.length bs1 ck1 ∧ Sx w [] nov [.map b1 (Gl Value.string (fun x=>Value.agg (An.enc x).toArray) x1 bs1) ck1] [(5,.map (some b1))] 52 a w') ?_ ?_
 ·refine wp_block (Hx (fun (ys1 : List An) a w'=>∃ i1 : Nat,∃ x1 : List (ByteArray × An),∃ bs1 : List Nat,∃ ck1 : Nat,(∃ dn,Bf = dn ++ ys1 ∧ dn.length = i1) ∧ Hu Bd j1 ys1 i1 x1 = some r ∧ Mo x1.length bs1 ck1 ∧ Sx w [] nov [.map b1 (Gl Value.string (fun x=>Value.agg (An.enc x).toArray) x1 bs1) ck1] [(1,sV Bd),(5,.map (some b1)),(15,Az),(16,iV (Bf.length : Int)),(17,iV (i1 : Int))] 52 a w') List.length Bf ⟨0,([] : List (ByteArray × An)),([] : List Nat),0,⟨[],rfl,rfl⟩,h,(DU (κ:=ByteArray) (ν:=An)),S.nf [true] rfl (subR rfl)⟩ ?_)
  clear S h;rintro ys1 a w2 ⟨i1,x1,bs1,ck1,⟨dn,hd1,hi1⟩,h,hB1,S⟩
  cases ys1 with
  | nil =>
   rw [Hu.eq_1] at h
   refine Fr (Vb S Fa rfl rfl rfl fun a S=>Ld ?_)
   replace S:=S.k6 1 5 15 16 17 18 rfl
   exact Tn (Fs (wp_cond_false ((S.tm rfl).trans (congrArg Value.bool (Jk hd1 hi1))) (wp_exit (Et (Et (Hp (Tn (⟨x1,bs1,ck1,h,hB1,S.nf [true] rfl ⟨rfl,trivial⟩⟩))))))))
  | cons y1 ys1 =>
   rw [Hu.eq_2] at h
   refine Fr (Vb S Fa rfl rfl rfl fun a S=>Ld ?_)
   replace S:=S.k6 1 5 15 16 17 18 rfl
   refine Tn (Fs (wp_cond_true ((S.tm rfl).trans (congrArg Value.bool (Hy hd1 hi1))) (wp_skip (Tn (Fs ?_)))))
   obtain ⟨j2,hj2,h⟩:=En h
   refine Ec (fun a w'=>∃ x2 : List (ByteArray × An),∃ bs2 : List Nat,∃ ck2 : Nat,j2 x2 = some r ∧ Mo x2.length bs2 ck2 ∧ Sx w [] nov [.map b1 (Gl Value.string (fun x=>Value.agg (An.enc x).toArray) x2 bs2) ck2] [(1,sV Bd),(5,.map (some b1)),(15,Az),(16,iV (Bf.length : Int)),(17,iV (i1 : Int))] 52 a w') ?_ ?_
   ·refine wp_block (Fs (Fg ?_))
    obtain ⟨b2,o1,hm1,hr1⟩:=Dt (a:=a) (x:=.tmp 15) (y:=.tmp 17) (ty:=0) Es Bn (Jp hd1 hi1) rfl (S.tm rfl) (S.tm rfl)
    refine lv S (hr1 _) rfl ?_;clear S;intro a S
    clear hr1
    refine lv S (Ev isAgg33 sizeOf33 (off:=o1) (o:=0) (part:=(An.enc y1)) rfl rfl (S.tm rfl) (hm1.at S.emb0)) rfl fun a S=>It S zeroValue33 (cs:=[sV Cw,iV 0,iV 0,iV 0,sV Cw,sV Cw,sV Cw,iV 0,iV 0,sV Cw,iV 0]) rfl rfl ?_;clear S;intro a w5 b3 hz2 hk2 S
    refine Ef S (S.tm rfl) (S.tm rfl) (i:=0) (off:=0) rfl sizeOf33 (vs:=(An.enc y1)) rfl rfl rfl rfl ?_;clear S;intro w6 hk3 S
    refine Dl (Fs (Fr (Vf Nt S rfl rfl fun a S=>Vl isAgg9 0 S rfl rfl rfl rfl fun a S=>Vm S rfl rfl fun a S=>Vb S Tj rfl rfl rfl fun a S=>Dl ?_)))
    refine Fc h (S.tm rfl) (fun hb1 h=>?_) (fun hb1 h=>?_)
    ·exact wp_exit (Et (Hp (Tn (⟨x1,bs1,ck1,h,hB1,S.nf [false,true] rfl (subR rfl)⟩))))
    ·refine wp_skip (Tn (Fr (Vf Jm S rfl rfl fun a S=>Vl isAgg3 0 S rfl rfl rfl rfl fun a S=>Ld ?_)))
     replace S:=(S.nl [.blk b3 (An.enc y1) 33,.map b1 (Gl Value.string (fun x=>Value.agg (An.enc x).toArray) x1 bs1) ck1] [true,true] rfl).k7 1 5 7 15 16 17 26 rfl
     refine Tn ?_
     obtain ⟨j3,hj3,h⟩:=En h
     refine Ec (fun a w'=>∃ x3 : List (ByteArray × An),∃ bs3 : List Nat,∃ ck3 : Nat,j3 x3 = some r ∧ Mo x3.length bs3 ck3 ∧ Sx w [] nov [.blk b3 (An.enc y1) 33,.map b1 (Gl Value.string (fun x=>Value.agg (An.enc x).toArray) x3 bs3) ck3] [(1,sV Bd),(5,.map (some b1)),(15,Az),(16,iV (Bf.length : Int)),(17,iV (i1 : Int))] 52 a w') ?_ ?_
     ·refine wp_block (Fr (Vq S Hi rfl rfl rfl fun a S=>Va S rfl rfl fun a S=>Dl ?_))
      obtain ⟨j4,hj4,h⟩:=En h
      refine Ec (fun a w'=>∃ x4 : List (ByteArray × An),∃ bs4 : List Nat,∃ ck4 : Nat,j4 x4 = some r ∧ Mo x4.length bs4 ck4 ∧ Sx w [] nov [.blk b3 (An.enc y1) 33,.map b1 (Gl Value.string (fun x=>Value.agg (An.enc x).toArray) x4 bs4) ck4] [(1,sV Bd),(5,.map (some b1)),(15,Az),(16,iV (Bf.length : Int)),(17,iV (i1 : Int))] 52 a w') ?_ ?_
      ·refine Fc h (S.tm rfl) (fun hb2 h=>?_) (fun hb2 h=>?_)
       ·refine Fg (Vm S rfl rfl fun a S=>Vf Lv S rfl rfl fun a S=>Vl isAgg9 0 S rfl rfl rfl rfl fun a S=>lv S (Ev isAgg33 sizeOf33 (off:=0) (o:=0) (part:=(An.enc y1)) rfl rfl (S.tm rfl) (S.cellsAt (i:=0) rfl)) rfl fun a S=>Zr (kv:=Value.string) (vv:=(fun x=>Value.agg (An.enc x).toArray)) (m:=x1) (key:=y1.Who) (val:=y1) S (i:=1) rfl hB1 underlying137 (Rj underlying9) (S.tm rfl) (S.tm rfl) (S.tm rfl) ?_);clear S;intro w9 bs5 ck5 hB5 hk4 S
        exact Dl (⟨(Ff x1 y1.Who y1),bs5,ck5,h,hB5,S.nf [true,true] rfl (subR rfl)⟩)
       ·refine Fr (Vq S Hi rfl rfl rfl fun a S=>Va S rfl rfl fun a S=>Dl ?_)
        obtain ⟨j5,hj5,h⟩:=En h
        refine Ec (fun a w'=>∃ x5 : List (ByteArray × An),∃ bs6 : List Nat,∃ ck6 : Nat,j5 x5 = some r ∧ Mo x5.length bs6 ck6 ∧ Sx w [] nov [.blk b3 (An.enc y1) 33,.map b1 (Gl Value.string (fun x=>Value.agg (An.enc x).toArray) x5 bs6) ck6] [(1,sV Bd),(5,.map (some b1)),(15,Az),(16,iV (Bf.length : Int)),(17,iV (i1 : Int))] 52 a w') ?_ ?_
        ·refine Fc h (S.tm rfl) (fun hb3 h=>?_) (fun hb3 h=>?_)
         ·refine Fg (Vm S rfl rfl fun a S=>Vf Lv S rfl rfl fun a S=>Vl isAgg9 0 S rfl rfl rfl rfl fun a S=>DV (kv:=Value.string) (vv:=(fun x=>Value.agg (An.enc x).toArray)) (m:=x1) (key:=y1.Who) S (i:=1) rfl hB1 rfl underlying137 (Rj underlying9) (S.tm rfl) (S.tm rfl) ?_);clear S;intro w11 bs7 ck7 hB7 hk5 S
          exact Dl (⟨(Su x1 y1.Who),bs7,ck7,h,hB7,S.nf [true,true] rfl (subR rfl)⟩)
         ·exact wp_skip (Tn (⟨x1,bs1,ck1,h,hB1,S.nf [true,true] rfl (subR rfl)⟩))
        clear S h;rintro a w10 ⟨x5,bs6,ck6,h,hB6,S⟩;rw [hj5] at h;clear hj5 j5
        exact Tn (⟨x5,bs6,ck6,h,hB6,S.nf [true,true] rfl (subR rfl)⟩)
      clear S h;rintro a w8 ⟨x4,bs4,ck4,h,hB4,S⟩;rw [hj4] at h;clear hj4 j4
      exact Ia (Tn (⟨x4,bs4,ck4,h,hB4,S.nf [true,true] rfl (subR rfl)⟩))
     clear S h;rintro a w7 ⟨x3,bs3,ck3,h,hB3,S⟩;rw [hj3] at h;clear hj3 j3
     exact Ia (Tn (⟨x3,bs3,ck3,h,hB3,S.nf [false,true] rfl (subR rfl)⟩))
   clear S h;rintro a w4 ⟨x2,bs2,ck2,h,hB2,S⟩;rw [hj2] at h;clear hj2 j2
   exact Tn (Fg (Vq S Ge rfl rfl rfl fun a S=>Vm S rfl rfl fun a S=>Dl (⟨ys1,⟨i1 + 1,x2,bs2,ck2,⟨_,(hd1).trans (List.append_cons _ _ _),by simp [hi1]⟩,h,hB2,S.nf [true] rfl ⟨rfl,rfl,rfl,rfl,(congrArg (fun z=>some (Value.int .i64 z)) (Hz hd1 hi1 (Iz Bn))),trivial⟩⟩,Nat.lt_succ_self _⟩)))
 clear S h;rintro a w3 ⟨x1,bs1,ck1,h,hB1,S⟩;rw [hj1] at h;clear hj1 j1
 refine Tn (Fr (Vk S rfl rfl ?_));clear S;intro a S
 replace S:=S.nil 33 11
 refine Dl (Fs (Fr (Vm S rfl rfl fun a S=>l_range (es:=Gl Value.string (fun x=>Value.agg (An.enc x).toArray) x1 bs1) (clk:=ck1) S (S.map_at (i:=1) rfl) underlying137 (S.tm rfl) rfl ?_)));clear S;intro a w12 b4 hz3 hk6 S
 refine Dl ?_
 replace S:=(S.nl [.iter b4 b1 ck1 #[] ck1,.own (.slice none 0 0) 33 11 ([] : List An).length (([] : List An).flatMap An.enc),.map b1 (Gl Value.string (fun x=>Value.agg (An.enc x).toArray) x1 bs1) ck1] [true,true,true] rfl).k2 8 40 rfl
 obtain ⟨j6,hj6,h⟩:=En h
 replace h:=allE h
 refine Ec (fun a w'=>∃ x6 : List An,∃ v1 : Value,j6 x6 = some r ∧ Sx w [] nov [.own v1 33 11 x6.length (x6.flatMap An.enc),.map b1 (Gl Value.string (fun x=>Value.agg (An.enc x).toArray) x1 bs1) ck1] [(8,v1)] 52 a w') ?_ ?_
 ·refine wp_block (Hx (fun (q : List (ByteArray × An)) a w'=>∃ x6 : List An,∃ v1 : Value,∃ sn1 : Array Nat,Uc x1 bs1 sn1 = q ∧ (∀ p,p.Perm q → Ik j6 p x6 = some r) ∧ Sx w [] nov [.iter b4 b1 ck1 sn1 ck1,.own v1 33 11 x6.length (x6.flatMap An.enc),.map b1 (Gl Value.string (fun x=>Value.agg (An.enc x).toArray) x1 bs1) ck1] [(8,v1),(40,.pointer (some ⟨b4,0,none⟩))] 52 a w') List.length x1 ⟨([] : List An),(.slice none 0 0),#[],(leftB_0 hB1),h,S.nf [true,true,true] rfl (subR rfl)⟩ ?_)
  clear S h;rintro q a w13 ⟨x6,v1,sn1,hq,h,S⟩
  refine Fr (l_nextB (kv:=Value.string) (vv:=(fun x=>Value.agg (An.enc x).toArray)) (m:=x1) S (i:=0) rfl (S.map_at (i:=2) rfl) hB1 (S.tm rfl) rfl ?_ ?_)
  ·intro hn1;clear S;intro a S
   replace h:=EO h (hq.symm.trans hn1)
   rw [Ik.eq_1] at h
   refine Vq S He rfl rfl rfl fun a S=>Ld ?_
   replace S:=S.k3 8 40 42 rfl
   exact Tn (Fs (wp_cond_false (S.tm rfl) (wp_exit (Et (Et (Hp (Tn (⟨x6,v1,h,S.nf [false,true,true] rfl ⟨rfl,trivial⟩⟩))))))))
  ·clear S;intro y2 sn2 a w15 hp1 hl1 hk7 S
   obtain ⟨sq1,h,hn2⟩:=DO h (by rw [← hq];exact hp1) (fun _=>rfl)
   refine Vq S He rfl rfl rfl fun a S=>Ld ?_
   replace S:=(S.nl [.iter b4 b1 ck1 sn2 ck1,.own v1 33 11 x6.length (x6.flatMap An.enc),.map b1 (Gl Value.string (fun x=>Value.agg (An.enc x).toArray) x1 bs1) ck1] [true,true,true] rfl).k3 8 40 42 rfl
   refine Tn (Fs (wp_cond_true (S.tm rfl) (wp_skip (Tn (wp_block (Fr (lv S (DW (kv:=Value.string) (vv:=(fun x=>Value.agg (An.enc x).toArray)) (m:=x1) (e:=y2) (S.holds _ (List.mem_of_getElem? (i:=0) rfl)) (S.map_at (i:=2) rfl) hB1 hl1 (S.tm rfl)) rfl fun a S=>Vq S He rfl rfl rfl fun a S=>It S zeroValue33 (cs:=[sV Cw,iV 0,iV 0,iV 0,sV Cw,sV Cw,sV Cw,iV 0,iV 0,sV Cw,iV 0]) rfl rfl ?_)))))));clear S;intro a w16 b5 hz4 hk8 S
   refine Ef S (S.tm rfl) (S.tm rfl) (i:=0) (off:=0) rfl sizeOf33 (vs:=(An.enc y2.2)) rfl rfl rfl rfl ?_;clear S;intro w17 hk9 S
   refine Dl (Fg (Vm S rfl rfl fun a S=>lv S (Ev isAgg33 sizeOf33 (off:=0) (o:=0) (part:=(An.enc y2.2)) rfl rfl (S.tm rfl) (S.cellsAt (i:=0) rfl)) rfl fun a S=>Eg S underlying26 sizeOf33 zeroValue33 rfl rfl (pv:=[(0,.agg (An.enc y2.2).toArray)]) ⟨rfl,(S.tm rfl),trivial⟩ (cs:=[sV y2.2.Site,iV y2.2.No,iV y2.2.At,iV y2.2.Kind,sV y2.2.Who,sV y2.2.Club,sV y2.2.Race,iV y2.2.Time,iV y2.2.Fault,sV y2.2.Of,iV y2.2.Other]) (by kernel_rfl) rfl ?_));clear S;intro a w18 b6 hz5 hk10 S
   obtain ⟨hc1,h⟩:=Hw h
   refine Li Es An.enc_ok S (S.tm rfl) (i:=3) rfl (S.tm rfl) (j:=0) rfl (ys:=[y2.2]) rfl rfl rfl rfl (by have:=Nh hc1;omega) rfl ?_;clear S;intro v2 a w19 hk11 S
   refine Va S rfl rfl fun a S=>Ld (Ia (Tn ?_))
   obtain rfl:=Option.some.inj h
   exact ⟨Uc x1 bs1 sn2,⟨(x6 ++ [y2.2]),v2,sn2,rfl,hn2,S.nf [false,false,true,true,true] rfl (subR rfl)⟩,by have:=hp1.length_eq;rw [hq] at this;simp only [List.length_cons] at this;omega⟩
 clear S h;rintro a w14 ⟨x6,v1,h,S⟩;rw [hj6] at h;clear hj6 j6
 refine Tn (Fr (Vm S rfl rfl ?_));clear S;intro a S
 obtain ⟨r1,hr2,h⟩:=El h
 refine Nz 0 S rfl (fun _=>.own v1 33 11 r1.length (r1.flatMap An.enc)) (fun _=>Cy (vs:=[v1,.func (.func 98) #[] #[]]) ⟨(S.tm rfl),rfl,trivial⟩ call34) (Ng _ v1 x6 (S.holds _ (List.mem_of_getElem? (i:=0) rfl)) _ hr2) rfl (fun _ _ _ h=>⟨h.1,fun _ hc=>hc⟩) ?_;clear S;intro v3 a w20 hv1 hk12 hn3 S
 replace hv1:=hv1.2
 subst hv1
 refine Dz (Vm S rfl rfl fun a S=>Va S rfl rfl fun a S=>Dl (wp_ret ?_))
 obtain rfl:=Option.some.inj h
 exact Dx S results78 rfl (Oq S (i:=0) rfl rfl)
theorem Yh (w : World) (U : Nat) (Ax : Lt) (Bx : R75) (Cf : Pk (view w []) Ax Bx) (Az : Value) (Bf : List An) (Bn : Slc (view w []) 11 Az (Bf.map An.enc)) (Ar : (view w []) U = some (.cells (R75.enc Bx ++ [Az]).toArray 135 (0,0))) (Bw : ByteArray) (r : Ed × Int) (h : Sh Ax Bf Bw = some r) :
    Calls prog 77 [.pointer (some ⟨U,0,none⟩),sV Bw].toArray w (Ret w [] fun _ v _=>v = .tuple #[.agg (Ed.enc r.1).toArray,iV r.2]):=by
 obtain ⟨u1,u2,rfl,hs1,⟨u3,rfl,hs2⟩⟩:=Cf
 replace Ar : (view w []) U = some (.cells [u1.val,u3.val,iV Ax.Table.Relay,iV Ax.Table.Most,iV Ax.Final.Size,iV Ax.Final.Many,iV Ax.Final.Reserves,Az].toArray 135 (0,0)):=Ar
 refine Fe func77 rfl ntmps77 rfl fun a S=>?_
 unfold Sh at h
 replace S:=S.k2 0 1 rfl
 refine Fr (Kw S (S.tm rfl) (cs:=[sV Bw]) rfl rfl ?_);clear S;intro a w1 b1 hz1 hk1 S
 refine It S zeroValue68 (cs:=[sV Cw,iV 0,iV 0,iV 0,iV 0,iV 0,iV 0,iV 0]) rfl rfl ?_;clear S;intro a w2 b2 hz2 hk2 S
 refine Vk S rfl rfl fun a S=>Dz (Vm S rfl rfl fun a S=>Vu S Jj rfl rfl fun a S=>Vf AQ S rfl rfl fun a S=>Vf Uz S rfl rfl fun a S=>lv S (Ep isAgg69 (off:=0) (o:=0) (S.tm rfl) ((Gw Ar).at S.emb0) rfl) rfl fun a S=>lv S (Ok (us:=#[]) (xs:=[].toArray) (ys:=[.tmp 3].toArray) (by simp) (evA ⟨(S.tm rfl),trivial⟩ (vs:=[.pointer (some ⟨b1,0,none⟩)]))) rfl ?_);clear S;intro a S
 refine De S (fun _=>Cy (vs:=[u1.val,.func (.func 97) #[] #[.pointer (some ⟨b1,0,none⟩)]]) ⟨(S.tm rfl),(S.tm rfl),trivial⟩ call96) (Np _ u1.val Ax.Races (hs1.mono (S.le_arg Dj)) b1 Bw (S.blk_view (i:=1) rfl ((Gs (e':=.blk b1 [sV Bw] 9)) _ rfl)) _ rfl) rfl ?_;clear S;intro v1 a w3 hv1 hk3 hn1 S
 subst hv1
 refine Va S rfl rfl fun a S=>Dl (Fs (Fr (Vm S rfl rfl fun a S=>Vq S Fa rfl rfl rfl fun a S=>Ld ?_)))
 replace S:=(S.nl [.blk b2 (Ed.enc (Ed.mk Cw 0 0 0 0 0 0 0)) 68,.blk b1 [sV Bw] 9] [true,true] rfl).k5 0 3 4 6 15 rfl
 refine Tn (Fc h (S.tm rfl) (fun hb1 h=>?_) (fun hb1 h=>?_))
 ·refine Fr (lv S (Nw CX (pv:=[]) trivial (cs:=[sV Cw,iV 0,iV 0,iV 0,iV 0,iV 0,iV 0,iV 0]) (by kernel_rfl)) rfl fun a S=>Ef S (S.tm rfl) (S.tm rfl) (i:=0) (off:=0) rfl sizeOf68 (vs:=(Ed.enc (Ed.mk Cw 0 0 0 0 0 0 0))) rfl rfl rfl rfl ?_);clear S;intro w4 hk4 S
  refine Vk S rfl rfl fun a S=>Dl (wp_ret (Dc ?_))
  obtain rfl:=Option.some.inj h
  exact Vo S (rs:=[.cell 4 68,.tmp 5]) (vs:=[.agg (Ed.enc (Ed.mk Cw 0 0 0 0 0 0 0)).toArray,iV 8]) results77 ⟨(Ri (off:=0) S rfl isAgg68 sizeOf68 rfl (S.cellsAt (i:=0) rfl)),(Sf S rfl),trivial⟩ rfl rfl
 ·refine wp_skip (Tn (Fs (Fr (Vm S rfl rfl fun a S=>Vl isAgg9 1 S rfl rfl rfl rfl ?_))));clear S;intro a S
  obtain ⟨r1,hr1,h⟩:=El h
  have hz3:=S.keep.size
  refine De S (fun _=>Cy (vs:=[.pointer (some ⟨U,0,none⟩),sV Bw]) ⟨(S.tm rfl),(S.tm rfl),trivial⟩ call78) (Rw _ U Ax (R75.mk u1 (R71.mk u3 Ax.Table.Relay Ax.Table.Most) Ax.Final) ⟨u1,(R71.mk u3 Ax.Table.Relay Ax.Table.Most),rfl,(hs1.mono (S.le_arg Dj)),⟨u3,rfl,(hs2.mono (S.le_arg Dj))⟩⟩ Az Bf (Bn.mono (S.le_arg Dj)) ((S.le_arg Dj) _ _ Ar) Bw _ hr1) rfl ?_;clear S;intro v2 a w5 hv2 hk5 hn2 S
  obtain ⟨φ1,hl1,hm1,S⟩:=S.see' hn2 hz3
  have hs3:=hv2.mono hm1
  refine lv S (Fd Es (S.tm rfl) (Fb (Fq An.enc_ok hs3))) rfl fun a S=>Vq S Jn rfl rfl rfl fun a S=>Dl (Fc h (S.tm rfl) (fun hb2 h=>?_) (fun hb2 h=>?_))
  ·refine Fr (lv S (Nw CX (pv:=[]) trivial (cs:=[sV Cw,iV 0,iV 0,iV 0,iV 0,iV 0,iV 0,iV 0]) (by kernel_rfl)) rfl fun a S=>Ef S (S.tm rfl) (S.tm rfl) (i:=0) (off:=0) rfl sizeOf68 (vs:=(Ed.enc (Ed.mk Cw 0 0 0 0 0 0 0))) rfl rfl rfl rfl ?_);clear S;intro w6 hk6 S
   refine Vk S rfl rfl fun a S=>Dl (wp_ret (Dc ?_))
   obtain rfl:=Option.some.inj h
   exact Vo S (rs:=[.cell 4 68,.tmp 5]) (vs:=[.agg (Ed.enc (Ed.mk Cw 0 0 0 0 0 0 0)).toArray,iV 2]) results77 ⟨(Ri (off:=0) S rfl isAgg68 sizeOf68 rfl (S.cellsAt (i:=0) rfl)),(Sf S rfl),trivial⟩ rfl rfl
  ·refine wp_skip (Tn (Fr (Vm S rfl rfl fun a S=>Vu S Jj rfl rfl fun a S=>Vf AQ S rfl rfl fun a S=>Vf Uz S rfl rfl fun a S=>lv S (Ep isAgg69 (off:=0) (o:=0) (S.tm rfl) ((Gw Ar).at S.emb0) rfl) rfl fun a S=>Vm S rfl rfl ?_)));clear S;intro a S
   obtain ⟨hc1,h⟩:=Hw h
   obtain ⟨b3,o1,hm2,hr2⟩:=Dt (a:=a) (x:=.tmp 27) (y:=.tmp 28) (ty:=0) Ux hs1 (Dg hc1).1 (Dg hc1).2 (S.tm rfl) (S.tm rfl)
   refine lv S (hr2 _) rfl ?_;clear S;intro a S
   clear hr2
   refine lv S (Ev isAgg68 sizeOf68 (off:=o1) (o:=0) (part:=(Ed.enc (nth Ax.Races (Eh Ax.Races Bw)))) rfl rfl (S.tm rfl) (hm2.at S.emb0)) rfl fun a S=>Ef S (S.tm rfl) (S.tm rfl) (i:=0) (off:=0) rfl sizeOf68 (vs:=(Ed.enc (nth Ax.Races (Eh Ax.Races Bw)))) rfl rfl rfl rfl ?_;clear S;intro w7 hk7 S
   refine Vk S rfl rfl fun a S=>Ld ?_
   replace S:=(S.nl [.blk b2 (Ed.enc (nth Ax.Races (Eh Ax.Races Bw))) 68] [true,false] rfl).k2 4 5 rfl
   refine Tn (wp_ret ?_)
   obtain rfl:=Option.some.inj h
   exact Vo S (rs:=[.cell 4 68,.tmp 5]) (vs:=[.agg (Ed.enc (nth Ax.Races (Eh Ax.Races Bw))).toArray,iV 0]) results77 ⟨(Ri (off:=0) S rfl isAgg68 sizeOf68 rfl (S.cellsAt (i:=0) rfl)),(Sf S rfl),trivial⟩ rfl rfl
end Go.Proofs.YtcmlfgcnichcdaaGreatDoor
