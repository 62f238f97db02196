/- Each Go function computes its plain twin,by program. -/
import Derived.Test.YtjlcjcabljbolaaGreatDoorWk2
namespace Go.Proofs.YtjlcjcabljbolaaGreatDoor
open Go
open Go.Proofs.Tryz
theorem CH (w : World) (Al : Du) (Aq : Du) (r : Int) (h : Mx Al Aq = r) :
    Calls prog 45 [.agg (Du.enc Al).toArray,.agg (Du.enc Aq).toArray].toArray w (Ret w [] fun _ v _=>v = iV r):=by
 refine Fe func45 rfl ntmps45 rfl fun a S=>?_
 unfold Mx at h
 replace S:=S.k2 0 1 rfl
 refine Fr (My S (S.tm rfl) (cs:=(Du.enc Al)) rfl rfl ?_);clear S;intro a w1 b1 hz1 hk1 S
 refine My S (S.tm rfl) (cs:=(Du.enc Aq)) rfl rfl ?_;clear S;intro a w2 b2 hz2 hk2 S
 refine Vk S rfl rfl fun a S=>Dl (Fs (Fr (Vf Nk S rfl rfl fun a S=>Vl isAgg3 1 S rfl rfl rfl rfl fun a S=>Vq S Im rfl rfl rfl fun a S=>Vf Nk S rfl rfl fun a S=>Vl isAgg3 0 S rfl rfl rfl rfl ?_)));clear S;intro a S
 refine Vq S Im rfl rfl rfl fun a S=>lv S (OV underlying4 (S.tm rfl) (S.tm rfl)) rfl fun a S=>Dl (Fc h (S.tm rfl) (fun hb1 h=>?_) (fun hb1 h=>?_))
 ·refine Fr (Vf Nk S rfl rfl fun a S=>Vl isAgg3 0 S rfl rfl rfl rfl fun a S=>Vf Nk S rfl rfl fun a S=>Vl isAgg3 1 S rfl rfl rfl rfl fun a S=>Vb S Ja rfl rfl rfl fun a S=>Va S rfl rfl fun a S=>Ld ?_)
  replace S:=S.n0.k1 4 rfl
  refine Tn (wp_ret (Dy ?_))
  subst h
  exact Eo S results45 rfl rfl
 ·refine wp_skip (Tn (Fs (Fr (Vf Nk S rfl rfl fun a S=>Vl isAgg3 1 S rfl rfl rfl rfl fun a S=>Vf Nk S rfl rfl fun a S=>Vl isAgg3 0 S rfl rfl rfl rfl fun a S=>Vb S Ky rfl rfl rfl fun a S=>Ld ?_))))
  replace S:=(S.nl [.blk b2 (Du.enc Aq) 111,.blk b1 (Du.enc Al) 111] [true,true] rfl).k3 2 3 21 rfl
  refine Tn (Fc h (S.tm rfl) (fun hb2 h=>?_) (fun hb2 h=>?_))
  ·refine Fr (Vf Nk S rfl rfl fun a S=>Vl isAgg3 1 S rfl rfl rfl rfl fun a S=>Vf Nk S rfl rfl fun a S=>Vl isAgg3 0 S rfl rfl rfl rfl fun a S=>Vb S Ja rfl rfl rfl fun a S=>Va S rfl rfl fun a S=>Dl (wp_ret ?_))
   refine Dy ?_
   subst h
   exact Eo S results45 rfl rfl
  ·refine wp_skip (Tn (Fr (Vf Wm S rfl rfl fun a S=>Vl isAgg9 1 S rfl rfl rfl rfl fun a S=>Vf Wm S rfl rfl fun a S=>Vl isAgg9 0 S rfl rfl rfl rfl fun a S=>Ec S (fun _=>Dv (vs:=[sV Al.Who,sV Aq.Who]) ⟨(S.tm rfl),(S.tm rfl),trivial⟩ call46) (On _ Al.Who Aq.Who _ rfl) rfl ?_)));clear S;intro v1 a w3 hv1 hk3 hn1 S
   subst hv1
   refine Va S rfl rfl fun a S=>Dl (wp_ret ?_)
   subst h
   exact Eo S results45 rfl rfl
set_option maxRecDepth 20000 in
theorem Lz (w : World) (Aa : Value) (Ar : List Du) (Bj : (LEnt.own Aa 111 5 Ar.length (Ar.flatMap Du.enc)).holds w) (Al : Int) (Aq : Int) (r : (List Du)) (h : Ha Ar Al Aq = some r) :
    Calls prog 103 [Aa,iV Al,iV Aq,.func (.func 45) #[] #[]].toArray w (Ret w (Aa.ownBlock.toList) fun _ v w'=>(LEnt.own Aa 111 5 r.length (r.flatMap Du.enc)).holds w' ∧ v = .tuple #[]):=by
 refine Mo (Aa.ownBlock.toList) [.own Aa 111 5 Ar.length (Ar.flatMap Du.enc)] func103 rfl ntmps103 rfl (fun e he=>by simp only [List.mem_singleton] at he;subst he;exact Bj) (Li _) (Nb _) fun a S=>?_
 unfold Ha at h
 replace S:=(S.nl [.own Aa 111 5 Ar.length (Ar.flatMap Du.enc)] [true] rfl).k4 0 1 2 3 rfl
 refine Fr (Vm S rfl rfl fun a S=>Vq S Gf rfl rfl rfl fun a S=>Va S rfl rfl fun a S=>Dl ?_)
 replace S:=S.k5 0 1 2 3 8 rfl
 obtain ⟨j1,hj1,h⟩:=Eu h
 refine En (fun a w'=>∃ x1 : List Du,j1 x1 = some r ∧ Sx w (Aa.ownBlock.toList) nov [.own Aa 111 5 x1.length (x1.flatMap Du.enc)] [] 53 a w') ?_ ?_
 ·refine wp_block (Hb (fun (m1 : Nat) a w'=>∃ x1 : List Du,∃ x2 : Int,Ez Aq Al j1 m1 x1 x2 = some r ∧ Sx w (Aa.ownBlock.toList) nov [.own Aa 111 5 x1.length (x1.flatMap Du.enc)] [(0,Aa),(1,iV Al),(2,iV Aq),(3,.func (.func 45) #[] #[]),(8,iV x2)] 53 a w') id ((Aq - (W (Al + 1))).toNat + 2) ⟨Ar,W (Al + 1),h,S.nf [true] rfl (subR rfl)⟩ ?_)
  clear S h;rintro m1 a w1 ⟨x1,x2,h,S⟩
  cases m1 with
  | zero=>rw [Ez.eq_1] at h;cases h
  | succ m1 =>
   rw [Ez.eq_2] at h
   refine Fs (Fr (Vm S rfl rfl fun a S=>Vm S rfl rfl fun a S=>Vb S Ex rfl rfl rfl fun a S=>Dl (Fc h (S.tm rfl) (fun hb1 h=>?_) (fun hb1 h=>?_))))
   ·refine wp_skip (Tn (Fs (wp_block (Fr (Vm S rfl rfl fun a S=>Va S rfl rfl fun a S=>Dl ?_)))))
    replace S:=S.k6 0 1 2 3 8 9 rfl
    obtain ⟨j2,hj2,h⟩:=Eu h
    refine En (fun a w'=>∃ x3 : List Du,j2 x3 = some r ∧ Sx w (Aa.ownBlock.toList) nov [.own Aa 111 5 x3.length (x3.flatMap Du.enc)] [(0,Aa),(1,iV Al),(2,iV Aq),(3,.func (.func 45) #[] #[]),(8,iV x2)] 53 a w') ?_ ?_
    ·refine wp_block (Hb (fun (m2 : Nat) a w'=>∃ x3 : List Du,∃ x4 : Int,Em Al j2 m2 x3 x4 = some r ∧ Sx w (Aa.ownBlock.toList) nov [.own Aa 111 5 x3.length (x3.flatMap Du.enc)] [(0,Aa),(1,iV Al),(2,iV Aq),(3,.func (.func 45) #[] #[]),(8,iV x2),(9,iV x4)] 53 a w') id ((x2 - Al).toNat + 2) ⟨x1,x2,h,S.nf [true] rfl (subR rfl)⟩ ?_)
     clear S h;rintro m2 a w3 ⟨x3,x4,h,S⟩
     cases m2 with
     | zero=>rw [Em.eq_1] at h;cases h
     | succ m2 =>
      rw [Em.eq_2] at h
      refine Fs (Fs ?_)
      obtain ⟨j3,hj3,h⟩:=Eu h
      refine En (fun a w'=>∃ x5 : Bool,j3 x5 = some r ∧ Sx w (Aa.ownBlock.toList) nov [.own Aa 111 5 x3.length (x3.flatMap Du.enc)] [(0,Aa),(1,iV Al),(2,iV Aq),(3,.func (.func 45) #[] #[]),(8,iV x2),(9,iV x4),(34,bV x5)] 53 a w') ?_ ?_
      ·rcases Bool.eq_false_or_eq_true (decide (Al < x4)) with hb2 | hb2
       ·replace h:=Qw h hb2
        obtain ⟨hc1,h⟩:=Ia h
        obtain ⟨hc2,h⟩:=Ia h
        refine Hd [] ([]) Tryz.mixed S rfl (by kernel_rfl) ?_;clear S;intro w7 hk2 hsel S
        refine Ef 0 S hsel rfl rfl rfl (by kernel_rfl) (by kernel_rfl) rfl (fun _ hw=>(Rm (S.tm rfl))) fun a S=>Ef 1 S hsel rfl rfl rfl (by kernel_rfl) (by kernel_rfl) rfl (fun _ hw=>(Rm (S.tm rfl))) fun a S=>Ef 2 S hsel rfl rfl rfl (by kernel_rfl) (by kernel_rfl) rfl (fun _ hw=>(Jh (S.tm rfl) (S.tm rfl))) fun a S=>Ef 3 S hsel rfl rfl rfl (by kernel_rfl) (by kernel_rfl) rfl (fun _ hw=>(Rm (S.tm rfl))) fun a S=>Ev 4 S hsel rfl rfl rfl rfl hb2 rfl rfl (by kernel_rfl) (by kernel_rfl) rfl (fun _ hw=>(Rm (S.tm rfl))) fun a S=>Ev 5 S hsel rfl rfl rfl rfl hb2 rfl rfl (by kernel_rfl) (by kernel_rfl) rfl (fun _ hw=>(Rm (S.tm rfl))) fun a S=>Ev 6 S hsel rfl rfl rfl rfl hb2 rfl rfl (by kernel_rfl) (by kernel_rfl) rfl (fun _ hw=>(Rm (S.tm rfl))) ?_;clear S;intro a S
        obtain ⟨b3,hg3,hr3⟩:=Hk (a:=a) (x:=.tmp 23) (y:=.tmp 24) (ty:=0) Nj Du.enc_ok S (i:=0) rfl (Ed hc1).1 (Ed hc1).2 (S.tm rfl) (S.tm rfl)
        refine Ev 7 S hsel rfl rfl rfl rfl hb2 rfl rfl (by kernel_rfl) (by kernel_rfl) rfl (fun _ hw=>(hr3 _)) ?_;clear S;intro a S
        clear hr3
        refine Ev 8 S hsel rfl rfl rfl rfl hb2 rfl rfl (by kernel_rfl) (by kernel_rfl) rfl (fun _ hw=>(Fx isAgg111 sizeOf111 (off:=x4.toNat * 5) (o:=0) (part:=(Du.enc (nth x3 x4))) rfl rfl (S.tm rfl) ((Pc Du.enc_ok S (i:=0) rfl hg3 (Ed hc1).1 (Hr (e':=.own Aa 111 5 x3.length (x3.flatMap Du.enc)))).kept hw))) fun a S=>Ev 9 S hsel rfl rfl rfl rfl hb2 rfl rfl (by kernel_rfl) (by kernel_rfl) rfl (fun _ hw=>(Rm (S.tm rfl))) fun a S=>Ev 10 S hsel rfl rfl rfl rfl hb2 rfl rfl (by kernel_rfl) (by kernel_rfl) rfl (fun _ hw=>(Rm (S.tm rfl))) fun a S=>Ev 11 S hsel rfl rfl rfl rfl hb2 rfl rfl (by kernel_rfl) (by kernel_rfl) rfl (fun _ hw=>(Ja (S.tm rfl) rfl)) ?_;clear S;intro a S
        obtain ⟨b4,hg4,hr4⟩:=Hk (a:=a) (x:=.tmp 27) (y:=.tmp 29) (ty:=0) Nj Du.enc_ok S (i:=0) rfl (Ed hc2).1 (Ed hc2).2 (S.tm rfl) (S.tm rfl)
        refine Ev 12 S hsel rfl rfl rfl rfl hb2 rfl rfl (by kernel_rfl) (by kernel_rfl) rfl (fun _ hw=>(hr4 _)) ?_;clear S;intro a S
        clear hr4
        refine Ev 13 S hsel rfl rfl rfl rfl hb2 rfl rfl (by kernel_rfl) (by kernel_rfl) rfl (fun _ hw=>(Fx isAgg111 sizeOf111 (off:=((W (x4 - 1)).toNat) * 5) (o:=0) (part:=(Du.enc (nth x3 (W (x4 - 1))))) rfl rfl (S.tm rfl) ((Pc Du.enc_ok S (i:=0) rfl hg4 (Ed hc2).1 (Hr (e':=.own Aa 111 5 x3.length (x3.flatMap Du.enc)))).kept hw))) fun a S=>Gw 14 (by kernel_rfl) rfl (Ea S rfl rfl rfl hb2 (Ec S (fun _=>Un (cap:=[]) (S.tm rfl) (vs:=[.agg (Du.enc (nth x3 x4)).toArray,.agg (Du.enc (nth x3 (W (x4 - 1)))).toArray]) ⟨(S.tm rfl),(S.tm rfl),trivial⟩ call45) (CH _ (nth x3 x4) (nth x3 (W (x4 - 1))) _ rfl) rfl ?_));clear S;intro v2 a w8 hv2 hk3 hn2 S
        subst hv2
        refine Ld (Hx hk3 (Kz [15,16] hsel (by kernel_rfl) rfl ?_))
        clear hsel
        refine Fm S rfl rfl rfl rfl hb2 (Gv S (Ex (S.tm rfl) rfl) rfl fun a S=>Gk S rfl (Qi hb2 (S.tm rfl) (S.tm rfl)) rfl fun a S=>Ig ?_)
        replace S:=S.nk [.own Aa 111 5 x3.length (x3.flatMap Du.enc)] [(0,Aa),(1,iV Al),(2,iV Aq),(3,.func (.func 45) #[] #[]),(8,iV x2),(9,iV x4),(22,.func (.func 45) #[] #[]),(23,Aa),(24,iV x4),(25,.pointer (some ⟨b3,x4.toNat * 5,none⟩)),(26,.agg (Du.enc (nth x3 x4)).toArray),(27,Aa),(28,iV x4),(29,iV (W (x4 - 1))),(30,.pointer (some ⟨b4,((W (x4 - 1)).toNat) * 5,none⟩)),(31,.agg (Du.enc (nth x3 (W (x4 - 1)))).toArray),(32,iV (Mx (nth x3 x4) (nth x3 (W (x4 - 1))))),(33,bV (decide ((Mx (nth x3 x4) (nth x3 (W (x4 - 1)))) < 0))),(34,bV (decide ((Mx (nth x3 x4) (nth x3 (W (x4 - 1)))) < 0)))] [true] rfl (subR rfl)
        exact Tn (⟨decide ((Mx (nth x3 x4) (nth x3 (W (x4 - 1)))) < 0),h,S.nf [true] rfl (subR rfl)⟩)
       ·replace h:=Qx h hb2
        refine Hd [] ([]) Tryz.mixed S rfl (by kernel_rfl) ?_;clear S;intro w9 hk4 hsel S
        refine Kz [0,1,2,3,4,5,6,7,8,9,10,11,12,13,14,15,16] hsel (by kernel_rfl) rfl ?_
        clear hsel
        refine Gk S rfl (Rm (S.tm rfl)) rfl fun a S=>Gk S rfl (Rm (S.tm rfl)) rfl fun a S=>Gk S rfl (Jh (S.tm rfl) (S.tm rfl)) rfl fun a S=>Gk S rfl (Rm (S.tm rfl)) rfl ?_;clear S;intro a S
        iterate 12 (refine Qe S rfl rfl rfl rfl (Jq hb2) rfl ?_ rfl;clear S;intro a S)
        refine Gk S rfl (Qj hb2 (S.tm rfl) rfl) rfl fun a S=>Ig ?_
        replace S:=S.k7 0 1 2 3 8 9 34 rfl
        exact Tn (⟨false,h,S.nf [true] rfl (subR rfl)⟩)
      clear S h;rintro a w5 ⟨x5,h,S⟩;rw [hj3] at h;clear hj3 j3
      refine Tn (Fc h (S.tm rfl) (fun hb3 h=>?_) (fun hb3 h=>?_))
      ·refine wp_skip (Tn (Fs (wp_block ?_)))
       obtain ⟨hc3,h⟩:=Ia h
       obtain ⟨hc4,h⟩:=Ia h
       obtain ⟨hc5,h⟩:=Ia h
       obtain ⟨hc6,h⟩:=Ia h
       refine Hd [15,17] ([]) Tryz.mixed S rfl (by kernel_rfl) ?_;clear S;intro w14 hk9 hsel S
       refine Gu 0 S hsel rfl rfl (by kernel_rfl) (by kernel_rfl) rfl (fun _=>(Rm (S.tm rfl))) fun a S=>Gu 1 S hsel rfl rfl (by kernel_rfl) (by kernel_rfl) rfl (fun _=>(Rm (S.tm rfl))) fun a S=>Gu 2 S hsel rfl rfl (by kernel_rfl) (by kernel_rfl) rfl (fun _=>(Rm (S.tm rfl))) fun a S=>Gu 3 S hsel rfl rfl (by kernel_rfl) (by kernel_rfl) rfl (fun _=>(Rm (S.tm rfl))) fun a S=>Gu 4 S hsel rfl rfl (by kernel_rfl) (by kernel_rfl) rfl (fun _=>(Ja (S.tm rfl) rfl)) fun a S=>Gu 5 S hsel rfl rfl (by kernel_rfl) (by kernel_rfl) rfl (fun _=>(Rm (S.tm rfl))) fun a S=>Gu 6 S hsel rfl rfl (by kernel_rfl) (by kernel_rfl) rfl (fun _=>(Rm (S.tm rfl))) fun a S=>Gu 7 S hsel rfl rfl (by kernel_rfl) (by kernel_rfl) rfl (fun _=>(Ja (S.tm rfl) rfl)) ?_;clear S;intro a S
       obtain ⟨b9,hg9,hr9⟩:=Hk (a:=a) (x:=.tmp 42) (y:=.tmp 44) (ty:=0) Nj Du.enc_ok S (i:=0) rfl (Ed hc3).1 (Ed hc3).2 (S.tm rfl) (S.tm rfl)
       refine Gu 8 S hsel rfl rfl (by kernel_rfl) (by kernel_rfl) rfl (fun _=>(hr9 _)) ?_;clear S;intro a S
       clear hr9
       refine Ef 9 S hsel rfl (by kernel_rfl) (by kernel_rfl) (by kernel_rfl) (by kernel_rfl) rfl (fun _ hw=>(Fx isAgg111 sizeOf111 (off:=((W (x4 - 1)).toNat) * 5) (o:=0) (part:=(Du.enc (nth x3 (W (x4 - 1))))) rfl rfl (S.tm rfl) ((Pc Du.enc_ok S (i:=0) rfl hg9 (Ed hc3).1 (Hr (e':=.own Aa 111 5 x3.length (x3.flatMap Du.enc)))).kept hw))) fun a S=>Gu 10 S hsel rfl rfl (by kernel_rfl) (by kernel_rfl) rfl (fun _=>(Rm (S.tm rfl))) fun a S=>Gu 11 S hsel rfl rfl (by kernel_rfl) (by kernel_rfl) rfl (fun _=>(Rm (S.tm rfl))) ?_;clear S;intro a S
       obtain ⟨b10,hg10,hr10⟩:=Hk (a:=a) (x:=.tmp 47) (y:=.tmp 48) (ty:=0) Nj Du.enc_ok S (i:=0) rfl (Ed hc4).1 (Ed hc4).2 (S.tm rfl) (S.tm rfl)
       refine Gu 12 S hsel rfl rfl (by kernel_rfl) (by kernel_rfl) rfl (fun _=>(hr10 _)) ?_;clear S;intro a S
       clear hr10
       refine Ef 13 S hsel rfl (by kernel_rfl) (by kernel_rfl) (by kernel_rfl) (by kernel_rfl) rfl (fun _ hw=>(Fx isAgg111 sizeOf111 (off:=x4.toNat * 5) (o:=0) (part:=(Du.enc (nth x3 x4))) rfl rfl (S.tm rfl) ((Pc Du.enc_ok S (i:=0) rfl hg10 (Ed hc4).1 (Hr (e':=.own Aa 111 5 x3.length (x3.flatMap Du.enc)))).kept hw))) ?_;clear S;intro a S
       obtain ⟨b11,hg11,hr11⟩:=Hk (a:=a) (x:=.tmp 37) (y:=.tmp 38) (ty:=0) Nj Du.enc_ok S (i:=0) rfl (Ed hc5).1 (Ed hc5).2 (S.tm rfl) (S.tm rfl)
       refine Gu 14 S hsel rfl rfl (by kernel_rfl) (by kernel_rfl) rfl (fun _=>(hr11 _)) ?_;clear S;intro a S
       clear hr11
       refine Xz 15 (Aa.ownBlock.toList) rfl (by kernel_rfl) rfl (Pv (c:=0) (j:=x4.toNat) (nth x3 (W (x4 - 1))) Du.enc_ok S (S.tm rfl) (S.tm rfl) (i:=0) rfl hg11 (Ed hc5).1 sizeOf111 (vs:=[sV ((nth x3 (W (x4 - 1))).Race),sV ((nth x3 (W (x4 - 1))).Who),sV ((nth x3 (W (x4 - 1))).Club),iV ((nth x3 (W (x4 - 1))).Rank),bV ((nth x3 (W (x4 - 1))).Relay)]) rfl rfl rfl rfl rfl ?_);clear S;intro w16 hk11 S
       refine Ld (Ya ?_)
       obtain ⟨b12,hg12,hr12⟩:=Hk (a:=a) (x:=.tmp 39) (y:=.tmp 41) (ty:=0) Nj Du.enc_ok S (i:=0) rfl (Ed hc6).1 (Ed hc6).2 (S.tm rfl) (S.tm rfl)
       refine Ef 16 S hsel rfl rfl rfl (by kernel_rfl) (by kernel_rfl) rfl (fun _ hw=>(hr12 _)) ?_;clear S;intro a S
       clear hr12
       refine Gw 17 (by kernel_rfl) rfl (Pv (c:=0) (j:=(W (x4 - 1)).toNat) (nth x3 x4) Du.enc_ok S (S.tm rfl) (S.tm rfl) (i:=0) rfl hg12 (Ed hc6).1 sizeOf111 (vs:=[sV ((nth x3 x4).Race),sV ((nth x3 x4).Who),sV ((nth x3 x4).Club),iV ((nth x3 x4).Rank),bV ((nth x3 x4).Relay)]) rfl rfl rfl rfl rfl ?_);clear S;intro w18 hk13 S
       refine Ld (Hx hk13 (Wu (by kernel_rfl) ?_))
       clear hsel
       replace S:=(S.nl [.own Aa 111 5 ((x3.set x4.toNat (nth x3 (W (x4 - 1)))).set ((W (x4 - 1)).toNat) (nth x3 x4)).length (((x3.set x4.toNat (nth x3 (W (x4 - 1)))).set ((W (x4 - 1)).toNat) (nth x3 x4)).flatMap Du.enc)] [true] rfl).k6 0 1 2 3 8 9 rfl
       exact Ho (Tn (Fg (Vm S rfl rfl fun a S=>Vq S Ja rfl rfl rfl fun a S=>Va S rfl rfl fun a S=>Dl (⟨m2,⟨((x3.set x4.toNat (nth x3 (W (x4 - 1)))).set ((W (x4 - 1)).toNat) (nth x3 x4)),W (x4 - 1),h,S.nf [true] rfl ⟨rfl,rfl,rfl,rfl,rfl,rfl,trivial⟩⟩,Nat.lt_succ_self _⟩))))
      ·exact wp_exit (Ei (Ei (Gp (Tn (⟨x3,h,S.nf [true] rfl (subR rfl)⟩)))))
    clear S h;rintro a w4 ⟨x3,h,S⟩;rw [hj2] at h;clear hj2 j2
    exact Ho (Tn (Fg (Vm S rfl rfl fun a S=>Vq S Gf rfl rfl rfl fun a S=>Va S rfl rfl fun a S=>Dl (⟨m1,⟨x3,W (x2 + 1),h,S.nf [true] rfl ⟨rfl,rfl,rfl,rfl,rfl,trivial⟩⟩,Nat.lt_succ_self _⟩))))
   ·exact wp_exit (Ei (Ei (Gp (Tn (⟨x1,h,S.nf [true] rfl trivial⟩)))))
 clear S h;rintro a w2 ⟨x1,h,S⟩;rw [hj1] at h;clear hj1 j1
 obtain rfl:=Option.some.inj h
 exact Uv S results103 ⟨(S.holds _ (List.mem_of_getElem? (i:=0) rfl)),rfl⟩
theorem Qv (w : World) (Aa : Value) (Ar : List Du) (Bj : (LEnt.own Aa 111 5 Ar.length (Ar.flatMap Du.enc)).holds w) (Az : Int) (r : (List Du)) (h : Je Ar Az = some r) :
    Calls prog 82 [Aa,iV Az,.func (.func 45) #[] #[]].toArray w (Ret w (Aa.ownBlock.toList) fun _ v w'=>(LEnt.own Aa 111 5 r.length (r.flatMap Du.enc)).holds w' ∧ v = .tuple #[]):=by
 refine Mo (Aa.ownBlock.toList) [.own Aa 111 5 Ar.length (Ar.flatMap Du.enc)] func82 rfl ntmps82 rfl (fun e he=>by simp only [List.mem_singleton] at he;subst he;exact Bj) (Li _) (Nb _) fun a S=>?_
 unfold Je at h
 replace S:=(S.nl [.own Aa 111 5 Ar.length (Ar.flatMap Du.enc)] [true] rfl).k3 0 1 2 rfl
 refine Fr (Vk S rfl rfl fun a S=>Dz (Vm S rfl rfl fun a S=>Vk S rfl rfl fun a S=>Va S rfl rfl fun a S=>Ld ?_))
 refine Tn (Fs ?_)
 replace S:=S.k6 0 1 2 6 7 8 rfl
 obtain ⟨j1,hj1,h⟩:=Eu h
 refine En (fun a w'=>∃ x1 : List Du,∃ x2 : Int,j1 x1 x2 = some r ∧ Sx w (Aa.ownBlock.toList) nov [.own Aa 111 5 x1.length (x1.flatMap Du.enc)] [(0,Aa),(1,iV Az),(2,.func (.func 45) #[] #[]),(6,iV 20),(7,iV x2)] 63 a w') ?_ ?_
 ·refine wp_block (Hb (fun (m1 : Nat) a w'=>∃ x1 : List Du,∃ x2 : Int,∃ x3 : Int,Fv Az j1 m1 x1 x2 x3 = some r ∧ Sx w (Aa.ownBlock.toList) nov [.own Aa 111 5 x1.length (x1.flatMap Du.enc)] [(0,Aa),(1,iV Az),(2,.func (.func 45) #[] #[]),(6,iV 20),(7,iV x2),(8,iV x3)] 63 a w') id ((Az - 20).toNat + 2) ⟨Ar,0,20,h,S.nf [true] rfl (subR rfl)⟩ ?_)
  clear S h;rintro m1 a w1 ⟨x1,x2,x3,h,S⟩
  cases m1 with
  | zero=>rw [Fv.eq_1] at h;cases h
  | succ m1 =>
   rw [Fv.eq_2] at h
   refine Fs (Fr (Vm S rfl rfl fun a S=>Vm S rfl rfl fun a S=>Vb S Uk rfl rfl rfl fun a S=>Dl (Fc h (S.tm rfl) (fun hb1 h=>?_) (fun hb1 h=>?_))))
   ·refine wp_skip (Tn (wp_block (Fs (Fg ?_))))
    iterate 4 (refine Vm S rfl rfl ?_;clear S;intro a S)
    obtain ⟨r1,hr1,h⟩:=Fb h
    refine Oy 0 S rfl (fun _=>.own Aa 111 5 r1.length (r1.flatMap Du.enc)) (fun _=>Dv (vs:=[Aa,iV x2,iV x3,.func (.func 45) #[] #[]]) ⟨(S.tm rfl),(S.tm rfl),(S.tm rfl),(S.tm rfl),trivial⟩ call103) (Lz _ Aa x1 (S.holds _ (List.mem_of_getElem? (i:=0) rfl)) x2 x3 _ hr1) rfl (fun _ _ _ h=>⟨h.1,fun _ hc=>hc⟩) ?_;clear S;intro v1 a w3 hv1 hk1 hn1 S
    replace hv1:=hv1.2
    subst hv1
    refine Dz (Vm S rfl rfl fun a S=>Va S rfl rfl fun a S=>Ld ?_)
    replace S:=(S.nl [.own Aa 111 5 r1.length (r1.flatMap Du.enc)] [true] rfl).k6 0 1 2 6 7 8 rfl
    exact Tn (Fg (Vm S rfl rfl fun a S=>Vm S rfl rfl fun a S=>Vb S Gf rfl rfl rfl fun a S=>Va S rfl rfl fun a S=>Ld (Ho (Tn (⟨m1,⟨r1,x3,W (x3 + 20),h,S.nf [true] rfl ⟨rfl,rfl,rfl,rfl,rfl,rfl,trivial⟩⟩,Nat.lt_succ_self _⟩)))))
   ·exact wp_exit (Ei (Ei (Gp (Tn (⟨x1,x2,h,S.nf [true] rfl (subR rfl)⟩)))))
 clear S h;rintro a w2 ⟨x1,x2,h,S⟩;rw [hj1] at h;clear hj1 j1
 refine Tn (Fs (Fg ?_))
 iterate 4 (refine Vm S rfl rfl ?_;clear S;intro a S)
 obtain ⟨r2,hr2,h⟩:=Fb h
 refine Oy 0 S rfl (fun _=>.own Aa 111 5 r2.length (r2.flatMap Du.enc)) (fun _=>Dv (vs:=[Aa,iV x2,iV Az,.func (.func 45) #[] #[]]) ⟨(S.tm rfl),(S.tm rfl),(S.tm rfl),(S.tm rfl),trivial⟩ call103) (Lz _ Aa x1 (S.holds _ (List.mem_of_getElem? (i:=0) rfl)) x2 Az _ hr2) rfl (fun _ _ _ h=>⟨h.1,fun _ hc=>hc⟩) ?_;clear S;intro v2 a w4 hv2 hk2 hn2 S
 replace hv2:=hv2.2
 subst hv2
 refine Dl ?_
 replace S:=(S.nl [.own Aa 111 5 r2.length (r2.flatMap Du.enc)] [true] rfl).k2 1 6 rfl
 obtain ⟨j2,hj2,h⟩:=Eu h
 refine En (fun a w'=>j2 = some r ∧ Sx w (Aa.ownBlock.toList) nov [.own Aa 111 5 r2.length (r2.flatMap Du.enc)] [] 63 a w') ?_ ?_
 ·refine wp_block (Hb (fun (m2 : Nat) a w'=>∃ x4 : Int,Fw Az j2 m2 x4 = some r ∧ Sx w (Aa.ownBlock.toList) nov [.own Aa 111 5 r2.length (r2.flatMap Du.enc)] [(1,iV Az),(6,iV x4)] 63 a w') id ((Az - 20).toNat + 2) ⟨20,h,S.nf [true] rfl (subR rfl)⟩ ?_)
  clear S h;rintro m2 a w5 ⟨x4,h,S⟩
  cases m2 with
  | zero=>rw [Fw.eq_1] at h;cases h
  | succ m2 =>
   rw [Fw.eq_2] at h
   refine Fs (Fr (Vm S rfl rfl fun a S=>Vm S rfl rfl fun a S=>Vb S Ex rfl rfl rfl fun a S=>Dl (Fc h (S.tm rfl) (fun hb2 h=>?_) (fun hb2 h=>?_))))
   ·refine wp_skip (Tn (wp_block (Fr (Vm S rfl rfl fun a S=>Vu S (Yk rfl) rfl rfl fun a S=>Vk S rfl rfl fun a S=>Va S rfl rfl fun a S=>Dl ?_))))
    refine Fs ?_
    replace S:=S.k4 1 6 7 8 rfl
    obtain ⟨j3,hj3,h⟩:=Eu h
    refine En (fun a w'=>∃ x5 : Int,j3 x5 = some r ∧ Sx w (Aa.ownBlock.toList) nov [.own Aa 111 5 r2.length (r2.flatMap Du.enc)] [(1,iV Az),(6,iV x4),(7,iV x5)] 63 a w') ?_ ?_
    ·refine wp_block (Hb (fun (m3 : Nat) a w'=>∃ x5 : Int,∃ x6 : Int,Gr Az j3 m3 x5 x6 = some r ∧ Sx w (Aa.ownBlock.toList) nov [.own Aa 111 5 r2.length (r2.flatMap Du.enc)] [(1,iV Az),(6,iV x4),(7,iV x5),(8,iV x6)] 63 a w') id ((Az - (W (2 * x4))).toNat + 2) ⟨0,W (2 * x4),h,S.nf [true] rfl (subR rfl)⟩ ?_)
     clear S h;rintro m3 a w7 ⟨x5,x6,h,S⟩
     cases m3 with
     | zero=>rw [Gr.eq_1] at h;cases h
     | succ m3 =>
      rw [Gr.eq_2] at h
      refine Fs (Fr (Vm S rfl rfl fun a S=>Vm S rfl rfl fun a S=>Vb S Uk rfl rfl rfl fun a S=>Dl (Fc h (S.tm rfl) (fun hb3 h=>?_) (fun hb3 h=>?_))))
      ·refine wp_skip (Tn (wp_block (Fs ?_)))
       cases h
      ·exact wp_exit (Ei (Ei (Gp (Tn (⟨x5,h,S.nf [true] rfl (subR rfl)⟩)))))
    clear S h;rintro a w8 ⟨x5,h,S⟩;rw [hj3] at h;clear hj3 j3
    refine Tn (Fs (Fr (Vm S rfl rfl fun a S=>Vm S rfl rfl fun a S=>Vb S Gf rfl rfl rfl fun a S=>Va S rfl rfl fun a S=>Dl (Fs ?_))))
    refine Fg (Vm S rfl rfl fun a S=>Vm S rfl rfl fun a S=>Vb S Ex rfl rfl rfl fun a S=>Dl (Fc h (S.tm rfl) (fun hb4 h=>?_) (fun hb4 h=>?_)))
    ·cases h
    ·exact wp_skip (Tn (Fg (Vm S rfl rfl fun a S=>Vq S Yk rfl rfl rfl fun a S=>Va S rfl rfl fun a S=>Ld (Ho (Tn (⟨m2,⟨W (x4 * 2),h,S.nf [true] rfl ⟨rfl,rfl,trivial⟩⟩,Nat.lt_succ_self _⟩))))))
   ·exact wp_exit (Ei (Ei (Gp (Tn (⟨h,S.nf [true] rfl trivial⟩)))))
 clear S h;rintro a w6 ⟨h,S⟩;rw [hj2] at h;clear hj2 j2
 obtain rfl:=Option.some.inj h
 exact Uv S results82 ⟨(S.holds _ (List.mem_of_getElem? (i:=0) rfl)),rfl⟩
theorem Qg (w : World) (Bc : Value) (Ab : List Du) (Cr : (LEnt.own Bc 111 5 Ab.length (Ab.flatMap Du.enc)).holds w) (r : (List Du)) (h : Gy Ab = some r) :
    Calls prog 44 [Bc,.func (.func 45) #[] #[]].toArray w (Ret w (Bc.ownBlock.toList) fun _ v w'=>(LEnt.own Bc 111 5 r.length (r.flatMap Du.enc)).holds w' ∧ v = .tuple #[]):=by
 refine Mo (Bc.ownBlock.toList) [.own Bc 111 5 Ab.length (Ab.flatMap Du.enc)] func44 rfl ntmps44 rfl (fun e he=>by simp only [List.mem_singleton] at he;subst he;exact Cr) (Li _) (Nb _) fun a S=>?_
 unfold Gy at h
 replace S:=(S.nl [.own Bc 111 5 Ab.length (Ab.flatMap Du.enc)] [true] rfl).k2 0 1 rfl
 refine Fg (Vm S rfl rfl fun a S=>Vm S rfl rfl fun a S=>lv S (Fz Nj (S.tm rfl) (Pb (S.own_at (i:=0) rfl))) rfl fun a S=>Vm S rfl rfl ?_);clear S;intro a S
 obtain ⟨r1,hr1,h⟩:=Fb h
 refine Oy 0 S rfl (fun _=>.own Bc 111 5 r1.length (r1.flatMap Du.enc)) (fun _=>Dv (vs:=[Bc,iV (Ab.length : Int),.func (.func 45) #[] #[]]) ⟨(S.tm rfl),(S.tm rfl),(S.tm rfl),trivial⟩ call82) (Qv _ Bc Ab (S.holds _ (List.mem_of_getElem? (i:=0) rfl)) (Ab.length : Int) _ hr1) rfl (fun _ _ _ h=>⟨h.1,fun _ hc=>hc⟩) ?_;clear S;intro v1 a w1 hv1 hk1 hn1 S
 replace hv1:=hv1.2
 subst hv1
 refine Ld ?_
 obtain rfl:=Option.some.inj h
 exact Uv S results44 ⟨(S.holds _ (List.mem_of_getElem? (i:=0) rfl)),rfl⟩
theorem Zt (w : World) (Al : Int) (Aq : Int) (r : Int) (h : Kw Al Aq = r) :
    Calls prog 147 [iV Al,iV Aq].toArray w (Ret w [] fun _ v _=>v = iV r):=by
 refine Fe func147 rfl ntmps147 rfl fun a S=>?_
 unfold Kw at h
 replace S:=S.k2 0 1 rfl
 refine Fr (Vk S rfl rfl fun a S=>Dl (Fs (Fr (Vm S rfl rfl fun a S=>Vq S Im rfl rfl rfl fun a S=>Ld ?_))))
 refine Tn ?_
 obtain ⟨j1,hj1,h⟩:=Eu h
 refine En (fun a w'=>∃ x1 : Int,j1 x1 = r ∧ Sx w [] nov [] [(0,iV x1),(1,iV Aq)] 12 a w') ?_ ?_
 ·refine Fc h (S.tm rfl) (fun hb1 h=>?_) (fun hb1 h=>?_)
  ·exact Fg (Vk S rfl rfl fun a S=>Dl (⟨301,h,S.nf [] rfl (subR rfl)⟩))
  ·exact wp_skip (Tn (⟨Al,h,S.nf [] rfl (subR rfl)⟩))
 clear S h;rintro a w1 ⟨x1,h,S⟩;rw [hj1] at h;clear hj1 j1
 refine Tn (Fs (Fr (Vm S rfl rfl fun a S=>Vq S Im rfl rfl rfl fun a S=>Dl ?_)))
 obtain ⟨j2,hj2,h⟩:=Eu h
 refine En (fun a w'=>∃ x2 : Int,j2 x2 = r ∧ Sx w [] nov [] [(0,iV x1),(1,iV x2)] 12 a w') ?_ ?_
 ·refine Fc h (S.tm rfl) (fun hb2 h=>?_) (fun hb2 h=>?_)
  ·exact Fg (Vk S rfl rfl fun a S=>Dl (⟨301,h,S.nf [] rfl (subR rfl)⟩))
  ·exact wp_skip (Tn (⟨Aq,h,S.nf [] rfl (subR rfl)⟩))
 clear S h;rintro a w2 ⟨x2,h,S⟩;rw [hj2] at h;clear hj2 j2
 refine Tn (Fr (Vm S rfl rfl fun a S=>Vm S rfl rfl fun a S=>Vb S Ja rfl rfl rfl fun a S=>Va S rfl rfl fun a S=>Dl (wp_ret ?_)))
 subst h
 exact Eo S results147 rfl rfl
set_option maxRecDepth 20000 in
theorem EF (w : World) (Al : Du) (Aq : Du) (r : Int) (h : Ro Al Aq = r) :
    Calls prog 123 [.agg (Du.enc Al).toArray,.agg (Du.enc Aq).toArray].toArray w (Ret w [] fun _ v _=>v = iV r):=by
 refine Fe func123 rfl ntmps123 rfl fun a S=>?_
 unfold Ro at h
 replace S:=S.k2 0 1 rfl
 refine Fr (My S (S.tm rfl) (cs:=(Du.enc Al)) rfl rfl ?_);clear S;intro a w1 b1 hz1 hk1 S
 refine My S (S.tm rfl) (cs:=(Du.enc Aq)) rfl rfl ?_;clear S;intro a w2 b2 hz2 hk2 S
 refine Vk S rfl rfl fun a S=>Dl (Fs (Hd [] ([]) Tryz.mixed S rfl (by kernel_rfl) ?_));clear S;intro w8 hk8 hsel S
 refine Ef 0 S hsel rfl rfl rfl (by kernel_rfl) (by kernel_rfl) rfl (fun _ hw=>(Ge Wl (S.tm rfl))) fun a S=>Ef 1 S hsel rfl rfl rfl (by kernel_rfl) (by kernel_rfl) rfl (fun _ hw=>(Hp isAgg9 (off:=0) (o:=0) (S.tm rfl) ((S.blk_mem (i:=1) (cells:=(Du.enc Al)) (b:=b1) (T:=111) rfl (Hr (e':=.blk b1 (Du.enc Al) 111))).kept hw) rfl)) fun a S=>Ef 2 S hsel rfl rfl rfl (by kernel_rfl) (by kernel_rfl) rfl (fun _ hw=>(Ge Wl (S.tm rfl))) fun a S=>Ef 3 S hsel rfl rfl rfl (by kernel_rfl) (by kernel_rfl) rfl (fun _ hw=>(Hp isAgg9 (off:=0) (o:=0) (S.tm rfl) ((S.blk_mem (i:=0) (cells:=(Du.enc Aq)) (b:=b2) (T:=111) rfl (Hr (e':=.blk b2 (Du.enc Aq) 111))).kept hw) rfl)) fun a S=>Ef 5 S hsel rfl rfl rfl (by kernel_rfl) (by kernel_rfl) rfl (fun _ hw=>(Ge Nk (S.tm rfl))) fun a S=>Ef 6 S hsel rfl rfl rfl (by kernel_rfl) (by kernel_rfl) rfl (fun _ hw=>(Hp isAgg3 (off:=0) (o:=3) (S.tm rfl) ((S.blk_mem (i:=1) (cells:=(Du.enc Al)) (b:=b1) (T:=111) rfl (Hr (e':=.blk b1 (Du.enc Al) 111))).kept hw) rfl)) fun a S=>Ef 7 S hsel rfl rfl rfl (by kernel_rfl) (by kernel_rfl) rfl (fun _ hw=>(Ge Nk (S.tm rfl))) fun a S=>Ef 8 S hsel rfl rfl rfl (by kernel_rfl) (by kernel_rfl) rfl (fun _ hw=>(Hp isAgg3 (off:=0) (o:=3) (S.tm rfl) ((S.blk_mem (i:=0) (cells:=(Du.enc Aq)) (b:=b2) (T:=111) rfl (Hr (e':=.blk b2 (Du.enc Aq) 111))).kept hw) rfl)) fun a S=>Ef 10 S hsel rfl rfl rfl (by kernel_rfl) (by kernel_rfl) rfl (fun _ hw=>(Ge Wm (S.tm rfl))) fun a S=>Ef 11 S hsel rfl rfl rfl (by kernel_rfl) (by kernel_rfl) rfl (fun _ hw=>(Hp isAgg9 (off:=0) (o:=1) (S.tm rfl) ((S.blk_mem (i:=1) (cells:=(Du.enc Al)) (b:=b1) (T:=111) rfl (Hr (e':=.blk b1 (Du.enc Al) 111))).kept hw) rfl)) ?_;clear S;intro a S
 refine Ef 12 S hsel rfl rfl rfl (by kernel_rfl) (by kernel_rfl) rfl (fun _ hw=>(Ge Wm (S.tm rfl))) fun a S=>Ef 13 S hsel rfl rfl rfl (by kernel_rfl) (by kernel_rfl) rfl (fun _ hw=>(Hp isAgg9 (off:=0) (o:=1) (S.tm rfl) ((S.blk_mem (i:=0) (cells:=(Du.enc Aq)) (b:=b2) (T:=111) rfl (Hr (e':=.blk b2 (Du.enc Aq) 111))).kept hw) rfl)) fun a S=>Gw 4 (by kernel_rfl) rfl (Ec S (fun _=>Dv (vs:=[sV Al.Race,sV Aq.Race]) ⟨(S.tm rfl),(S.tm rfl),trivial⟩ call46) (On _ Al.Race Aq.Race _ rfl) rfl ?_);clear S;intro v5 a w9 hv5 hk9 hn5 S
 subst hv5
 refine Ld (Hx hk9 (Gw 9 (by kernel_rfl) rfl (Ec S (fun _=>Dv (vs:=[iV Al.Rank,iV Aq.Rank]) ⟨(S.tm rfl),(S.tm rfl),trivial⟩ call147) (Zt _ Al.Rank Aq.Rank _ rfl) rfl ?_)));clear S;intro v6 a w10 hv6 hk10 hn6 S
 subst hv6
 refine Ld (Hx hk10 (Gw 14 (by kernel_rfl) rfl (Ec S (fun _=>Dv (vs:=[sV Al.Who,sV Aq.Who]) ⟨(S.tm rfl),(S.tm rfl),trivial⟩ call46) (On _ Al.Who Aq.Who _ rfl) rfl ?_)));clear S;intro v7 a w11 hv7 hk11 hn7 S
 subst hv7
 refine Ld (Hx hk11 (Gw 15 (by kernel_rfl) rfl (Et S underlying22 sizeOf3 zeroValue3 rfl rfl (pv:=[(0,iV (Hi Al.Race Aq.Race)),(1,iV (Kw Al.Rank Aq.Rank)),(2,iV (Hi Al.Who Aq.Who))]) ⟨rfl,(S.tm rfl),rfl,(S.tm rfl),rfl,(S.tm rfl),trivial⟩ (cs:=[iV (Hi Al.Race Aq.Race),iV (Kw Al.Rank Aq.Rank),iV (Hi Al.Who Aq.Who)]) (by kernel_rfl) rfl ?_)));clear S;intro a w12 b4 hz4 hk12 S
 refine Ld (Hx hk12 (Gw 16 (by kernel_rfl) rfl (Ec S (fun _=>Dv (vs:=[.slice (some ⟨b4,0,none⟩) 3 3]) ⟨(S.tm rfl),trivial⟩ call97) (CO _ (.slice (some ⟨b4,0,none⟩) 3 3) [(Hi Al.Race Aq.Race),(Kw Al.Rank Aq.Rank),(Hi Al.Who Aq.Who)] (Jr Ih S (i:=0) rfl rfl rfl rfl ((Hr (e':=.blk b4 [iV (Hi Al.Race Aq.Race),iV (Kw Al.Rank Aq.Rank),iV (Hi Al.Who Aq.Who)] 3)) _ rfl)) _ rfl) rfl ?_)));clear S;intro v8 a w13 hv8 hk13 hn8 S
 subst hv8
 refine Ld (Hx hk13 (Kz [17] hsel (by kernel_rfl) rfl ?_))
 clear hsel
 refine Gk S rfl (Ra (S.tm rfl)) rfl fun a S=>Ig ?_
 replace S:=S.n0.k1 4 rfl
 refine Tn (wp_ret ?_)
 subst h
 exact Eo S results123 rfl rfl
set_option maxRecDepth 20000 in
theorem Zy (w : World) (ψ : View) (hψ : View.le ψ (view w [])) (Ac : Value) (Ag : List Du) (Ae : Slc ψ 5 Ac (Ag.map Du.enc)) (r : (List (List Du))) (h : Rx Ag = some r) :
    Calls prog 107 [Ac].toArray w (Ret w [] fun τ v _=>SlcD (join ψ τ) 1 RS.enc Ye v r):=by
 refine Fe func107 rfl ntmps107 rfl fun a S=>?_
 unfold Rx at h
 replace S:=S.k1 0 rfl
 refine Fr (Vk S rfl rfl fun a S=>Dz (Vk S rfl rfl ?_));clear S;intro a S
 replace S:=S.nil 107 1
 refine Dl (Fs (Fr (Vk S rfl rfl fun a S=>Dl ?_)))
 replace S:=(S.nl [.own (.slice none 0 0) 107 1 ([] : List RS).length (([] : List RS).flatMap RS.enc)] [true] rfl).k3 0 3 4 rfl
 obtain ⟨j1,hj1,h⟩:=Eu h
 refine En (fun a w'=>∃ x1 : List (List Du),∃ v1 : Value,∃ rs1 : List RS,j1 x1 = some r ∧ La (Ye (join ψ nov)) x1 rs1 ∧ Sx w [] nov [.own v1 107 1 rs1.length (rs1.flatMap RS.enc)] [(3,v1)] 41 a w') ?_ ?_
 ·refine wp_block (Hb (fun (m1 : Nat) a w'=>∃ x1 : List (List Du),∃ x2 : Int,∃ v1 : Value,∃ rs1 : List RS,Kx Ag j1 m1 x1 x2 = some r ∧ La (Ye (join ψ nov)) x1 rs1 ∧ Sx w [] nov [.own v1 107 1 rs1.length (rs1.flatMap RS.enc)] [(0,Ac),(3,v1),(4,iV x2)] 41 a w') id (((Ag.length : Int) - 0).toNat + 2) ⟨([] : List (List Du)),0,(.slice none 0 0),([] : List RS),h,.nil,S.nf [true] rfl (subR rfl)⟩ ?_)
  clear S h;rintro m1 a w1 ⟨x1,x2,v1,rs1,h,hr1,S⟩
  cases m1 with
  | zero=>rw [Kx.eq_1] at h;cases h
  | succ m1 =>
   rw [Kx.eq_2] at h
   refine Fs (Fr (Vm S rfl rfl fun a S=>Vm S rfl rfl fun a S=>lv S (Fz Nj (S.tm rfl) (Fl Ae)) rfl fun a S=>Vb S Ex rfl rfl rfl fun a S=>Dl (Fc h (S.tm rfl) (fun hb1 h=>?_) (fun hb1 h=>?_))))
   ·refine wp_skip (Tn (wp_block (Fr (Vm S rfl rfl fun a S=>Vq S Gf rfl rfl rfl fun a S=>Va S rfl rfl fun a S=>Dl (Fs ?_)))))
    replace S:=S.k4 0 3 4 5 rfl
    obtain ⟨j2,hj2,h⟩:=Eu h
    refine En (fun a w'=>∃ x3 : Int,j2 x3 = some r ∧ Sx w [] nov [.own v1 107 1 rs1.length (rs1.flatMap RS.enc)] [(0,Ac),(3,v1),(4,iV x2),(5,iV x3)] 41 a w') ?_ ?_
    ·refine wp_block (Hb (fun (m2 : Nat) a w'=>∃ x3 : Int,Mt Ag x2 j2 m2 x3 = some r ∧ Sx w [] nov [.own v1 107 1 rs1.length (rs1.flatMap RS.enc)] [(0,Ac),(3,v1),(4,iV x2),(5,iV x3)] 41 a w') id (((Ag.length : Int) - (W (x2 + 1))).toNat + 2) ⟨W (x2 + 1),h,S.nf [true] rfl (subR rfl)⟩ ?_)
     clear S h;rintro m2 a w3 ⟨x3,h,S⟩
     cases m2 with
     | zero=>rw [Mt.eq_1] at h;cases h
     | succ m2 =>
      rw [Mt.eq_2] at h
      refine Fs (Fs (Hd [] ([]) Tryz.mixed S rfl (by kernel_rfl) ?_));clear S;intro w5 hk1 hsel S
      refine Kz [0,1,2,3,4,5,6,7,8,9,10,11,12,13,14,15,16] hsel (by kernel_rfl) rfl ?_
      clear hsel
      refine Gk S rfl (Rm (S.tm rfl)) rfl fun a S=>Gk S rfl (Rm (S.tm rfl)) rfl fun a S=>Gk S rfl (Fz Nj (S.tm rfl) (Fl Ae)) rfl fun a S=>Gk S rfl (Ex (S.tm rfl) (S.tm rfl)) rfl fun a S=>Gk S rfl (Rm (S.tm rfl)) rfl ?_;clear S;intro a S
      obtain ⟨j3,hj3,h⟩:=Eu h
      refine Yl 12 (fun a w'=>∃ c1,j3 c1 = some r ∧ Keep [] w5 w' ∧ Sx w [] nov [.own v1 107 1 rs1.length (rs1.flatMap RS.enc)] [(0,Ac),(3,v1),(4,iV x2),(5,iV x3),(28,bV c1)] 41 a w') ?_ ?_
      ·rcases Bool.eq_false_or_eq_true (decide (x3 < (Ag.length : Int))) with hb2 | hb2
       ·replace h:=Qw h hb2
        refine Fm S rfl rfl rfl rfl hb2 (Gv S (Rm (S.tm rfl)) rfl fun a S=>Fm S rfl rfl rfl rfl hb2 (Gv S (Rm (S.tm rfl)) rfl fun a S=>Fm S rfl rfl rfl rfl hb2 ?_))
        obtain ⟨hc1,h⟩:=Ia h
        obtain ⟨b1,o1,hm1,hr2⟩:=Fd (a:=a) (x:=.tmp 17) (y:=.tmp 18) (ty:=0) Nj Ae (Ed hc1).1 (Ed hc1).2 (S.tm rfl) (S.tm rfl)
        refine Gv S (hr2 _) rfl ?_;clear S;intro a S
        clear hr2
        refine Fm S rfl rfl rfl rfl hb2 (Gv S (Ge Wl (S.tm rfl)) rfl fun a S=>Fm S rfl rfl rfl rfl hb2 (Gv S (Hp isAgg9 (off:=o1) (o:=0) (S.tm rfl) (hm1.at (NT hψ S.emb0)) rfl) rfl fun a S=>Fm S rfl rfl rfl rfl hb2 (Gv S (Rm (S.tm rfl)) rfl fun a S=>Fm S rfl rfl rfl rfl hb2 (Gv S (Rm (S.tm rfl)) rfl fun a S=>Fm S rfl rfl rfl rfl hb2 ?_))))
        obtain ⟨hc2,h⟩:=Ia h
        obtain ⟨b2,o2,hm2,hr3⟩:=Fd (a:=a) (x:=.tmp 22) (y:=.tmp 23) (ty:=0) Nj Ae (Ed hc2).1 (Ed hc2).2 (S.tm rfl) (S.tm rfl)
        refine Gv S (hr3 _) rfl ?_;clear S;intro a S
        clear hr3
        exact Fm S rfl rfl rfl rfl hb2 (Gv S (Ge Wl (S.tm rfl)) rfl fun a S=>Fm S rfl rfl rfl rfl hb2 (Gv S (Hp isAgg9 (off:=o2) (o:=0) (S.tm rfl) (hm2.at (NT hψ S.emb0)) rfl) rfl fun a S=>Fm S rfl rfl rfl rfl hb2 (Gv S (Wb (S.tm rfl) (S.tm rfl)) rfl fun a S=>Gk S rfl (Hm hb2 (S.tm rfl) (S.tm rfl)) rfl fun a S=>Ig (⟨_,h,Keep.refl _ _,S.nf [true] rfl (subR rfl)⟩))))
       ·replace h:=Qx h hb2
        iterate 11 (refine Qe S rfl rfl rfl rfl (Jq hb2) rfl ?_ rfl;clear S;intro a S)
        exact Gk S rfl (Hn true hb2 (S.tm rfl) rfl) rfl fun a S=>Ig (⟨_,h,Keep.refl _ _,S.nf [true] rfl (subR rfl)⟩)
      clear S h;rintro a w6 ⟨c1,h,hk2,S⟩;rw [hj3] at h;clear hj3 j3
      refine Ig ?_
      replace S:=S.k5 0 3 4 5 28 rfl
      refine Tn (Fc h (S.tm rfl) (fun hb3 h=>?_) (fun hb3 h=>?_))
      ·exact wp_skip (Tn (wp_block (Fg (Vm S rfl rfl fun a S=>Vq S Gf rfl rfl rfl fun a S=>Va S rfl rfl fun a S=>Ld (Ho (Tn (⟨m2,⟨W (x3 + 1),h,S.nf [true] rfl ⟨rfl,rfl,rfl,rfl,trivial⟩⟩,Nat.lt_succ_self _⟩)))))))
      ·exact wp_exit (Ei (Ei (Gp (Tn (⟨x3,h,S.nf [true] rfl (subR rfl)⟩)))))
    clear S h;rintro a w4 ⟨x3,h,S⟩;rw [hj2] at h;clear hj2 j2
    refine Tn (Fs (Fg ?_))
    iterate 5 (refine Vm S rfl rfl ?_;clear S;intro a S)
    obtain ⟨hc3,h⟩:=Ia h
    obtain ⟨v2,hs1,hr4⟩:=SU (y2:=.tmp 35) (a:=a) (x:=.tmp 32) (y:=.tmp 33) (y':=.tmp 34) (ty:=107) Nj Ae (S.tm rfl) (S.tm rfl) (S.tm rfl) (S.tm rfl) hc3
    refine lv S (hr4 _) rfl ?_;clear S;intro a S
    clear hr4
    refine Et S underlying185 sizeOf107 zeroValue107 rfl rfl (pv:=[(0,v2)]) ⟨rfl,(S.tm rfl),trivial⟩ (cs:=[v2]) (ST hs1) rfl ?_;clear S;intro a w7 b3 hz1 hk3 S
    obtain ⟨hc4,h⟩:=Ia h
    have hr5 : La (Ye (join ψ nov)) (x1 ++ [cut Ag x2 x3]) (rs1 ++ [⟨v2,Kk.one (Fl hs1)⟩]):=La.app hr1 (La.cons (hs1.mono (le_join_left _ _)) La.nil)
    refine Mb Zo RS.enc_ok S (S.tm rfl) (i:=1) rfl (S.tm rfl) (j:=0) rfl (ys:=[⟨v2,Kk.one (Fl hs1)⟩]) rfl rfl rfl rfl (by have:=Mn hc4;have:=La.len hr1;simp at this ⊢;omega) rfl ?_;clear S;intro v3 a w8 hk4 S
    exact Va S rfl rfl fun a S=>Dl (Fg (Vm S rfl rfl fun a S=>Va S rfl rfl fun a S=>Ld (Ho (Tn (⟨m1,⟨(x1 ++ [cut Ag x2 x3]),x3,v3,(rs1 ++ [⟨v2,Kk.one (Fl hs1)⟩]),h,hr5,S.nf [false,true] rfl ⟨rfl,rfl,rfl,trivial⟩⟩,Nat.lt_succ_self _⟩)))))
   ·exact wp_exit (Ei (Ei (Gp (Tn (⟨x1,v1,rs1,h,hr1,S.nf [true] rfl ⟨rfl,trivial⟩⟩)))))
 clear S h;rintro a w2 ⟨x1,v1,rs1,h,hr1,S⟩;rw [hj1] at h;clear hj1 j1
 refine Tn (Fr (Vm S rfl rfl fun a S=>Va S rfl rfl fun a S=>Dl (wp_ret ?_)))
 obtain ⟨φ1,hl1,hs2,S⟩:=S.freezeT (xs:=rs1) (enc:=RS.enc) (i:=0) rfl (fun _ h=>by cases h)
 have hr6:=(DU (GZ hl1) hr1)
 have hs3:=(He RS.enc_ok hs2).mono (S.all_right hψ)
 replace S:=S.nk [] [(2,v1),(3,v1),(40,v1)] [] rfl (subR rfl)
 obtain rfl:=Option.some.inj h
 exact Eo S results107 rfl ⟨_,(hs3.mono (BV hψ S.le_newer)),DU (BV hψ S.le_newer) hr6⟩
set_option maxRecDepth 20000 in
theorem AF (w : World) (Ab : Du) (Cf : Nat) (Dm : Value) (Bq : List Du) (Dp : Slc (view w []) 5 Dm (Bq.map Du.enc)) (Cg : (view w []) Cf = some (.cells [Dm].toArray 107 (0,0))) (r : Bool) (h : Ry Ab Bq = some r) :
    Calls prog 149 [.agg (Du.enc Ab).toArray,.pointer (some ⟨Cf,0,none⟩)].toArray w (Ret w [] fun _ v _=>v = bV r):=by
 refine Fe func149 rfl ntmps149 rfl fun a S=>?_
 unfold Ry at h
 replace S:=S.k2 0 1 rfl
 refine Fr (My S (S.tm rfl) (cs:=(Du.enc Ab)) rfl rfl ?_);clear S;intro a w1 b1 hz1 hk1 S
 refine Vk S rfl rfl fun a S=>Dl (Fs (Hd [] ([]) Tryz.mixed S rfl (by kernel_rfl) ?_));clear S;intro w2 hk2 hsel S
 refine Kz [0,1,2,3,4,5,6,7] hsel (by kernel_rfl) rfl ?_
 clear hsel
 refine Gk S rfl (Ge HB (S.tm rfl)) rfl fun a S=>Gk S rfl (Mi isAgg4 (S.tm rfl) (S.cell (i:=0) rfl rfl)) rfl fun a S=>Gk S rfl (Hp isAgg107 (off:=0) (o:=0) (S.tm rfl) ((Sn Cg).at S.emb0) rfl) rfl ?_;clear S;intro a S
 obtain ⟨hc1,h⟩:=Ia h
 obtain ⟨b2,o1,hm1,hr1⟩:=Fd (a:=a) (x:=.tmp 6) (y:=.const (iV 0)) (ty:=0) Nj Dp (Ed hc1).1 (Ed hc1).2 (S.tm rfl) rfl
 refine Gk S rfl (hr1 _) rfl ?_;clear S;intro a S
 clear hr1
 refine Gk S rfl (Ge HB (S.tm rfl)) rfl fun a S=>Gk S rfl (Hp isAgg4 (off:=o1) (o:=4) (S.tm rfl) (hm1.at S.emb0) rfl) rfl fun a S=>Gk S rfl (OV underlying4 (S.tm rfl) (S.tm rfl)) rfl fun a S=>Gk S rfl (Ra (S.tm rfl)) rfl fun a S=>Ig ?_
 replace S:=S.n0.k1 3 rfl
 refine Tn (wp_ret ?_)
 obtain rfl:=Option.some.inj h
 exact Eo S results149 rfl rfl
theorem Rg (w : World) (Aw : Value) (Ap : List Du) (Bf : Slc (view w []) 5 Aw (Ap.map Du.enc)) (Ba : Nat) (Co : Value) (Ay : List Du) (Db : Slc (view w []) 5 Co (Ay.map Du.enc)) (Bm : (view w []) Ba = some (.cells [Co].toArray 107 (0,0))) (r : Int) (h : Jo Ap Ay = some r) :
    Calls prog 162 [Aw,.func (.func 149) #[] #[.pointer (some ⟨Ba,0,none⟩)]].toArray w (Ret w [] fun _ v _=>v = iV r):=by
 refine Fe func162 rfl ntmps162 rfl fun a S=>?_
 unfold Jo at h
 replace S:=S.k2 0 1 rfl
 refine Fr (Vk S rfl rfl fun a S=>Dl (Fs (Fr (Vm S rfl rfl fun a S=>lv S (Fz Nj (S.tm rfl) (Fl Bf)) rfl fun a S=>lv S (Rm rfl) rfl ?_))));clear S;intro a S
 refine Dl ?_
 replace S:=S.k4 0 1 7 8 rfl
 obtain ⟨j1,hj1,h⟩:=Eu h
 refine En (fun a w'=>j1 = some r ∧ Sx w [] nov [] [] 19 a w') ?_ ?_
 ·refine wp_block (Hb (fun (ys1 : List Du) a w'=>∃ i1 : Nat,(∃ dn,Ap = dn ++ ys1 ∧ dn.length = i1) ∧ Fj Ay j1 ys1 i1 = some r ∧ Sx w [] nov [] [(0,Aw),(1,.func (.func 149) #[] #[.pointer (some ⟨Ba,0,none⟩)]),(7,iV (Ap.length : Int)),(8,iV (i1 : Int))] 19 a w') List.length Ap ⟨0,⟨[],rfl,rfl⟩,h,S.nf [] rfl (subR rfl)⟩ ?_)
  clear S h;rintro ys1 a w1 ⟨i1,⟨dn,hd1,hi1⟩,h,S⟩
  cases ys1 with
  | nil =>
   rw [Fj.eq_1] at h
   refine Fr (Vb S Ex rfl rfl rfl fun a S=>Ld ?_)
   replace S:=S.k5 0 1 7 8 9 rfl
   exact Tn (Fs (wp_cond_false ((S.tm rfl).trans (congrArg Value.bool (Io hd1 hi1))) (wp_exit (Ei (Ei (Gp (Tn (⟨h,S.nf [] rfl trivial⟩))))))))
  | cons y1 ys1 =>
   rw [Fj.eq_2] at h
   refine Fr (Vb S Ex rfl rfl rfl fun a S=>Ld ?_)
   replace S:=S.k5 0 1 7 8 9 rfl
   refine Tn (Fs (wp_cond_true ((S.tm rfl).trans (congrArg Value.bool (Hv hd1 hi1))) (wp_skip (Tn (Fs (wp_block (Fr (Vm S rfl rfl fun a S=>Va S rfl rfl ?_))))))));clear S;intro a S
   refine Dl (Fs (Fg ?_))
   iterate 3 (refine Vm S rfl rfl ?_;clear S;intro a S)
   obtain ⟨b1,o1,hm1,hr1⟩:=Fd (a:=a) (x:=.tmp 12) (y:=.tmp 13) (ty:=0) Nj Bf (Iq hd1 hi1) rfl (S.tm rfl) (S.tm rfl)
   refine lv S (hr1 _) rfl ?_;clear S;intro a S
   clear hr1
   refine lv S (Fx isAgg111 sizeOf111 (off:=o1) (o:=0) (part:=(Du.enc y1)) rfl rfl (S.tm rfl) (hm1.at S.emb0)) rfl ?_;clear S;intro a S
   obtain ⟨r1,hr2,h⟩:=Fb h
   refine Ec S (fun _=>Un (cap:=[.pointer (some ⟨Ba,0,none⟩)]) (S.tm rfl) (vs:=[.agg (Du.enc y1).toArray]) ⟨(S.tm rfl),trivial⟩ call149) (AF _ y1 Ba Co Ay (Db.mono (S.le_arg Ej)) ((S.le_arg Ej) _ _ Bm) _ hr2) rfl ?_;clear S;intro v1 a w3 hv1 hk1 hn1 S
   subst hv1
   refine Dl (Fc h (S.tm rfl) (fun hb1 h=>?_) (fun hb1 h=>?_))
   ·refine Fr (Vm S rfl rfl fun a S=>Va S rfl rfl fun a S=>Ld ?_)
    replace S:=S.k1 4 rfl
    refine Tn (wp_ret (Fq (Dy (Dy (Fq (Dy (Dy ?_)))))))
    obtain rfl:=Option.some.inj h
    exact Eo S results162 rfl rfl
   ·exact wp_skip (Ho (Tn (Fg (Vq S Gf rfl rfl rfl fun a S=>Vm S rfl rfl fun a S=>Dl (⟨ys1,⟨i1 + 1,⟨_,(hd1).trans (List.append_cons _ _ _),by simp [hi1]⟩,h,S.nf [] rfl ⟨rfl,rfl,rfl,(congrArg (fun z=>some (Value.int .i64 z)) (Hw hd1 hi1 (Jn Bf))),trivial⟩⟩,Nat.lt_succ_self _⟩)))))
 clear S h;rintro a w2 ⟨h,S⟩;rw [hj1] at h;clear hj1 j1
 refine Tn (Fr (Vk S rfl rfl fun a S=>Dl (wp_ret ?_)))
 obtain rfl:=Option.some.inj h
 exact Eo S results162 rfl rfl
theorem Qh (w : World) (Aw : Value) (Ap : List Du) (Bf : Slc (view w []) 5 Aw (Ap.map Du.enc)) (Ba : Nat) (Co : Value) (Ay : List Du) (Db : Slc (view w []) 5 Co (Ay.map Du.enc)) (Bm : (view w []) Ba = some (.cells [Co].toArray 107 (0,0))) (r : Bool) (h : Iz Ap Ay = some r) :
    Calls prog 148 [Aw,.func (.func 149) #[] #[.pointer (some ⟨Ba,0,none⟩)]].toArray w (Ret w [] fun _ v _=>v = bV r):=by
 refine Fe func148 rfl ntmps148 rfl fun a S=>?_
 unfold Iz at h
 replace S:=S.k2 0 1 rfl
 refine Fr (Vk S rfl rfl fun a S=>Dz (Vm S rfl rfl fun a S=>Vm S rfl rfl ?_));clear S;intro a S
 obtain ⟨r1,hr1,h⟩:=Fb h
 refine Ec S (fun _=>Dv (vs:=[Aw,.func (.func 149) #[] #[.pointer (some ⟨Ba,0,none⟩)]]) ⟨(S.tm rfl),(S.tm rfl),trivial⟩ call162) (Rg _ Aw Ap (Bf.mono (S.le_arg Ej)) Ba Co Ay (Db.mono (S.le_arg Ej)) ((S.le_arg Ej) _ _ Bm) _ hr1) rfl ?_;clear S;intro v1 a w1 hv1 hk1 hn1 S
 subst hv1
 refine Vq S Qd rfl rfl rfl fun a S=>Va S rfl rfl fun a S=>Dl (wp_ret ?_)
 obtain rfl:=Option.some.inj h
 exact Eo S results148 rfl rfl
set_option maxRecDepth 20000 in
theorem DD (w : World) (Ac : Value) (Ag : List Du) (Ae : Slc (view w []) 5 Ac (Ag.map Du.enc)) (r : Int) (h : Ql Ag = some r) :
    Calls prog 124 [Ac].toArray w (Ret w [] fun _ v _=>v = iV r):=by
 refine Fe func124 rfl ntmps124 rfl fun a S=>?_
 unfold Ql at h
 replace S:=S.k1 0 rfl
 refine Fr (Vk S rfl rfl fun a S=>Dz (Rk (κ:=Ff) (ν:=Bool) S rfl (fun x=>Value.agg (Ff.enc x).toArray) Value.bool ?_));clear S;intro a w1 b1 hz1 hk1 S
 refine Va S rfl rfl fun a S=>Dl (Fs (Fr (Vm S rfl rfl fun a S=>lv S (Fz Nj (S.tm rfl) (Fl Ae)) rfl fun a S=>lv S (Rm rfl) rfl fun a S=>Dl ?_)))
 replace S:=(S.nl [.map b1 (Gn (fun x=>Value.agg (Ff.enc x).toArray) Value.bool ([] : List (Ff × Bool))) ([] : List (Ff × Bool)).length] [true] rfl).k5 0 3 17 18 19 rfl
 obtain ⟨j1,hj1,h⟩:=Eu h
 refine En (fun a w'=>∃ x1 : List (Ff × Bool),j1 x1 = some r ∧ Sx w [] nov [.map b1 (Gn (fun x=>Value.agg (Ff.enc x).toArray) Value.bool x1) x1.length] [(0,Ac)] 122 a w') ?_ ?_
 ·refine wp_block (Hb (fun (ys1 : List Du) a w'=>∃ i1 : Nat,∃ x1 : List (Ff × Bool),(∃ dn,Ag = dn ++ ys1 ∧ dn.length = i1) ∧ Ks j1 ys1 i1 x1 = some r ∧ Sx w [] nov [.map b1 (Gn (fun x=>Value.agg (Ff.enc x).toArray) Value.bool x1) x1.length] [(0,Ac),(3,.map (some b1)),(17,Ac),(18,iV (Ag.length : Int)),(19,iV (i1 : Int))] 122 a w') List.length Ag ⟨0,([] : List (Ff × Bool)),⟨[],rfl,rfl⟩,h,S.nf [true] rfl (subR rfl)⟩ ?_)
  clear S h;rintro ys1 a w2 ⟨i1,x1,⟨dn,hd1,hi1⟩,h,S⟩
  cases ys1 with
  | nil =>
   rw [Ks.eq_1] at h
   refine Fr (Vb S Ex rfl rfl rfl fun a S=>Ld ?_)
   replace S:=S.k6 0 3 17 18 19 20 rfl
   exact Tn (Fs (wp_cond_false ((S.tm rfl).trans (congrArg Value.bool (Io hd1 hi1))) (wp_exit (Ei (Ei (Gp (Tn (⟨x1,h,S.nf [true] rfl ⟨rfl,trivial⟩⟩))))))))
  | cons y1 ys1 =>
   rw [Ks.eq_2] at h
   refine Fr (Vb S Ex rfl rfl rfl fun a S=>Ld ?_)
   replace S:=S.k6 0 3 17 18 19 20 rfl
   refine Tn (Fs (wp_cond_true ((S.tm rfl).trans (congrArg Value.bool (Hv hd1 hi1))) (wp_skip (Tn (Fs (wp_block (Fs (Fg ?_))))))))
   obtain ⟨b2,o1,hm1,hr1⟩:=Fd (a:=a) (x:=.tmp 17) (y:=.tmp 19) (ty:=0) Nj Ae (Iq hd1 hi1) rfl (S.tm rfl) (S.tm rfl)
   refine lv S (hr1 _) rfl ?_;clear S;intro a S
   clear hr1
   refine lv S (Fx isAgg111 sizeOf111 (off:=o1) (o:=0) (part:=(Du.enc y1)) rfl rfl (S.tm rfl) (hm1.at S.emb0)) rfl fun a S=>Hz S zeroValue111 (cs:=[sV An,sV An,sV An,iV 0,bV false]) rfl rfl ?_;clear S;intro a w4 b3 hz2 hk2 S
   refine Fh S (S.tm rfl) (S.tm rfl) (i:=0) (off:=0) rfl sizeOf111 (vs:=(Du.enc y1)) rfl rfl rfl rfl ?_;clear S;intro w5 hk3 S
   refine Dl (Fs (Fr (Vm S rfl rfl fun a S=>Vf Wl S rfl rfl fun a S=>Vl isAgg9 0 S rfl rfl rfl rfl fun a S=>Vf Wm S rfl rfl fun a S=>Vl isAgg9 0 S rfl rfl rfl rfl fun a S=>lv S (Mj TN (pv:=[(0,sV y1.Race),(1,sV y1.Who)]) ⟨rfl,(S.tm rfl),rfl,(S.tm rfl),trivial⟩ (cs:=[sV y1.Race,sV y1.Who]) (by kernel_rfl)) rfl ?_)));clear S;intro a S
   refine lv S (Pt (kv:=(fun x=>Value.agg (Ff.enc x).toArray)) (vv:=Value.bool) (m:=x1) (key:=(Ff.mk y1.Race y1.Who)) (z:=false) (S.map_at (i:=1) rfl) underlying220 MJ zeroValue4 (S.tm rfl) (S.tm rfl)) rfl fun a S=>Ld ?_
   replace S:=(S.nl [.blk b3 (Du.enc y1) 111,.map b1 (Gn (fun x=>Value.agg (Ff.enc x).toArray) Value.bool x1) x1.length] [true,true] rfl).k7 0 3 5 17 18 19 29 rfl
   refine Tn (Fc h (S.tm rfl) (fun hb1 h=>?_) (fun hb1 h=>?_))
   ·refine Fr (Vk S rfl rfl fun a S=>Dl (wp_ret (Dy (Fq (Dy (Dy (Fq ?_)))))))
    refine Dy (Dy ?_)
    obtain rfl:=Option.some.inj h
    exact Eo S results124 rfl rfl
   ·refine wp_skip (Tn (Fg (Vm S rfl rfl fun a S=>Vf Wl S rfl rfl fun a S=>Vl isAgg9 0 S rfl rfl rfl rfl fun a S=>Vf Wm S rfl rfl fun a S=>Vl isAgg9 0 S rfl rfl rfl rfl fun a S=>lv S (Mj TN (pv:=[(0,sV y1.Race),(1,sV y1.Who)]) ⟨rfl,(S.tm rfl),rfl,(S.tm rfl),trivial⟩ (cs:=[sV y1.Race,sV y1.Who]) (by kernel_rfl)) rfl fun a S=>Ox (kv:=(fun x=>Value.agg (Ff.enc x).toArray)) (vv:=Value.bool) (m:=x1) (key:=(Ff.mk y1.Race y1.Who)) (val:=true) S (i:=1) rfl underlying220 MJ (S.tm rfl) (S.tm rfl) rfl ?_)));clear S;intro w6 hk4 S
    exact Ld (Ho (Tn (Fg (Vq S Gf rfl rfl rfl fun a S=>Vm S rfl rfl fun a S=>Dl (⟨ys1,⟨i1 + 1,(Gj x1 (Ff.mk y1.Race y1.Who) true),⟨_,(hd1).trans (List.append_cons _ _ _),by simp [hi1]⟩,h,S.nf [false,true] rfl ⟨rfl,rfl,rfl,rfl,(congrArg (fun z=>some (Value.int .i64 z)) (Hw hd1 hi1 (Jn Ae))),trivial⟩⟩,Nat.lt_succ_self _⟩)))))
 clear S h;rintro a w3 ⟨x1,h,S⟩;rw [hj1] at h;clear hj1 j1
 refine Tn (Fr (Vm S rfl rfl ?_));clear S;intro a S
 obtain ⟨r1,hr2,h⟩:=Fb h
 have hz3:=S.keep.size
 refine Ec S (fun _=>Dv (vs:=[Ac]) ⟨(S.tm rfl),trivial⟩ call107) (Zy _ (join (view w []) nov) (Nx (S.le_arg Ej) (S.le_new Ej)) Ac Ag (Ae.mono (le_join_left _ _)) _ hr2) rfl ?_;clear S;intro v1 a w7 hv1 hk5 hn1 S
 obtain ⟨φ1,hl1,hm2,S⟩:=S.see' hn1 hz3
 obtain ⟨rs1,ho2,hr3⟩:=hv1
 have hs1:=ho2.mono (Ty hl1 hm2)
 have hr4:=DU (Ty hl1 hm2) hr3
 refine Va S rfl rfl fun a S=>Dl (Fs (Fr (Vm S rfl rfl fun a S=>lv S (Fz Zo (S.tm rfl) (Tx hs1 hr4)) rfl fun a S=>lv S (Rm rfl) rfl fun a S=>Dl ?_)))
 replace S:=S.n0.k4 6 39 40 41 rfl
 obtain ⟨j2,hj2,h⟩:=Eu h
 refine En (fun a w'=>j2 = some r ∧ Sx w [] φ1 [] [(6,v1)] 122 a w') ?_ ?_
 ·refine wp_block (Hb (fun (ys2 : List (List Du)) a w'=>∃ i2 : Nat,(∃ dn,r1 = dn ++ ys2 ∧ dn.length = i2) ∧ Ka j2 ys2 i2 = some r ∧ Sx w [] φ1 [] [(6,v1),(39,v1),(40,iV (r1.length : Int)),(41,iV (i2 : Int))] 122 a w') List.length r1 ⟨0,⟨[],rfl,rfl⟩,h,S.nf [] rfl (subR rfl)⟩ ?_)
  clear S h;rintro ys2 a w8 ⟨i2,⟨dn,hd2,hi2⟩,h,S⟩
  cases ys2 with
  | nil =>
   rw [Ka.eq_1] at h
   refine Fr (Vb S Ex rfl rfl rfl fun a S=>Ld ?_)
   replace S:=S.k5 6 39 40 41 42 rfl
   exact Tn (Fs (wp_cond_false ((S.tm rfl).trans (congrArg Value.bool (Io hd2 hi2))) (wp_exit (Ei (Ei (Gp (Tn (⟨h,S.nf [] rfl ⟨rfl,trivial⟩⟩))))))))
  | cons y2 ys2 =>
   rw [Ka.eq_2] at h
   refine Fr (Vb S Ex rfl rfl rfl fun a S=>Ld ?_)
   replace S:=S.k5 6 39 40 41 42 rfl
   refine Tn (Fs (wp_cond_true ((S.tm rfl).trans (congrArg Value.bool (Hv hd2 hi2))) (wp_skip (Tn (Fs (wp_block (Fs (Fg ?_))))))))
   obtain ⟨r2,hg1,hl2⟩:=La.at hr4 (Iq hd2 hi2)
   have hs2:=hl2
   obtain ⟨b4,o2,hm3,hr5⟩:=Fd (a:=a) (x:=.tmp 39) (y:=.tmp 41) (ty:=0) Zo hs1 hg1 rfl (S.tm rfl) (S.tm rfl)
   refine lv S (hr5 _) rfl ?_;clear S;intro a S
   clear hr5
   refine lv S (Hp isAgg107 (off:=o2) (o:=0) (S.tm rfl) (hm3.at (Ux S.emb0 S.emb)) rfl) rfl fun a S=>Hz S zeroValue107 (cs:=[.slice none 0 0]) rfl rfl ?_;clear S;intro a w10 b5 hz4 hk6 S
   refine Fh S (S.tm rfl) (S.tm rfl) (i:=0) (off:=0) rfl sizeOf107 (vs:=[r2.val]) (Kk.cells (Fl hs2)) rfl rfl (Qn (Kk.one (Fl hs2)) rfl) ?_;clear S;intro w11 hk7 S
   refine Dz (Vl isAgg107 0 S rfl rfl rfl rfl fun a S=>lv S (Um (us:=#[]) (xs:=[].toArray) (ys:=[.tmp 8].toArray) (by simp) (evA ⟨(S.tm rfl),trivial⟩ (vs:=[.pointer (some ⟨b5,0,none⟩)]))) rfl ?_);clear S;intro a S
   obtain ⟨r3,hr6,h⟩:=Fb h
   refine Ec S (fun _=>Dv (vs:=[r2.val,.func (.func 149) #[] #[.pointer (some ⟨b5,0,none⟩)]]) ⟨(S.tm rfl),(S.tm rfl),trivial⟩ call148) (Qh _ r2.val y2 (hs2.mono (Nx (S.le_arg Ej) (S.le_new Ej))) b5 r2.val y2 (hs2.mono (Nx (S.le_arg Ej) (S.le_new Ej))) (S.blk_view (i:=0) rfl ((Hr (e':=.blk b5 [r2.val] 107)) _ rfl)) _ hr6) rfl ?_;clear S;intro v2 a w12 hv2 hk8 hn2 S
   subst hv2
   refine Dl (Fc h (S.tm rfl) (fun hb2 h=>?_) (fun hb2 h=>?_))
   ·refine Fr (Vk S rfl rfl fun a S=>Dl (wp_ret (Fq (Dy (Dy (Fq (Dy ?_)))))))
    refine Dy ?_
    obtain rfl:=Option.some.inj h
    exact Eo S results124 rfl rfl
   ·exact wp_skip (Ho (Tn (Fg (Vq S Gf rfl rfl rfl fun a S=>Vm S rfl rfl fun a S=>Dl (⟨ys2,⟨i2 + 1,⟨_,(hd2).trans (List.append_cons _ _ _),by simp [hi2]⟩,h,S.nf [false] rfl ⟨rfl,rfl,rfl,(congrArg (fun z=>some (Value.int .i64 z)) (Hw hd2 hi2 (Wj hs1 hr4))),trivial⟩⟩,Nat.lt_succ_self _⟩)))))
 clear S h;rintro a w9 ⟨h,S⟩;rw [hj2] at h;clear hj2 j2
 refine Tn (Fs (Fr (Vm S rfl rfl fun a S=>lv S (Fz Zo (S.tm rfl) (Tx hs1 hr4)) rfl fun a S=>lv S (Rm rfl) rfl fun a S=>Dl ?_)))
 replace S:=S.k4 6 49 50 51 rfl
 obtain ⟨j3,hj3,h⟩:=Eu h
 refine En (fun a w'=>j3 = some r ∧ Sx w [] φ1 [] [(6,v1)] 122 a w') ?_ ?_
 ·refine wp_block (Hb (fun (ys3 : List (List Du)) a w'=>∃ i3 : Nat,(∃ dn,r1 = dn ++ ys3 ∧ dn.length = i3) ∧ Jj j3 ys3 i3 = some r ∧ Sx w [] φ1 [] [(6,v1),(49,v1),(50,iV (r1.length : Int)),(51,iV (i3 : Int))] 122 a w') List.length r1 ⟨0,⟨[],rfl,rfl⟩,h,S.nf [] rfl (subR rfl)⟩ ?_)
  clear S h;rintro ys3 a w13 ⟨i3,⟨dn,hd3,hi3⟩,h,S⟩
  cases ys3 with
  | nil =>
   rw [Jj.eq_1] at h
   refine Fr (Vb S Ex rfl rfl rfl fun a S=>Ld ?_)
   replace S:=S.k5 6 49 50 51 52 rfl
   exact Tn (Fs (wp_cond_false ((S.tm rfl).trans (congrArg Value.bool (Io hd3 hi3))) (wp_exit (Ei (Ei (Gp (Tn (⟨h,S.nf [] rfl ⟨rfl,trivial⟩⟩))))))))
  | cons y3 ys3 =>
   rw [Jj.eq_2] at h
   refine Fr (Vb S Ex rfl rfl rfl fun a S=>Ld ?_)
   replace S:=S.k5 6 49 50 51 52 rfl
   refine Tn (Fs (wp_cond_true ((S.tm rfl).trans (congrArg Value.bool (Hv hd3 hi3))) (wp_skip (Tn (Fs (wp_block (Fs (Fg ?_))))))))
   obtain ⟨r4,hg2,hl3⟩:=La.at hr4 (Iq hd3 hi3)
   have hs3:=hl3
   obtain ⟨b6,o3,hm4,hr7⟩:=Fd (a:=a) (x:=.tmp 49) (y:=.tmp 51) (ty:=0) Zo hs1 hg2 rfl (S.tm rfl) (S.tm rfl)
   refine lv S (hr7 _) rfl ?_;clear S;intro a S
   clear hr7
   refine lv S (Hp isAgg107 (off:=o3) (o:=0) (S.tm rfl) (hm4.at (Ux S.emb0 S.emb)) rfl) rfl fun a S=>Va S rfl rfl fun a S=>Dz (Vm S rfl rfl fun a S=>lv S (Fz Nj (S.tm rfl) (Fl hs3)) rfl fun a S=>lv S (Rm rfl) rfl fun a S=>Dl ?_)
   replace S:=S.k8 6 10 49 50 51 55 56 57 rfl
   obtain ⟨j4,hj4,h⟩:=Eu h
   refine En (fun a w'=>j4 = some r ∧ Sx w [] φ1 [] [(6,v1),(49,v1),(50,iV (r1.length : Int)),(51,iV (i3 : Int))] 122 a w') ?_ ?_
   ·refine wp_block (Hb (fun (ys4 : List Du) a w'=>∃ i4 : Nat,(∃ dn,y3 = dn ++ ys4 ∧ dn.length = i4) ∧ Kt y3 j4 ys4 i4 = some r ∧ Sx w [] φ1 [] [(6,v1),(10,r4.val),(49,v1),(50,iV (r1.length : Int)),(51,iV (i3 : Int)),(55,r4.val),(56,iV (y3.length : Int)),(57,iV (i4 : Int))] 122 a w') List.length y3 ⟨0,⟨[],rfl,rfl⟩,h,S.nf [] rfl (subR rfl)⟩ ?_)
    clear S h;rintro ys4 a w15 ⟨i4,⟨dn,hd4,hi4⟩,h,S⟩
    cases ys4 with
    | nil =>
     rw [Kt.eq_1] at h
     refine Fr (Vb S Ex rfl rfl rfl fun a S=>Ld ?_)
     replace S:=S.k9 6 10 49 50 51 55 56 57 58 rfl
     exact Tn (Fs (wp_cond_false ((S.tm rfl).trans (congrArg Value.bool (Io hd4 hi4))) (wp_exit (Ei (Ei (Gp (Tn (⟨h,S.nf [] rfl (subR rfl)⟩))))))))
    | cons y4 ys4 =>
     rw [Kt.eq_2] at h
     refine Fr (Vb S Ex rfl rfl rfl fun a S=>Ld ?_)
     replace S:=S.k9 6 10 49 50 51 55 56 57 58 rfl
     refine Tn (Fs (wp_cond_true ((S.tm rfl).trans (congrArg Value.bool (Hv hd4 hi4))) (wp_skip (Tn (Fs (wp_block (Fr (Vm S rfl rfl ?_))))))));clear S;intro a S
     obtain ⟨b7,o4,hm5,hr8⟩:=Fd (a:=a) (x:=.tmp 55) (y:=.tmp 57) (ty:=0) Nj hs3 (Iq hd4 hi4) rfl (S.tm rfl) (S.tm rfl)
     refine lv S (hr8 _) rfl ?_;clear S;intro a S
     clear hr8
     refine lv S (Fx isAgg111 sizeOf111 (off:=o4) (o:=0) (part:=(Du.enc y4)) rfl rfl (S.tm rfl) (hm5.at (Ux S.emb0 S.emb))) rfl fun a S=>Hz S zeroValue111 (cs:=[sV An,sV An,sV An,iV 0,bV false]) rfl rfl ?_;clear S;intro a w17 b8 hz5 hk9 S
     refine Va S rfl rfl fun a S=>Fh S (S.tm rfl) (S.tm rfl) (i:=0) (off:=0) rfl sizeOf111 (vs:=(Du.enc y4)) rfl rfl rfl rfl ?_;clear S;intro w18 hk10 S
     refine Dl (Fs (Hd [] ([]) Tryz.mixed S rfl (by kernel_rfl) ?_));clear S;intro w19 hk11 hsel S
     refine Kz [0,1,2,3,4,5,6,7,8,9,10,11,12,13,14,15,16,17,18,19,20,21,22,23,24] hsel (by kernel_rfl) rfl ?_
     clear hsel
     refine Gk S rfl (Ge Nk (S.tm rfl)) rfl fun a S=>Gk S rfl (Mi isAgg3 (S.tm rfl) (S.cell (i:=0) rfl rfl)) rfl fun a S=>Gk S rfl (Jh (S.tm rfl) rfl) rfl fun a S=>Gk S rfl (Rm (S.tm rfl)) rfl fun a S=>Yl 6 (fun a w'=>Keep [] w19 w' ∧ Sx w [] φ1 [.blk b8 (Du.enc y4) 111] [(6,v1),(10,r4.val),(11,iV (i4 : Int)),(12,.pointer (some ⟨b8,0,none⟩)),(49,v1),(50,iV (r1.length : Int)),(51,iV (i3 : Int)),(55,r4.val),(56,iV (y3.length : Int)),(57,iV (i4 : Int)),(71,bV ((decide (0 < y4.Rank)) && (!decide (y4.Rank = (W ((i4 : Int) + 1))))))] 122 a w') ?_ ?_
     ·rcases Bool.eq_false_or_eq_true (decide (0 < y4.Rank)) with hb3 | hb3
      ·refine Fm S rfl rfl rfl rfl hb3 (Gv S (Ge Nk (S.tm rfl)) rfl fun a S=>Fm S rfl rfl rfl rfl hb3 (Gv S (Mi isAgg3 (S.tm rfl) (S.cell (i:=0) rfl rfl)) rfl fun a S=>Fm S rfl rfl rfl rfl hb3 (Gv S (Rm (S.tm rfl)) rfl fun a S=>Fm S rfl rfl rfl rfl hb3 (Gv S (Gf (S.tm rfl) rfl) rfl fun a S=>Fm S rfl rfl rfl rfl hb3 (Gv S (Ky (S.tm rfl) (S.tm rfl)) rfl fun a S=>Gk S rfl (Hm hb3 (S.tm rfl) (S.tm rfl)) rfl ?_)))));clear S;intro a S
       exact Ig (⟨Keep.refl _ _,S.nf [true] rfl (subR rfl)⟩)
      ·iterate 5 (refine Qe S rfl rfl rfl rfl (Jq hb3) rfl ?_ rfl;clear S;intro a S)
       exact Gk S rfl (Hn (!decide (y4.Rank = (W ((i4 : Int) + 1)))) hb3 (S.tm rfl) rfl) rfl fun a S=>Ig (⟨Keep.refl _ _,S.nf [true] rfl (subR rfl)⟩)
     clear S;rintro a w20 ⟨hk12,S⟩
     refine Gk S rfl (Rm (S.tm rfl)) rfl ?_;clear S;intro a S
     obtain ⟨j5,hj5,h⟩:=Eu h
     refine Yl 14 (fun a w'=>∃ c1,j5 c1 = some r ∧ Keep [] w20 w' ∧ Sx w [] φ1 [.blk b8 (Du.enc y4) 111] [(6,v1),(10,r4.val),(49,v1),(50,iV (r1.length : Int)),(51,iV (i3 : Int)),(55,r4.val),(56,iV (y3.length : Int)),(57,iV (i4 : Int)),(86,bV c1)] 122 a w') ?_ ?_
     ·rcases Bool.eq_false_or_eq_true ((decide (0 < y4.Rank)) && (!decide (y4.Rank = (W ((i4 : Int) + 1))))) with hb4 | hb4
      ·replace h:=Qw h hb4
       refine Fm S rfl rfl rfl rfl hb4 (Gv S (Rm (S.tm rfl)) rfl fun a S=>Fm S rfl rfl rfl rfl hb4 (Gv S (Im (S.tm rfl) rfl) rfl fun a S=>Fm S rfl rfl rfl rfl hb4 (Gv S (Rm (S.tm rfl)) rfl ?_)));clear S;intro a S
       obtain ⟨j6,hj6,h⟩:=Eu h
       refine Yl 10 (fun a w'=>∃ c2,j6 c2 = some r ∧ Keep [] w20 w' ∧ Sx w [] φ1 [.blk b8 (Du.enc y4) 111] [(6,v1),(10,r4.val),(49,v1),(50,iV (r1.length : Int)),(51,iV (i3 : Int)),(55,r4.val),(56,iV (y3.length : Int)),(57,iV (i4 : Int)),(72,bV ((decide (0 < y4.Rank)) && (!decide (y4.Rank = (W ((i4 : Int) + 1)))))),(73,iV (i4 : Int)),(74,bV (decide ((i4 : Int) = 0))),(75,bV (decide ((i4 : Int) = 0))),(85,bV c2)] 122 a w') ?_ ?_
       ·rcases Bool.eq_false_or_eq_true (decide ((i4 : Int) = 0)) with hb5 | hb5
        ·replace h:=Qw h hb5
         iterate 9 (refine Qe S rfl rfl rfl rfl (Mh hb5) rfl ?_ rfl;clear S;intro a S)
         exact Fm S rfl rfl rfl rfl hb4 (Gv S (Kh true hb5 (S.tm rfl) rfl) rfl fun a S=>Ig (⟨_,h,Keep.refl _ _,S.nf [true] rfl (subR rfl)⟩))
        ·replace h:=Qx h hb5
         refine Fm S rfl rfl rfl rfl hb5 (Gv S (Ge Nk (S.tm rfl)) rfl fun a S=>Fm S rfl rfl rfl rfl hb5 (Gv S (Mi isAgg3 (S.tm rfl) (S.cell (i:=0) rfl rfl)) rfl fun a S=>Fm S rfl rfl rfl rfl hb5 (Gv S (Rm (S.tm rfl)) rfl fun a S=>Fm S rfl rfl rfl rfl hb5 (Gv S (Rm (S.tm rfl)) rfl fun a S=>Fm S rfl rfl rfl rfl hb5 (Gv S (Ja (S.tm rfl) rfl) rfl fun a S=>Fm S rfl rfl rfl rfl hb5 ?_)))))
         obtain ⟨hc1,h⟩:=Ia h
         obtain ⟨b9,o5,hm6,hr9⟩:=Fd (a:=a) (x:=.tmp 78) (y:=.tmp 80) (ty:=0) Nj hs3 (Ed hc1).1 (Ed hc1).2 (S.tm rfl) (S.tm rfl)
         refine Gv S (hr9 _) rfl ?_;clear S;intro a S
         clear hr9
         exact Fm S rfl rfl rfl rfl hb5 (Gv S (Ge Nk (S.tm rfl)) rfl fun a S=>Fm S rfl rfl rfl rfl hb5 (Gv S (Hp isAgg3 (off:=o5) (o:=3) (S.tm rfl) (hm6.at (Ux S.emb0 S.emb)) rfl) rfl fun a S=>Fm S rfl rfl rfl rfl hb5 (Gv S (Ky (S.tm rfl) (S.tm rfl)) rfl fun a S=>Fm S rfl rfl rfl rfl hb4 (Gv S (Ki hb5 (S.tm rfl) (S.tm rfl)) rfl fun a S=>Ig (⟨_,h,Keep.refl _ _,S.nf [true] rfl (subR rfl)⟩)))))
       clear S h;rintro a w22 ⟨c2,h,hk13,S⟩;rw [hj6] at h;clear hj6 j6
       exact Gk S rfl (Hm hb4 (S.tm rfl) (S.tm rfl)) rfl fun a S=>Ig (⟨_,h,hk13,S.nf [true] rfl (subR rfl)⟩)
      ·replace h:=Qx h hb4
       iterate 3 (refine Qe S rfl rfl rfl rfl (Jq hb4) rfl ?_ rfl;clear S;intro a S)
       iterate 9 (refine s_skipU S rfl rfl rfl rfl rfl ?_;clear S;intro a S)
       exact Qe S rfl rfl rfl rfl (Jq hb4) rfl (fun a S=>Gk S rfl (Hn true hb4 (S.tm rfl) rfl) rfl fun a S=>Ig (⟨_,h,Keep.refl _ _,S.nf [true] rfl (subR rfl)⟩)) rfl
     clear S h;rintro a w21 ⟨c1,h,hk14,S⟩;rw [hj5] at h;clear hj5 j5
     refine Ig ?_
     replace S:=S.n0.k9 6 10 49 50 51 55 56 57 86 rfl
     refine Tn (Fc h (S.tm rfl) (fun hb6 h=>?_) (fun hb6 h=>?_))
     ·refine Fr (Vk S rfl rfl fun a S=>Dl (wp_ret (Fq (Dy (Dy (Fq (Dy ?_)))))))
      refine Fq (Dy (Dy (Fq (Dy (Dy ?_)))))
      obtain rfl:=Option.some.inj h
      exact Eo S results124 rfl rfl
     ·exact wp_skip (Ho (Tn (Fg (Vq S Gf rfl rfl rfl fun a S=>Vm S rfl rfl fun a S=>Dl (⟨ys4,⟨i4 + 1,⟨_,(hd4).trans (List.append_cons _ _ _),by simp [hi4]⟩,h,S.nf [] rfl ⟨rfl,rfl,rfl,rfl,rfl,rfl,rfl,(congrArg (fun z=>some (Value.int .i64 z)) (Hw hd4 hi4 (Jn hs3))),trivial⟩⟩,Nat.lt_succ_self _⟩)))))
   clear S h;rintro a w16 ⟨h,S⟩;rw [hj4] at h;clear hj4 j4
   exact Ho (Tn (Fg (Vq S Gf rfl rfl rfl fun a S=>Vm S rfl rfl fun a S=>Dl (⟨ys3,⟨i3 + 1,⟨_,(hd3).trans (List.append_cons _ _ _),by simp [hi3]⟩,h,S.nf [] rfl ⟨rfl,rfl,rfl,(congrArg (fun z=>some (Value.int .i64 z)) (Hw hd3 hi3 (Wj hs1 hr4))),trivial⟩⟩,Nat.lt_succ_self _⟩))))
 clear S h;rintro a w14 ⟨h,S⟩;rw [hj3] at h;clear hj3 j3
 refine Tn (Fs (Fr (Vm S rfl rfl fun a S=>lv S (Fz Zo (S.tm rfl) (Tx hs1 hr4)) rfl fun a S=>lv S (Rm rfl) rfl fun a S=>Dl ?_)))
 replace S:=S.k3 89 90 91 rfl
 obtain ⟨j7,hj7,h⟩:=Eu h
 refine En (fun a w'=>j7 = some r ∧ Sx w [] φ1 [] [] 122 a w') ?_ ?_
 ·refine wp_block (Hb (fun (ys5 : List (List Du)) a w'=>∃ i5 : Nat,(∃ dn,r1 = dn ++ ys5 ∧ dn.length = i5) ∧ Kb j7 ys5 i5 = some r ∧ Sx w [] φ1 [] [(89,v1),(90,iV (r1.length : Int)),(91,iV (i5 : Int))] 122 a w') List.length r1 ⟨0,⟨[],rfl,rfl⟩,h,S.nf [] rfl (subR rfl)⟩ ?_)
  clear S h;rintro ys5 a w23 ⟨i5,⟨dn,hd5,hi5⟩,h,S⟩
  cases ys5 with
  | nil =>
   rw [Kb.eq_1] at h
   refine Fr (Vb S Ex rfl rfl rfl fun a S=>Ld ?_)
   replace S:=S.k4 89 90 91 92 rfl
   exact Tn (Fs (wp_cond_false ((S.tm rfl).trans (congrArg Value.bool (Io hd5 hi5))) (wp_exit (Ei (Ei (Gp (Tn (⟨h,S.nf [] rfl trivial⟩))))))))
  | cons y5 ys5 =>
   rw [Kb.eq_2] at h
   refine Fr (Vb S Ex rfl rfl rfl fun a S=>Ld ?_)
   replace S:=S.k4 89 90 91 92 rfl
   refine Tn (Fs (wp_cond_true ((S.tm rfl).trans (congrArg Value.bool (Hv hd5 hi5))) (wp_skip (Tn (Fs (wp_block (Fs (Fg ?_))))))))
   obtain ⟨r5,hg3,hl4⟩:=La.at hr4 (Iq hd5 hi5)
   have hs4:=hl4
   obtain ⟨b10,o6,hm7,hr10⟩:=Fd (a:=a) (x:=.tmp 89) (y:=.tmp 91) (ty:=0) Zo hs1 hg3 rfl (S.tm rfl) (S.tm rfl)
   refine lv S (hr10 _) rfl ?_;clear S;intro a S
   clear hr10
   refine lv S (Hp isAgg107 (off:=o6) (o:=0) (S.tm rfl) (hm7.at (Ux S.emb0 S.emb)) rfl) rfl fun a S=>Va S rfl rfl fun a S=>Dz (Vk S rfl rfl fun a S=>Dl ?_)
   replace S:=S.k5 14 15 89 90 91 rfl
   obtain ⟨j8,hj8,h⟩:=Eu h
   refine En (fun a w'=>j8 = some r ∧ Sx w [] φ1 [] [(89,v1),(90,iV (r1.length : Int)),(91,iV (i5 : Int))] 122 a w') ?_ ?_
   ·refine wp_block (Hb (fun (m1 : Nat) a w'=>∃ x2 : Int,Lt y5 j8 m1 x2 = some r ∧ Sx w [] φ1 [] [(14,r5.val),(15,iV x2),(89,v1),(90,iV (r1.length : Int)),(91,iV (i5 : Int))] 122 a w') id (((y5.length : Int) - 10).toNat + 2) ⟨10,h,S.nf [] rfl (subR rfl)⟩ ?_)
    clear S h;rintro m1 a w25 ⟨x2,h,S⟩
    cases m1 with
    | zero=>rw [Lt.eq_1] at h;cases h
    | succ m1 =>
     rw [Lt.eq_2] at h
     refine Fs (Fr (Vm S rfl rfl fun a S=>Vm S rfl rfl fun a S=>lv S (Fz Nj (S.tm rfl) (Fl hs4)) rfl fun a S=>Vb S Ex rfl rfl rfl fun a S=>Dl (Fc h (S.tm rfl) (fun hb7 h=>?_) (fun hb7 h=>?_))))
     ·refine wp_skip (Tn (Fs (wp_block (Fs (Hd [] ([]) Tryz.mixed S rfl (by kernel_rfl) ?_)))));clear S;intro w27 hk15 hsel S
      refine Kz [0,1,2,3,4,5,6,7,8,9,10,11,12,13,14,15,16,17,18,19] hsel (by kernel_rfl) rfl ?_
      clear hsel
      refine Gk S rfl (Rm (S.tm rfl)) rfl fun a S=>Gk S rfl (Rm (S.tm rfl)) rfl ?_;clear S;intro a S
      obtain ⟨hc2,h⟩:=Ia h
      obtain ⟨b11,o7,hm8,hr11⟩:=Fd (a:=a) (x:=.tmp 101) (y:=.tmp 102) (ty:=0) Nj hs4 (Ed hc2).1 (Ed hc2).2 (S.tm rfl) (S.tm rfl)
      refine Gk S rfl (hr11 _) rfl ?_;clear S;intro a S
      clear hr11
      refine Gk S rfl (Ge Nk (S.tm rfl)) rfl fun a S=>Gk S rfl (Hp isAgg3 (off:=o7) (o:=3) (S.tm rfl) (hm8.at (Ux S.emb0 S.emb)) rfl) rfl fun a S=>Gk S rfl (Jh (S.tm rfl) rfl) rfl fun a S=>Gk S rfl (Rm (S.tm rfl)) rfl ?_;clear S;intro a S
      obtain ⟨j9,hj9,h⟩:=Eu h
      refine Yl 13 (fun a w'=>∃ c3,j9 c3 = some r ∧ Keep [] w27 w' ∧ Sx w [] φ1 [] [(14,r5.val),(15,iV x2),(89,v1),(90,iV (r1.length : Int)),(91,iV (i5 : Int)),(120,bV c3)] 122 a w') ?_ ?_
      ·rcases Bool.eq_false_or_eq_true (decide (0 < ((nth y5 x2).Rank))) with hb8 | hb8
       ·replace h:=Qw h hb8
        refine Fm S rfl rfl rfl rfl hb8 (Gv S (Rm (S.tm rfl)) rfl fun a S=>Fm S rfl rfl rfl rfl hb8 (Gv S (Rm (S.tm rfl)) rfl fun a S=>Fm S rfl rfl rfl rfl hb8 ?_))
        obtain ⟨hc3,h⟩:=Ia h
        obtain ⟨b12,o8,hm9,hr12⟩:=Fd (a:=a) (x:=.tmp 108) (y:=.tmp 109) (ty:=0) Nj hs4 (Ed hc3).1 (Ed hc3).2 (S.tm rfl) (S.tm rfl)
        refine Gv S (hr12 _) rfl ?_;clear S;intro a S
        clear hr12
        refine Fm S rfl rfl rfl rfl hb8 (Gv S (Ge Nk (S.tm rfl)) rfl fun a S=>Fm S rfl rfl rfl rfl hb8 (Gv S (Hp isAgg3 (off:=o8) (o:=3) (S.tm rfl) (hm9.at (Ux S.emb0 S.emb)) rfl) rfl fun a S=>Fm S rfl rfl rfl rfl hb8 (Gv S (Rm (S.tm rfl)) rfl fun a S=>Fm S rfl rfl rfl rfl hb8 (Gv S (Rm (S.tm rfl)) rfl fun a S=>Fm S rfl rfl rfl rfl hb8 (Gv S (Ja (S.tm rfl) rfl) rfl fun a S=>Fm S rfl rfl rfl rfl hb8 ?_)))))
        obtain ⟨hc4,h⟩:=Ia h
        obtain ⟨b13,o9,hm10,hr13⟩:=Fd (a:=a) (x:=.tmp 113) (y:=.tmp 115) (ty:=0) Nj hs4 (Ed hc4).1 (Ed hc4).2 (S.tm rfl) (S.tm rfl)
        refine Gv S (hr13 _) rfl ?_;clear S;intro a S
        clear hr13
        exact Fm S rfl rfl rfl rfl hb8 (Gv S (Ge Nk (S.tm rfl)) rfl fun a S=>Fm S rfl rfl rfl rfl hb8 (Gv S (Hp isAgg3 (off:=o9) (o:=3) (S.tm rfl) (hm10.at (Ux S.emb0 S.emb)) rfl) rfl fun a S=>Fm S rfl rfl rfl rfl hb8 (Gv S (Im (S.tm rfl) (S.tm rfl)) rfl fun a S=>Gk S rfl (Hm hb8 (S.tm rfl) (S.tm rfl)) rfl fun a S=>Ig (⟨_,h,Keep.refl _ _,S.nf [] rfl (subR rfl)⟩))))
       ·replace h:=Qx h hb8
        iterate 12 (refine Qe S rfl rfl rfl rfl (Jq hb8) rfl ?_ rfl;clear S;intro a S)
        exact Gk S rfl (Hn true hb8 (S.tm rfl) rfl) rfl fun a S=>Ig (⟨_,h,Keep.refl _ _,S.nf [] rfl (subR rfl)⟩)
      clear S h;rintro a w28 ⟨c3,h,hk16,S⟩;rw [hj9] at h;clear hj9 j9
      refine Ig ?_
      replace S:=S.k6 14 15 89 90 91 120 rfl
      refine Tn (Fc h (S.tm rfl) (fun hb9 h=>?_) (fun hb9 h=>?_))
      ·refine Fr (Vk S rfl rfl fun a S=>Dl (wp_ret (Fq (Dy (Dy (Fq (Dy ?_)))))))
       refine Fq (Dy (Dy (Fq (Dy (Dy ?_)))))
       obtain rfl:=Option.some.inj h
       exact Eo S results124 rfl rfl
      ·exact wp_skip (Ho (Tn (Fg (Vm S rfl rfl fun a S=>Vq S Gf rfl rfl rfl fun a S=>Va S rfl rfl fun a S=>Dl (⟨m1,⟨W (x2 + 1),h,S.nf [] rfl ⟨rfl,rfl,rfl,rfl,rfl,trivial⟩⟩,Nat.lt_succ_self _⟩)))))
     ·exact wp_exit (Ei (Ei (Gp (Tn (⟨h,S.nf [] rfl (subR rfl)⟩)))))
   clear S h;rintro a w26 ⟨h,S⟩;rw [hj8] at h;clear hj8 j8
   exact Ho (Tn (Fg (Vq S Gf rfl rfl rfl fun a S=>Vm S rfl rfl fun a S=>Dl (⟨ys5,⟨i5 + 1,⟨_,(hd5).trans (List.append_cons _ _ _),by simp [hi5]⟩,h,S.nf [] rfl ⟨rfl,rfl,(congrArg (fun z=>some (Value.int .i64 z)) (Hw hd5 hi5 (Wj hs1 hr4))),trivial⟩⟩,Nat.lt_succ_self _⟩))))
 clear S h;rintro a w24 ⟨h,S⟩;rw [hj7] at h;clear hj7 j7
 refine Tn (Fr (Vk S rfl rfl fun a S=>Dl (wp_ret ?_)))
 obtain rfl:=Option.some.inj h
 exact Eo S results124 rfl rfl
set_option maxRecDepth 20000 in
theorem AG (w : World) (Ac : Value) (Ag : List Du) (Ae : Slc (view w []) 5 Ac (Ag.map Du.enc)) (r : Int) (h : Py Ag = some r) :
    Calls prog 106 [Ac].toArray w (Ret w [] fun _ v _=>v = iV r):=by
 refine Fe func106 rfl ntmps106 rfl fun a S=>?_
 unfold Py at h
 replace S:=S.k1 0 rfl
 refine Fr (Vk S rfl rfl fun a S=>Dl (Fs (Fr (Vm S rfl rfl fun a S=>lv S (Fz Nj (S.tm rfl) (Fl Ae)) rfl fun a S=>Vq S Jh rfl rfl rfl ?_))));clear S;intro a S
 refine Dl (Fc h (S.tm rfl) (fun hb1 h=>?_) (fun hb1 h=>?_))
 ·refine Fr (Vk S rfl rfl fun a S=>Dl (wp_ret (Dy ?_)))
  obtain rfl:=Option.some.inj h
  exact Eo S results106 rfl rfl
 ·refine wp_skip (Tn (Fs (Fr (Vm S rfl rfl fun a S=>lv S (Fz Nj (S.tm rfl) (Fl Ae)) rfl fun a S=>lv S (Rm rfl) rfl fun a S=>Dl ?_))))
  replace S:=S.k4 0 8 9 10 rfl
  obtain ⟨j1,hj1,h⟩:=Eu h
  refine En (fun a w'=>j1 = some r ∧ Sx w [] nov [] [(0,Ac)] 58 a w') ?_ ?_
  ·refine wp_block (Hb (fun (ys1 : List Du) a w'=>∃ i1 : Nat,(∃ dn,Ag = dn ++ ys1 ∧ dn.length = i1) ∧ Jg Ag j1 ys1 i1 = some r ∧ Sx w [] nov [] [(0,Ac),(8,Ac),(9,iV (Ag.length : Int)),(10,iV (i1 : Int))] 58 a w') List.length Ag ⟨0,⟨[],rfl,rfl⟩,h,S.nf [] rfl (subR rfl)⟩ ?_)
   clear S h;rintro ys1 a w1 ⟨i1,⟨dn,hd1,hi1⟩,h,S⟩
   cases ys1 with
   | nil =>
    rw [Jg.eq_1] at h
    refine Fr (Vb S Ex rfl rfl rfl fun a S=>Ld ?_)
    replace S:=S.k5 0 8 9 10 11 rfl
    exact Tn (Fs (wp_cond_false ((S.tm rfl).trans (congrArg Value.bool (Io hd1 hi1))) (wp_exit (Ei (Ei (Gp (Tn (⟨h,S.nf [] rfl ⟨rfl,trivial⟩⟩))))))))
   | cons y1 ys1 =>
    rw [Jg.eq_2] at h
    refine Fr (Vb S Ex rfl rfl rfl fun a S=>Ld ?_)
    replace S:=S.k5 0 8 9 10 11 rfl
    refine Tn (Fs (wp_cond_true ((S.tm rfl).trans (congrArg Value.bool (Hv hd1 hi1))) (wp_skip (Tn (Fs (wp_block (Fr (Vm S rfl rfl ?_))))))));clear S;intro a S
    obtain ⟨b1,o1,hm1,hr1⟩:=Fd (a:=a) (x:=.tmp 8) (y:=.tmp 10) (ty:=0) Nj Ae (Iq hd1 hi1) rfl (S.tm rfl) (S.tm rfl)
    refine lv S (hr1 _) rfl ?_;clear S;intro a S
    clear hr1
    refine lv S (Fx isAgg111 sizeOf111 (off:=o1) (o:=0) (part:=(Du.enc y1)) rfl rfl (S.tm rfl) (hm1.at S.emb0)) rfl fun a S=>Hz S zeroValue111 (cs:=[sV An,sV An,sV An,iV 0,bV false]) rfl rfl ?_;clear S;intro a w3 b2 hz1 hk1 S
    refine Va S rfl rfl fun a S=>Fh S (S.tm rfl) (S.tm rfl) (i:=0) (off:=0) rfl sizeOf111 (vs:=(Du.enc y1)) rfl rfl rfl rfl ?_;clear S;intro w4 hk2 S
    refine Dl (wp_block (Fr (Vf Wl S rfl rfl fun a S=>Vl isAgg9 0 S rfl rfl rfl rfl ?_)));clear S;intro a S
    obtain ⟨r1,hr2,h⟩:=Fb h
    refine Ec S (fun _=>Dv (vs:=[sV y1.Race]) ⟨(S.tm rfl),trivial⟩ call89) (Ie _ y1.Race _ hr2) rfl ?_;clear S;intro v1 a w5 hv1 hk3 hn1 S
    subst hv1
    refine Vu S Hh rfl rfl fun a S=>Vm S rfl rfl ?_;clear S;intro a S
    obtain ⟨j2,hj2,h⟩:=Eu h
    refine Hj 5 (fun a w'=>∃ c1,j2 c1 = some r ∧ Keep [] w5 w' ∧ Sx w [] nov [.blk b2 (Du.enc y1) 111] [(0,Ac),(3,iV (i1 : Int)),(4,.pointer (some ⟨b2,0,none⟩)),(8,Ac),(9,iV (Ag.length : Int)),(10,iV (i1 : Int)),(25,bV c1)] 58 a w') ?_ ?_
    ·rcases Bool.eq_false_or_eq_true (!r1) with hb2 | hb2
     ·replace h:=Qw h hb2
      iterate 4 (refine Gt S rfl rfl rfl (Mh hb2) rfl ?_ rfl;clear S;intro a S)
      exact Vq S (Kh true hb2) rfl rfl rfl fun a S=>Dl (⟨_,h,Keep.refl _ _,S.nf [true] rfl (subR rfl)⟩)
     ·replace h:=Qx h hb2
      refine Ea S rfl rfl rfl hb2 (Vf Wm S rfl rfl fun a S=>Ea S rfl rfl rfl hb2 (Vl isAgg9 0 S rfl rfl rfl rfl fun a S=>Ea S rfl rfl rfl hb2 ?_))
      obtain ⟨r2,hr3,h⟩:=Fb h
      refine Ec S (fun _=>Dv (vs:=[sV y1.Who]) ⟨(S.tm rfl),trivial⟩ call89) (Ie _ y1.Who _ hr3) rfl ?_;clear S;intro v2 a w7 hv2 hk4 hn2 S
      subst hv2
      exact Ea S rfl rfl rfl hb2 (Vu S Hh rfl rfl fun a S=>lv S (Ki hb2 (S.tm rfl) (S.tm rfl)) rfl fun a S=>Dl (⟨_,h,hk4,S.nf [true] rfl (subR rfl)⟩))
    clear S h;rintro a w6 ⟨c1,h,hk5,S⟩;rw [hj2] at h;clear hj2 j2
    refine Vm S rfl rfl ?_;clear S;intro a S
    obtain ⟨j3,hj3,h⟩:=Eu h
    refine Hj 10 (fun a w'=>∃ c2,j3 c2 = some r ∧ Keep [] w6 w' ∧ Sx w [] nov [.blk b2 (Du.enc y1) 111] [(0,Ac),(3,iV (i1 : Int)),(4,.pointer (some ⟨b2,0,none⟩)),(8,Ac),(9,iV (Ag.length : Int)),(10,iV (i1 : Int)),(36,bV c2)] 58 a w') ?_ ?_
    ·rcases Bool.eq_false_or_eq_true c1 with hb3 | hb3
     ·replace h:=Qw h hb3
      iterate 4 (refine Gt S rfl rfl rfl (Mh hb3) rfl ?_ rfl;clear S;intro a S)
      iterate 4 (refine Zg S rfl rfl rfl rfl ?_;clear S;intro a S)
      exact Gt S rfl rfl rfl (Mh hb3) rfl (fun a S=>Vq S (Kh true hb3) rfl rfl rfl fun a S=>Dl (⟨_,h,Keep.refl _ _,S.nf [true] rfl (subR rfl)⟩)) rfl
     ·replace h:=Qx h hb3
      refine Ea S rfl rfl rfl hb3 (Vf AW S rfl rfl fun a S=>Ea S rfl rfl rfl hb3 (Vl isAgg9 0 S rfl rfl rfl rfl fun a S=>Ea S rfl rfl rfl hb3 (Vq S BM rfl rfl rfl fun a S=>Ea S rfl rfl rfl hb3 (Vm S rfl rfl ?_))));clear S;intro a S
      obtain ⟨j4,hj4,h⟩:=Eu h
      refine Hj 5 (fun a w'=>∃ c3,j4 c3 = some r ∧ Keep [] w6 w' ∧ Sx w [] nov [.blk b2 (Du.enc y1) 111] [(0,Ac),(3,iV (i1 : Int)),(4,.pointer (some ⟨b2,0,none⟩)),(8,Ac),(9,iV (Ag.length : Int)),(10,iV (i1 : Int)),(26,bV c1),(27,.pointer (some ⟨b2,2,none⟩)),(28,sV y1.Club),(29,bV (!decide (y1.Club = An))),(30,bV (!decide (y1.Club = An))),(35,bV c3)] 58 a w') ?_ ?_
      ·rcases Bool.eq_false_or_eq_true (!decide (y1.Club = An)) with hb4 | hb4
       ·replace h:=Qw h hb4
        refine Ea S rfl rfl rfl hb4 (Vf AW S rfl rfl fun a S=>Ea S rfl rfl rfl hb4 (Vl isAgg9 0 S rfl rfl rfl rfl fun a S=>Ea S rfl rfl rfl hb4 ?_))
        obtain ⟨r3,hr4,h⟩:=Fb h
        refine Ec S (fun _=>Dv (vs:=[sV y1.Club]) ⟨(S.tm rfl),trivial⟩ call89) (Ie _ y1.Club _ hr4) rfl ?_;clear S;intro v3 a w10 hv3 hk6 hn3 S
        subst hv3
        exact Ea S rfl rfl rfl hb4 (Vu S Hh rfl rfl fun a S=>Ea S rfl rfl rfl hb3 (lv S (Hm hb4 (S.tm rfl) (S.tm rfl)) rfl fun a S=>Dl (⟨_,h,hk6,S.nf [true] rfl (subR rfl)⟩)))
       ·replace h:=Qx h hb4
        iterate 4 (refine Gt S rfl rfl rfl (Jq hb4) rfl ?_ rfl;clear S;intro a S)
        exact Ea S rfl rfl rfl hb3 (Vq S (Hn true hb4) rfl rfl rfl fun a S=>Dl (⟨_,h,Keep.refl _ _,S.nf [true] rfl (subR rfl)⟩))
      clear S h;rintro a w9 ⟨c3,h,hk7,S⟩;rw [hj4] at h;clear hj4 j4
      exact lv S (Ki hb3 (S.tm rfl) (S.tm rfl)) rfl fun a S=>Dl (⟨_,h,hk7,S.nf [true] rfl (subR rfl)⟩)
    clear S h;rintro a w8 ⟨c2,h,hk8,S⟩;rw [hj3] at h;clear hj3 j3
    refine Va S rfl rfl fun a S=>Dl (Fc h (S.tm rfl) (fun hb5 h=>?_) (fun hb5 h=>?_))
    ·refine Fr (Vk S rfl rfl fun a S=>Dl (wp_ret (Fq (Fq (Dy (Dy (Fq ?_)))))))
     refine Dy (Dy ?_)
     obtain rfl:=Option.some.inj h
     exact Eo S results106 rfl rfl
    ·refine Fr (Vf Nk S rfl rfl fun a S=>Vl isAgg3 0 S rfl rfl rfl rfl fun a S=>Ec S (fun _=>Dv (vs:=[iV y1.Rank,iV 0,iV 300]) ⟨(S.tm rfl),rfl,rfl,trivial⟩ call48) (Fk _ y1.Rank 0 300 _ rfl) rfl ?_);clear S;intro v4 a w11 hv4 hk9 hn4 S
     subst hv4
     refine Vu S Hh rfl rfl fun a S=>Va S rfl rfl fun a S=>Dl (Fc h (S.tm rfl) (fun hb6 h=>?_) (fun hb6 h=>?_))
     ·refine Fr (Vk S rfl rfl fun a S=>Dl (wp_ret (Fq (Fq (Dy (Dy (Fq ?_)))))))
      refine Dy (Dy ?_)
      obtain rfl:=Option.some.inj h
      exact Eo S results106 rfl rfl
     ·refine Fs ?_
      obtain ⟨j5,hj5,h⟩:=Eu h
      refine En (fun a w'=>∃ x1 : Bool,j5 x1 = some r ∧ Sx w [] nov [] [(0,Ac),(8,Ac),(9,iV (Ag.length : Int)),(10,iV (i1 : Int)),(42,bV x1)] 58 a w') ?_ ?_
      ·rcases Bool.eq_false_or_eq_true (decide (0 < (i1 : Int))) with hb7 | hb7
       ·replace h:=Qw h hb7
        obtain ⟨hc1,h⟩:=Ia h
        refine Hd [] ([]) Tryz.mixed S rfl (by kernel_rfl) ?_;clear S;intro w14 hk11 hsel S
        refine Ef 0 S hsel rfl rfl rfl (by kernel_rfl) (by kernel_rfl) rfl (fun _ hw=>(Rm (S.tm rfl))) fun a S=>Ef 1 S hsel rfl rfl rfl (by kernel_rfl) (by kernel_rfl) rfl (fun _ hw=>(Jh (S.tm rfl) rfl)) fun a S=>Ef 2 S hsel rfl rfl rfl (by kernel_rfl) (by kernel_rfl) rfl (fun _ hw=>(Rm (S.tm rfl))) fun a S=>Ev 3 S hsel rfl rfl rfl rfl hb7 rfl rfl (by kernel_rfl) (by kernel_rfl) rfl (fun _ hw=>(Rm (S.tm rfl))) fun a S=>Ev 4 S hsel rfl rfl rfl rfl hb7 rfl rfl (by kernel_rfl) (by kernel_rfl) rfl (fun _ hw=>(Rm (S.tm rfl))) fun a S=>Ev 5 S hsel rfl rfl rfl rfl hb7 rfl rfl (by kernel_rfl) (by kernel_rfl) rfl (fun _ hw=>(Ja (S.tm rfl) rfl)) ?_;clear S;intro a S
        obtain ⟨b4,o3,hm3,hr6⟩:=Fd (a:=a) (x:=.tmp 46) (y:=.tmp 48) (ty:=0) Nj (Ae.mono (S.le_arg Ej)) (Ed hc1).1 (Ed hc1).2 (S.tm rfl) (S.tm rfl)
        refine Ev 6 S hsel rfl rfl rfl rfl hb7 rfl rfl (by kernel_rfl) (by kernel_rfl) rfl (fun _ hw=>hr6 _) ?_;clear S;intro a S
        clear hr6
        refine Ev 7 S hsel rfl rfl rfl rfl hb7 rfl rfl (by kernel_rfl) (by kernel_rfl) rfl (fun _ hw=>(Fx isAgg111 sizeOf111 (off:=o3) (o:=0) (part:=(Du.enc (nth Ag (W ((i1 : Int) - 1))))) rfl rfl (S.tm rfl) (hm3.kept hw))) fun a S=>Ev 8 S hsel rfl rfl rfl rfl hb7 rfl rfl (by kernel_rfl) (by kernel_rfl) rfl (fun _ hw=>(Fx isAgg111 sizeOf111 (off:=0) (o:=0) (part:=(Du.enc y1)) rfl rfl (S.tm rfl) ((S.blk_mem (i:=0) (cells:=(Du.enc y1)) (b:=b2) (T:=111) rfl (Hr (e':=.blk b2 (Du.enc y1) 111))).kept hw))) fun a S=>Gw 9 (by kernel_rfl) rfl (Ea S rfl rfl rfl hb7 (Ec S (fun _=>Dv (vs:=[.agg (Du.enc (nth Ag (W ((i1 : Int) - 1)))).toArray,.agg (Du.enc y1).toArray]) ⟨(S.tm rfl),(S.tm rfl),trivial⟩ call123) (EF _ (nth Ag (W ((i1 : Int) - 1))) y1 _ rfl) rfl ?_));clear S;intro v6 a w15 hv6 hk12 hn6 S
        subst hv6
        refine Ld (Hx hk12 (Kz [10,11,12] hsel (by kernel_rfl) rfl ?_))
        clear hsel
        refine Fm S rfl rfl rfl rfl hb7 (Gv S (Qd (S.tm rfl) rfl) rfl fun a S=>Gk S rfl (Qi hb7 (S.tm rfl) (S.tm rfl)) rfl fun a S=>Gk S rfl (Ra (S.tm rfl)) rfl fun a S=>Ig ?_)
        replace S:=S.n0.k13 0 8 9 10 42 46 47 48 49 50 51 52 53 rfl
        exact Tn (⟨decide (0 ≤ (Ro (nth Ag (W ((i1 : Int) - 1))) y1)),h,S.nf [] rfl (subR rfl)⟩)
       ·replace h:=Qx h hb7
        refine Hd [] ([]) Tryz.mixed S rfl (by kernel_rfl) ?_;clear S;intro w16 hk13 hsel S
        refine Kz [0,1,2,3,4,5,6,7,8,9,10,11,12] hsel (by kernel_rfl) rfl ?_
        clear hsel
        refine Gk S rfl (Rm (S.tm rfl)) rfl fun a S=>Gk S rfl (Jh (S.tm rfl) rfl) rfl fun a S=>Gk S rfl (Rm (S.tm rfl)) rfl ?_;clear S;intro a S
        iterate 8 (refine Qe S rfl rfl rfl rfl (Jq hb7) rfl ?_ rfl;clear S;intro a S)
        refine Gk S rfl (Qj hb7 (S.tm rfl) rfl) rfl fun a S=>Gk S rfl (Ra (S.tm rfl)) rfl fun a S=>Ig ?_
        replace S:=S.n0.k5 0 8 9 10 42 rfl
        exact Tn (⟨false,h,S.nf [] rfl (subR rfl)⟩)
      clear S h;rintro a w12 ⟨x1,h,S⟩;rw [hj5] at h;clear hj5 j5
      refine Tn (Fc h (S.tm rfl) (fun hb8 h=>?_) (fun hb8 h=>?_))
      ·refine Fr (Vk S rfl rfl fun a S=>Dl (wp_ret (Fq (Fq (Dy (Dy (Fq ?_)))))))
       refine Dy (Dy ?_)
       obtain rfl:=Option.some.inj h
       exact Eo S results106 rfl rfl
      ·exact wp_skip (Ho (Ho (Tn (Fg (Vq S Gf rfl rfl rfl fun a S=>Vm S rfl rfl fun a S=>Dl (⟨ys1,⟨i1 + 1,⟨_,(hd1).trans (List.append_cons _ _ _),by simp [hi1]⟩,h,S.nf [] rfl ⟨rfl,rfl,rfl,(congrArg (fun z=>some (Value.int .i64 z)) (Hw hd1 hi1 (Jn Ae))),trivial⟩⟩,Nat.lt_succ_self _⟩))))))
  clear S h;rintro a w2 ⟨h,S⟩;rw [hj1] at h;clear hj1 j1
  refine Tn (Fr (Vm S rfl rfl ?_));clear S;intro a S
  obtain ⟨r4,hr7,h⟩:=Fb h
  refine Ec S (fun _=>Dv (vs:=[Ac]) ⟨(S.tm rfl),trivial⟩ call124) (DD _ Ac Ag (Ae.mono (S.le_arg Ej)) _ hr7) rfl ?_;clear S;intro v7 a w17 hv7 hk14 hn7 S
  subst hv7
  refine Va S rfl rfl fun a S=>Dl (wp_ret ?_)
  obtain rfl:=Option.some.inj h
  exact Eo S results106 rfl rfl
theorem CI (w : World) (Av : Lu) (Ce : R28) (Cm : Xm (view w []) Av Ce) (Ac : Value) (Ag : List Du) (Ae : Slc (view w []) 5 Ac (Ag.map Du.enc)) (r : Int) (h : Rp Av Ag = some r) :
    Calls prog 84 [.agg (R28.enc Ce).toArray,Ac].toArray w (Ret w [] fun _ v _=>v = iV r):=by
 obtain ⟨u1,rfl,hs1⟩:=Cm
 refine Fe func84 rfl ntmps84 rfl fun a S=>?_
 unfold Rp at h
 replace S:=S.k2 0 1 rfl
 refine Fr (My S (S.tm rfl) (cs:=[u1.val,iV Av.Relay,iV Av.Most]) rfl rfl ?_);clear S;intro a w1 b1 hz1 hk1 S
 refine Vk S rfl rfl fun a S=>Dl (Fs (Fr (lv S (Fx isAgg28 sizeOf28 (off:=0) (o:=0) (part:=[u1.val,iV Av.Relay,iV Av.Most]) rfl rfl (S.tm rfl) (S.cellsAt (i:=0) rfl)) rfl ?_)));clear S;intro a S
 obtain ⟨r1,hr1,h⟩:=Fb h
 refine Ec S (fun _=>Dv (vs:=[.agg (R28.enc (R28.mk u1 Av.Relay Av.Most)).toArray]) ⟨(S.tm rfl),trivial⟩ call70) (Wo _ Av (R28.mk u1 Av.Relay Av.Most) ⟨u1,rfl,(hs1.mono (S.le_arg Ej))⟩ _ hr1) rfl ?_;clear S;intro v1 a w2 hv1 hk2 hn1 S
 subst hv1
 refine Va S rfl rfl fun a S=>Dz (Vm S rfl rfl fun a S=>Vq S Ky rfl rfl rfl fun a S=>Dl (Fc h (S.tm rfl) (fun hb1 h=>?_) (fun hb1 h=>?_)))
 ·refine Fr (Vm S rfl rfl fun a S=>Va S rfl rfl fun a S=>Dl (wp_ret (Dy ?_)))
  obtain rfl:=Option.some.inj h
  exact Eo S results84 rfl rfl
 ·refine wp_skip (Tn (Fr (Vm S rfl rfl ?_)));clear S;intro a S
  obtain ⟨r2,hr2,h⟩:=Fb h
  refine Ec S (fun _=>Dv (vs:=[Ac]) ⟨(S.tm rfl),trivial⟩ call106) (AG _ Ac Ag (Ae.mono (S.le_arg Ej)) _ hr2) rfl ?_;clear S;intro v2 a w3 hv2 hk3 hn2 S
  subst hv2
  refine Va S rfl rfl fun a S=>Dl (wp_ret ?_)
  obtain rfl:=Option.some.inj h
  exact Eo S results84 rfl rfl
theorem HE (w : World) (r : Ep) (h : Ku = r) :
    Calls prog 125 [].toArray w (Ret w [] fun _ v _=>v = .agg (Ep.enc r).toArray):=by
 refine Fe func125 rfl ntmps125 rfl fun a S=>?_
 unfold Ku at h
 replace S:=S.k0
 refine Fr (Hz S zeroValue64 (cs:=[iV 0,iV 0]) rfl rfl ?_);clear S;intro a w1 b1 hz1 hk1 S
 refine Dz (lv S (Mj TL (pv:=[(0,iV 0),(1,iV 1)]) ⟨rfl,rfl,rfl,rfl,trivial⟩ (cs:=[iV 0,iV 1]) (by kernel_rfl)) rfl fun a S=>Fh S (S.tm rfl) (S.tm rfl) (i:=0) (off:=0) rfl sizeOf64 (vs:=[iV 0,iV 1]) rfl rfl rfl rfl ?_);clear S;intro w2 hk2 S
 refine Dl (wp_ret ?_)
 subst h
 exact Zh S (rs:=[.cell 0 64]) (vs:=[.agg #[iV 0,iV 1]]) results125 ⟨(Uw (off:=0) S rfl isAgg64 sizeOf64 rfl (S.cellsAt (i:=0) rfl)),trivial⟩ rfl rfl
theorem EG (w : World) (Al : Int) (Aq : Int) (r : Ep) (h : Pz Al Aq = some r) :
    Calls prog 126 [iV Al,iV Aq].toArray w (Ret w [] fun _ v _=>v = .agg (Ep.enc r).toArray):=by
 refine Fe func126 rfl ntmps126 rfl fun a S=>?_
 unfold Pz at h
 replace S:=S.k2 0 1 rfl
 refine Fr (Hz S zeroValue64 (cs:=[iV 0,iV 0]) rfl rfl ?_);clear S;intro a w1 b1 hz1 hk1 S
 refine Dz (Vm S rfl rfl fun a S=>Vm S rfl rfl fun a S=>Va S rfl rfl fun a S=>Va S rfl rfl fun a S=>Dl (Fs ?_))
 replace S:=(S.nl [.blk b1 [iV 0,iV 0] 64] [true] rfl).k5 0 1 4 5 6 rfl
 obtain ⟨j1,hj1,h⟩:=Eu h
 refine En (fun a w'=>∃ x2 : Int,j1 x2 = some r ∧ Sx w [] nov [.blk b1 [iV 0,iV 0] 64] [(0,iV Al),(1,iV Aq),(4,.pointer (some ⟨b1,0,none⟩)),(6,iV x2)] 22 a w') ?_ ?_
 ·refine wp_block (Hb (fun (m1 : Nat) a w'=>∃ x1 : Int,∃ x2 : Int,Lk j1 m1 x1 x2 = some r ∧ Sx w [] nov [.blk b1 [iV 0,iV 0] 64] [(0,iV Al),(1,iV Aq),(4,.pointer (some ⟨b1,0,none⟩)),(5,iV x1),(6,iV x2)] 22 a w') id ((Al - 0).toNat + 2) ⟨Al,Aq,h,S.nf [true] rfl (subR rfl)⟩ ?_)
  clear S h;rintro m1 a w2 ⟨x1,x2,h,S⟩
  cases m1 with
  | zero=>rw [Lk.eq_1] at h;cases h
  | succ m1 =>
   rw [Lk.eq_2] at h
   refine Fs (Fr (Vm S rfl rfl fun a S=>Vq S Jh rfl rfl rfl fun a S=>Dl (Fc h (S.tm rfl) (fun hb1 h=>?_) (fun hb1 h=>?_))))
   ·refine wp_skip (Tn (wp_block (Fg (Vm S rfl rfl fun a S=>Vm S rfl rfl ?_))));clear S;intro a S
    obtain ⟨hc1,h⟩:=Ia h
    exact lv S (AI (S.tm rfl) (S.tm rfl) (Tr hc1)) rfl fun a S=>Vm S rfl rfl fun a S=>Va S rfl rfl fun a S=>Va S rfl rfl fun a S=>Ld (Ho (Tn (⟨m1,⟨Int.tmod x2 x1,x1,h,S.nf [true] rfl ⟨rfl,rfl,rfl,rfl,rfl,trivial⟩⟩,Nat.lt_succ_self _⟩)))
   ·exact wp_exit (Ei (Ei (Gp (Tn (⟨x2,h,S.nf [true] rfl (subR rfl)⟩)))))
 clear S h;rintro a w3 ⟨x2,h,S⟩;rw [hj1] at h;clear hj1 j1
 refine Tn (Fs ?_)
 obtain ⟨hc2,h⟩:=Ia h
 obtain ⟨hc3,h⟩:=Ia h
 refine Hd [] ([b1]) Tryz.mixed S rfl (by kernel_rfl) ?_;clear S;intro w5 hk3 hsel S
 refine Ef 0 S hsel rfl rfl rfl (by kernel_rfl) (by kernel_rfl) rfl (fun _ hw=>(Rm (S.tm rfl))) fun a S=>Ef 1 S hsel rfl rfl rfl (by kernel_rfl) (by kernel_rfl) rfl (fun _ hw=>(Rm (S.tm rfl))) fun a S=>Ef 2 S hsel rfl rfl rfl (by kernel_rfl) (by kernel_rfl) rfl (fun _ hw=>(CS (S.tm rfl) (S.tm rfl) (Tr hc2))) fun a S=>Ef 3 S hsel rfl rfl rfl (by kernel_rfl) (by kernel_rfl) rfl (fun _ hw=>(Rm (S.tm rfl))) fun a S=>Ef 4 S hsel rfl rfl rfl (by kernel_rfl) (by kernel_rfl) rfl (fun _ hw=>(Rm (S.tm rfl))) fun a S=>Ef 5 S hsel rfl rfl rfl (by kernel_rfl) (by kernel_rfl) rfl (fun _ hw=>(CS (S.tm rfl) (S.tm rfl) (Tr hc3))) fun a S=>Ef 6 S hsel rfl rfl rfl (by kernel_rfl) (by kernel_rfl) rfl (fun _ hw=>(Mj TL (pv:=[(0,iV (W (Int.tdiv Al x2))),(1,iV (W (Int.tdiv Aq x2)))]) ⟨rfl,(S.tm rfl),rfl,(S.tm rfl),trivial⟩ (cs:=[iV (W (Int.tdiv Al x2)),iV (W (Int.tdiv Aq x2))]) (by kernel_rfl))) fun a S=>Gw 7 (by kernel_rfl) rfl (Fh S (S.tm rfl) (S.tm rfl) (i:=0) (off:=0) rfl sizeOf64 (vs:=[iV (W (Int.tdiv Al x2)),iV (W (Int.tdiv Aq x2))]) rfl rfl rfl rfl ?_);clear S;intro w6 hk4 S
 refine Ld (Hx hk4 (Wu (by kernel_rfl) ?_))
 clear hsel
 replace S:=(S.nl [.blk b1 [iV (W (Int.tdiv Al x2)),iV (W (Int.tdiv Aq x2))] 64] [true] rfl).k1 4 rfl
 refine Tn (wp_ret ?_)
 obtain rfl:=Option.some.inj h
 exact Zh S (rs:=[.cell 4 64]) (vs:=[.agg #[iV (W (Int.tdiv Al x2)),iV (W (Int.tdiv Aq x2))]]) results126 ⟨(Uw (off:=0) S rfl isAgg64 sizeOf64 rfl (S.cellsAt (i:=0) rfl)),trivial⟩ rfl rfl
set_option maxRecDepth 20000 in
theorem HF (w : World) (Av : Lu) (Ce : R28) (Cm : Xm (view w []) Av Ce) (Ac : Value) (Ag : List Du) (Ae : Slc (view w []) 5 Ac (Ag.map Du.enc)) (r : (List Eb)) (h : Wk Av Ag = some r) :
    Calls prog 108 [.agg (R28.enc Ce).toArray,Ac].toArray w (Ret w [] fun τ v _=>Td τ 166 7 v r.length (r.flatMap Eb.enc)):=by
 obtain ⟨u1,rfl,hs1⟩:=Cm
 refine Fe func108 rfl ntmps108 rfl fun a S=>?_
 unfold Wk at h
 replace S:=S.k2 0 1 rfl
 refine Fr (My S (S.tm rfl) (cs:=[u1.val,iV Av.Relay,iV Av.Most]) rfl rfl ?_);clear S;intro a w1 b1 hz1 hk1 S
 refine Vk S rfl rfl fun a S=>Dz (Vk S rfl rfl ?_);clear S;intro a S
 replace S:=S.nil 166 7
 refine Dz (Vk S rfl rfl ?_);clear S;intro a S
 replace S:=S.nil 3 1
 refine Dz (Rk (κ:=ByteArray) (ν:=Int) S rfl Value.string (Value.int .i64) ?_);clear S;intro a w2 b2 hz2 hk2 S
 refine Va S rfl rfl fun a S=>Dl (Fs (Fr (Vm S rfl rfl fun a S=>lv S (Fz Nj (S.tm rfl) (Fl Ae)) rfl fun a S=>lv S (Rm rfl) rfl fun a S=>Dl ?_)))
 replace S:=(S.nl [.map b2 (Gn Value.string (Value.int .i64) ([] : List (ByteArray × Int))) ([] : List (ByteArray × Int)).length,.own (.slice none 0 0) 3 1 ([] : List Int).length (([] : List Int).flatMap eInt),.own (.slice none 0 0) 166 7 ([] : List Eb).length (([] : List Eb).flatMap Eb.enc),.blk b1 [u1.val,iV Av.Relay,iV Av.Most] 28] [true,true,true,true] rfl).k8 1 2 5 6 7 16 17 18 rfl
 obtain ⟨j1,hj1,h⟩:=Eu h
 refine En (fun a w'=>∃ x1 : List (ByteArray × Int),∃ x2 : List Int,∃ x3 : List Eb,∃ v1 : Value,∃ v2 : Value,j1 x1 x2 x3 = some r ∧ Sx w [] nov [.map b2 (Gn Value.string (Value.int .i64) x1) x1.length,.own v1 3 1 x2.length (x2.flatMap eInt),.own v2 166 7 x3.length (x3.flatMap Eb.enc),.blk b1 [u1.val,iV Av.Relay,iV Av.Most] 28] [(1,Ac),(2,.pointer (some ⟨b1,0,none⟩)),(5,v2),(6,v1)] 132 a w') ?_ ?_
 ·refine wp_block (Hb (fun (ys1 : List Du) a w'=>∃ i1 : Nat,∃ x1 : List (ByteArray × Int),∃ x2 : List Int,∃ x3 : List Eb,∃ v1 : Value,∃ v2 : Value,(∃ dn,Ag = dn ++ ys1 ∧ dn.length = i1) ∧ Mq Av j1 ys1 i1 x1 x2 x3 = some r ∧ Sx w [] nov [.map b2 (Gn Value.string (Value.int .i64) x1) x1.length,.own v1 3 1 x2.length (x2.flatMap eInt),.own v2 166 7 x3.length (x3.flatMap Eb.enc),.blk b1 [u1.val,iV Av.Relay,iV Av.Most] 28] [(1,Ac),(2,.pointer (some ⟨b1,0,none⟩)),(5,v2),(6,v1),(7,.map (some b2)),(16,Ac),(17,iV (Ag.length : Int)),(18,iV (i1 : Int))] 132 a w') List.length Ag ⟨0,([] : List (ByteArray × Int)),([] : List Int),([] : List Eb),(.slice none 0 0),(.slice none 0 0),⟨[],rfl,rfl⟩,h,S.nf [true,true,true,true] rfl (subR rfl)⟩ ?_)
  clear S h;rintro ys1 a w3 ⟨i1,x1,x2,x3,v1,v2,⟨dn,hd1,hi1⟩,h,S⟩
  cases ys1 with
  | nil =>
   rw [Mq.eq_1] at h
   refine Fr (Vb S Ex rfl rfl rfl fun a S=>Ld ?_)
   replace S:=S.k9 1 2 5 6 7 16 17 18 19 rfl
   exact Tn (Fs (wp_cond_false ((S.tm rfl).trans (congrArg Value.bool (Io hd1 hi1))) (wp_exit (Ei (Ei (Gp (Tn (⟨x1,x2,x3,v1,v2,h,S.nf [true,true,true,true] rfl (subR rfl)⟩))))))))
  | cons y1 ys1 =>
   rw [Mq.eq_2] at h
   refine Fr (Vb S Ex rfl rfl rfl fun a S=>Ld ?_)
   replace S:=S.k9 1 2 5 6 7 16 17 18 19 rfl
   refine Tn (Fs (wp_cond_true ((S.tm rfl).trans (congrArg Value.bool (Hv hd1 hi1))) (wp_skip (Tn (Fs ?_)))))
   obtain ⟨j2,hj2,h⟩:=Eu h
   refine En (fun a w'=>∃ x4 : List (ByteArray × Int),∃ x5 : List Int,∃ x6 : List Eb,∃ v3 : Value,∃ v4 : Value,j2 x4 x5 x6 = some r ∧ Sx w [] nov [.map b2 (Gn Value.string (Value.int .i64) x4) x4.length,.own v3 3 1 x5.length (x5.flatMap eInt),.own v4 166 7 x6.length (x6.flatMap Eb.enc),.blk b1 [u1.val,iV Av.Relay,iV Av.Most] 28] [(1,Ac),(2,.pointer (some ⟨b1,0,none⟩)),(5,v4),(6,v3),(7,.map (some b2)),(16,Ac),(17,iV (Ag.length : Int)),(18,iV (i1 : Int))] 132 a w') ?_ ?_
   ·refine wp_block (Fs (Fg ?_))
    obtain ⟨b3,o1,hm1,hr1⟩:=Fd (a:=a) (x:=.tmp 16) (y:=.tmp 18) (ty:=0) Nj Ae (Iq hd1 hi1) rfl (S.tm rfl) (S.tm rfl)
    refine lv S (hr1 _) rfl ?_;clear S;intro a S
    clear hr1
    refine lv S (Fx isAgg111 sizeOf111 (off:=o1) (o:=0) (part:=(Du.enc y1)) rfl rfl (S.tm rfl) (hm1.at S.emb0)) rfl fun a S=>Hz S zeroValue111 (cs:=[sV An,sV An,sV An,iV 0,bV false]) rfl rfl ?_;clear S;intro a w6 b4 hz3 hk3 S
    refine Fh S (S.tm rfl) (S.tm rfl) (i:=0) (off:=0) rfl sizeOf111 (vs:=(Du.enc y1)) rfl rfl rfl rfl ?_;clear S;intro w7 hk4 S
    refine Dl (Fs (Fr (Vf Nk S rfl rfl fun a S=>Vl isAgg3 0 S rfl rfl rfl rfl fun a S=>Vq S Im rfl rfl rfl fun a S=>Vm S rfl rfl fun a S=>Hj 4 (fun a w'=>Keep [] w7 w' ∧ Sx w [] nov [.blk b4 (Du.enc y1) 111,.map b2 (Gn Value.string (Value.int .i64) x1) x1.length,.own v1 3 1 x2.length (x2.flatMap eInt),.own v2 166 7 x3.length (x3.flatMap Eb.enc),.blk b1 [u1.val,iV Av.Relay,iV Av.Most] 28] [(1,Ac),(2,.pointer (some ⟨b1,0,none⟩)),(5,v2),(6,v1),(7,.map (some b2)),(9,.pointer (some ⟨b4,0,none⟩)),(16,Ac),(17,iV (Ag.length : Int)),(18,iV (i1 : Int)),(29,bV ((decide (y1.Rank = 0)) || (decide (y1.Club = An))))] 132 a w') ?_ ?_)))
    ·rcases Bool.eq_false_or_eq_true (decide (y1.Rank = 0)) with hb1 | hb1
     ·iterate 3 (refine Gt S rfl rfl rfl (Mh hb1) rfl ?_ rfl;clear S;intro a S)
      exact lv S (Kh (decide (y1.Club = An)) hb1 (S.tm rfl) rfl) rfl fun a S=>Dl (⟨Keep.refl _ _,S.nf [true,true,true,true,true] rfl (subR rfl)⟩)
     ·exact Ea S rfl rfl rfl hb1 (Vf AW S rfl rfl fun a S=>Ea S rfl rfl rfl hb1 (Vl isAgg9 0 S rfl rfl rfl rfl fun a S=>Ea S rfl rfl rfl hb1 (Vq S Wb rfl rfl rfl fun a S=>lv S (Ki hb1 (S.tm rfl) (S.tm rfl)) rfl fun a S=>Dl (⟨Keep.refl _ _,S.nf [true,true,true,true,true] rfl (subR rfl)⟩))))
    clear S;rintro a w8 ⟨hk5,S⟩
    refine Dl (Fc h (S.tm rfl) (fun hb2 h=>?_) (fun hb2 h=>?_))
    ·exact wp_exit (Ei (Gp (Tn (⟨x1,x2,x3,v1,v2,h,S.nf [false,true,true,true,true] rfl (subR rfl)⟩))))
    ·refine wp_skip (Tn (Fs (Fr (Vm S rfl rfl fun a S=>Vf AW S rfl rfl fun a S=>Vl isAgg9 0 S rfl rfl rfl rfl fun a S=>lv S (Pt (kv:=Value.string) (vv:=(Value.int .i64)) (m:=x1) (key:=y1.Club) (z:=0) (S.map_at (i:=1) rfl) underlying89 (Mz underlying9) zeroValue3 (S.tm rfl) (S.tm rfl)) rfl fun a S=>Vq S Gf rfl rfl rfl fun a S=>Ox (kv:=Value.string) (vv:=(Value.int .i64)) (m:=x1) (key:=y1.Club) (val:=W ((Ee x1 y1.Club 0) + 1)) S (i:=1) rfl underlying89 (Mz underlying9) (S.tm rfl) (S.tm rfl) (S.tm rfl) ?_))));clear S;intro w9 hk6 S
     refine Ld ?_
     replace S:=(S.nl [.blk b4 (Du.enc y1) 111,.map b2 (Gn Value.string (Value.int .i64) (Gj x1 y1.Club (W ((Ee x1 y1.Club 0) + 1)))) (Gj x1 y1.Club (W ((Ee x1 y1.Club 0) + 1))).length,.own v1 3 1 x2.length (x2.flatMap eInt),.own v2 166 7 x3.length (x3.flatMap Eb.enc),.blk b1 [u1.val,iV Av.Relay,iV Av.Most] 28] [true,true,true,true,true] rfl).k9 1 2 5 6 7 9 16 17 18 rfl
     refine Tn (Fr (Vf KP S rfl rfl fun a S=>Vl isAgg3 4 S rfl rfl rfl rfl fun a S=>Vq S Im rfl rfl rfl fun a S=>Vm S rfl rfl fun a S=>Hj 8 (fun a w'=>Keep [] w9 w' ∧ Sx w [] nov [.blk b4 (Du.enc y1) 111,.map b2 (Gn Value.string (Value.int .i64) (Gj x1 y1.Club (W ((Ee x1 y1.Club 0) + 1)))) (Gj x1 y1.Club (W ((Ee x1 y1.Club 0) + 1))).length,.own v1 3 1 x2.length (x2.flatMap eInt),.own v2 166 7 x3.length (x3.flatMap Eb.enc),.blk b1 [u1.val,iV Av.Relay,iV Av.Most] 28] [(1,Ac),(2,.pointer (some ⟨b1,0,none⟩)),(5,v2),(6,v1),(7,.map (some b2)),(9,.pointer (some ⟨b4,0,none⟩)),(16,Ac),(17,iV (Ag.length : Int)),(18,iV (i1 : Int)),(46,bV ((decide (Av.Most = 0)) || (decide ((Ee (Gj x1 y1.Club (W ((Ee x1 y1.Club 0) + 1))) y1.Club 0) ≤ Av.Most))))] 132 a w') ?_ ?_))
     ·rcases Bool.eq_false_or_eq_true (decide (Av.Most = 0)) with hb3 | hb3
      ·iterate 7 (refine Gt S rfl rfl rfl (Mh hb3) rfl ?_ rfl;clear S;intro a S)
       exact lv S (Kh (decide ((Ee (Gj x1 y1.Club (W ((Ee x1 y1.Club 0) + 1))) y1.Club 0) ≤ Av.Most)) hb3 (S.tm rfl) rfl) rfl fun a S=>Dl (⟨Keep.refl _ _,S.nf [true,true,true,true,true] rfl (subR rfl)⟩)
      ·refine Ea S rfl rfl rfl hb3 (Vm S rfl rfl fun a S=>Ea S rfl rfl rfl hb3 (Vf AW S rfl rfl fun a S=>Ea S rfl rfl rfl hb3 (Vl isAgg9 0 S rfl rfl rfl rfl fun a S=>Ea S rfl rfl rfl hb3 (lv S (Pt (kv:=Value.string) (vv:=(Value.int .i64)) (m:=(Gj x1 y1.Club (W ((Ee x1 y1.Club 0) + 1)))) (key:=y1.Club) (z:=0) (S.map_at (i:=1) rfl) underlying89 (Mz underlying9) zeroValue3 (S.tm rfl) (S.tm rfl)) rfl fun a S=>Ea S rfl rfl rfl hb3 (Vf KP S rfl rfl fun a S=>Ea S rfl rfl rfl hb3 ?_)))))
       exact Vl isAgg3 4 S rfl rfl rfl rfl fun a S=>Ea S rfl rfl rfl hb3 (Vb S Uk rfl rfl rfl fun a S=>lv S (Ki hb3 (S.tm rfl) (S.tm rfl)) rfl fun a S=>Dl (⟨Keep.refl _ _,S.nf [true,true,true,true,true] rfl (subR rfl)⟩))
     clear S;rintro a w10 ⟨hk7,S⟩
     refine Dl ?_
     obtain ⟨j3,hj3,h⟩:=Eu h
     refine En (fun a w'=>∃ x7 : List Int,∃ v5 : Value,j3 x7 = some r ∧ Sx w [] nov [.blk b4 (Du.enc y1) 111,.map b2 (Gn Value.string (Value.int .i64) (Gj x1 y1.Club (W ((Ee x1 y1.Club 0) + 1)))) (Gj x1 y1.Club (W ((Ee x1 y1.Club 0) + 1))).length,.own v5 3 1 x7.length (x7.flatMap eInt),.own v2 166 7 x3.length (x3.flatMap Eb.enc),.blk b1 [u1.val,iV Av.Relay,iV Av.Most] 28] [(1,Ac),(2,.pointer (some ⟨b1,0,none⟩)),(5,v2),(6,v5),(7,.map (some b2)),(9,.pointer (some ⟨b4,0,none⟩)),(16,Ac),(17,iV (Ag.length : Int)),(18,iV (i1 : Int))] 132 a w') ?_ ?_
     ·refine Fc h (S.tm rfl) (fun hb4 h=>?_) (fun hb4 h=>?_)
      ·refine Fg (Vm S rfl rfl fun a S=>Vm S rfl rfl fun a S=>lv S (Fz AS (S.tm rfl) (Pb (S.own_at (i:=3) rfl))) rfl fun a S=>Et S underlying22 sizeOf3 zeroValue3 rfl rfl (pv:=[(0,iV (x3.length : Int))]) ⟨rfl,(S.tm rfl),trivial⟩ (cs:=[iV (x3.length : Int)]) (by kernel_rfl) rfl ?_);clear S;intro a w12 b5 hz4 hk8 S
       obtain ⟨hc1,h⟩:=Ia h
       refine Mb Oz Ih S (S.tm rfl) (i:=3) rfl (S.tm rfl) (j:=0) rfl (ys:=[(x3.length : Int)]) rfl rfl rfl rfl (by have:=Mn hc1;omega) rfl ?_;clear S;intro v6 a w13 hk9 S
       refine Va S rfl rfl fun a S=>Ld ?_
       replace S:=(S.nl [.blk b4 (Du.enc y1) 111,.map b2 (Gn Value.string (Value.int .i64) (Gj x1 y1.Club (W ((Ee x1 y1.Club 0) + 1)))) (Gj x1 y1.Club (W ((Ee x1 y1.Club 0) + 1))).length,.own v6 3 1 (x2 ++ [(x3.length : Int)]).length ((x2 ++ [(x3.length : Int)]).flatMap eInt),.own v2 166 7 x3.length (x3.flatMap Eb.enc),.blk b1 [u1.val,iV Av.Relay,iV Av.Most] 28] [false,true,true,true,true,true] rfl).k9 1 2 5 6 7 9 16 17 18 rfl
       exact Tn (⟨(x2 ++ [(x3.length : Int)]),v6,h,S.nf [true,true,true,true,true] rfl (subR rfl)⟩)
      ·exact wp_skip (Tn (⟨x2,v1,h,S.nf [true,true,true,true,true] rfl (subR rfl)⟩))
     clear S h;rintro a w11 ⟨x7,v5,h,S⟩;rw [hj3] at h;clear hj3 j3
     refine Tn ?_
     obtain ⟨hc2,h⟩:=Ia h
     refine Hd [] (v2.ownBlock.toList) Tryz.mixed S rfl (by kernel_rfl) ?_;clear S;intro w17 hk13 hsel S
     refine Ef 0 S hsel rfl rfl rfl (by kernel_rfl) (by kernel_rfl) rfl (fun _ hw=>(Rm (S.tm rfl))) fun a S=>Ef 1 S hsel rfl rfl rfl (by kernel_rfl) (by kernel_rfl) rfl (fun _ hw=>(Fx isAgg111 sizeOf111 (off:=0) (o:=0) (part:=(Du.enc y1)) rfl rfl (S.tm rfl) ((S.blk_mem (i:=0) (cells:=(Du.enc y1)) (b:=b4) (T:=111) rfl (Mk (i:=3) (j:=0) (e:=.own v2 166 7 x3.length (x3.flatMap Eb.enc)) (e':=.blk b4 (Du.enc y1) 111) S rfl rfl rfl)).kept hw))) fun a S=>Gw 2 (by kernel_rfl) rfl (Ec S (fun _=>Dv (vs:=[]) trivial call125) (HE _ _ rfl) rfl ?_);clear S;intro v9 a w18 hv2 hk14 hn2 S
     subst hv2
     refine Ld (Hx (Keep.none hk14) (Ef 3 S hsel rfl rfl rfl (by kernel_rfl) (by kernel_rfl) rfl (fun _ hw=>(Mj bt_166 (pv:=[(0,.agg (Du.enc y1).toArray),(1,.agg (Ep.enc Ku).toArray)]) ⟨rfl,(S.tm rfl),rfl,(S.tm rfl),trivial⟩ (cs:=[sV y1.Race,sV y1.Who,sV y1.Club,iV y1.Rank,bV y1.Relay,iV Ku.Num,iV Ku.Den]) (by kernel_rfl))) fun a S=>Gw 4 (by kernel_rfl) rfl (Et S underlying163 sizeOf166 zeroValue166 rfl rfl (pv:=[(0,.agg (Eb.enc (Eb.mk y1 Ku)).toArray)]) ⟨rfl,(S.tm rfl),trivial⟩ (cs:=[sV y1.Race,sV y1.Who,sV y1.Club,iV y1.Rank,bV y1.Relay,iV Ku.Num,iV Ku.Den]) (by kernel_rfl) rfl ?_)));clear S;intro a w19 b7 hz6 hk15 S
     refine Ld (Hx (Keep.none hk15) (Gw 5 (by kernel_rfl) rfl ?_))
     refine Mb AS Eb.enc_ok S (S.tm rfl) (i:=4) rfl (S.tm rfl) (j:=0) rfl (ys:=[(Eb.mk y1 Ku)]) rfl rfl rfl rfl (by have:=Mn hc2;omega) rfl ?_;clear S;intro v10 a w20 hk16 S
     refine Ld (Hx hk16 (Kz [6] hsel (by kernel_rfl) rfl ?_))
     clear hsel
     refine Gk S rfl (Ra (S.tm rfl)) rfl fun a S=>Ig ?_
     replace S:=(S.nl [.map b2 (Gn Value.string (Value.int .i64) (Gj x1 y1.Club (W ((Ee x1 y1.Club 0) + 1)))) (Gj x1 y1.Club (W ((Ee x1 y1.Club 0) + 1))).length,.own v5 3 1 x7.length (x7.flatMap eInt),.own v10 166 7 (x3 ++ [(Eb.mk y1 Ku)]).length ((x3 ++ [(Eb.mk y1 Ku)]).flatMap Eb.enc),.blk b1 [u1.val,iV Av.Relay,iV Av.Most] 28] [false,false,true,true,true,true] rfl).k8 1 2 5 6 7 16 17 18 rfl
     exact Ho (Tn (⟨(Gj x1 y1.Club (W ((Ee x1 y1.Club 0) + 1))),x7,(x3 ++ [(Eb.mk y1 Ku)]),v5,v10,h,S.nf [true,true,true,true] rfl (subR rfl)⟩))
   clear S h;rintro a w5 ⟨x4,x5,x6,v3,v4,h,S⟩;rw [hj2] at h;clear hj2 j2
   exact Tn (Fg (Vq S Gf rfl rfl rfl fun a S=>Vm S rfl rfl fun a S=>Dl (⟨ys1,⟨i1 + 1,x4,x5,x6,v3,v4,⟨_,(hd1).trans (List.append_cons _ _ _),by simp [hi1]⟩,h,S.nf [true,true,true,true] rfl ⟨rfl,rfl,rfl,rfl,rfl,rfl,rfl,(congrArg (fun z=>some (Value.int .i64 z)) (Hw hd1 hi1 (Jn Ae))),trivial⟩⟩,Nat.lt_succ_self _⟩)))
 clear S h;rintro a w4 ⟨x1,x2,x3,v1,v2,h,S⟩;rw [hj1] at h;clear hj1 j1
 refine Tn (Fs (Fr (Vk S rfl rfl fun a S=>Dl ?_)))
 replace S:=S.d0.k5 1 2 5 6 10 rfl
 obtain ⟨j4,hj4,h⟩:=Eu h
 refine En (fun a w'=>∃ x8 : List Eb,∃ v11 : Value,j4 x8 = some r ∧ Sx w [] nov [.own v1 3 1 x2.length (x2.flatMap eInt),.own v11 166 7 x8.length (x8.flatMap Eb.enc),.blk b1 [u1.val,iV Av.Relay,iV Av.Most] 28] [(5,v11)] 132 a w') ?_ ?_
 ·refine wp_block (Hb (fun (m1 : Nat) a w'=>∃ x8 : List Eb,∃ x9 : Int,∃ v11 : Value,Kc x2 Ag Av j4 m1 x8 x9 = some r ∧ Sx w [] nov [.own v1 3 1 x2.length (x2.flatMap eInt),.own v11 166 7 x8.length (x8.flatMap Eb.enc),.blk b1 [u1.val,iV Av.Relay,iV Av.Most] 28] [(1,Ac),(2,.pointer (some ⟨b1,0,none⟩)),(5,v11),(6,v1),(10,iV x9)] 132 a w') id (((x2.length : Int) - 0).toNat + 2) ⟨x3,0,v2,h,S.nf [true,true,true] rfl (subR rfl)⟩ ?_)
  clear S h;rintro m1 a w21 ⟨x8,x9,v11,h,S⟩
  cases m1 with
  | zero=>rw [Kc.eq_1] at h;cases h
  | succ m1 =>
   rw [Kc.eq_2] at h
   refine Fs (Fr (Vm S rfl rfl fun a S=>Vm S rfl rfl fun a S=>lv S (Fz Oz (S.tm rfl) (Pb (S.own_at (i:=0) rfl))) rfl fun a S=>Vb S Ex rfl rfl rfl fun a S=>Dl (Fc h (S.tm rfl) (fun hb5 h=>?_) (fun hb5 h=>?_))))
   ·refine wp_skip (Tn (wp_block (Fr (Vm S rfl rfl fun a S=>Va S rfl rfl fun a S=>Vk S rfl rfl fun a S=>Dl (Fs ?_)))))
    replace S:=S.k7 1 2 5 6 10 11 12 rfl
    obtain ⟨j5,hj5,h⟩:=Eu h
    refine En (fun a w'=>∃ x10 : Int,∃ x11 : Int,j5 x10 x11 = some r ∧ Sx w [] nov [.own v1 3 1 x2.length (x2.flatMap eInt),.own v11 166 7 x8.length (x8.flatMap Eb.enc),.blk b1 [u1.val,iV Av.Relay,iV Av.Most] 28] [(1,Ac),(2,.pointer (some ⟨b1,0,none⟩)),(5,v11),(6,v1),(10,iV x9),(11,iV x10),(12,iV x11)] 132 a w') ?_ ?_
    ·refine wp_block (Hb (fun (m2 : Nat) a w'=>∃ x10 : Int,∃ x11 : Int,Mr Av x2 x8 x9 j5 m2 x10 x11 = some r ∧ Sx w [] nov [.own v1 3 1 x2.length (x2.flatMap eInt),.own v11 166 7 x8.length (x8.flatMap Eb.enc),.blk b1 [u1.val,iV Av.Relay,iV Av.Most] 28] [(1,Ac),(2,.pointer (some ⟨b1,0,none⟩)),(5,v11),(6,v1),(10,iV x9),(11,iV x10),(12,iV x11)] 132 a w') id (((x2.length : Int) - x9).toNat + 2) ⟨x9,0,h,S.nf [true,true,true] rfl (subR rfl)⟩ ?_)
     clear S h;rintro m2 a w23 ⟨x10,x11,h,S⟩
     cases m2 with
     | zero=>rw [Mr.eq_1] at h;cases h
     | succ m2 =>
      rw [Mr.eq_2] at h
      refine Fs (Fs (Hd [] ([]) Tryz.mixed S rfl (by kernel_rfl) ?_));clear S;intro w25 hk17 hsel S
      refine Kz [0,1,2,3,4,5,6,7,8,9,10,11,12,13,14,15,16,17,18,19,20,21,22,23,24] hsel (by kernel_rfl) rfl ?_
      clear hsel
      refine Gk S rfl (Rm (S.tm rfl)) rfl fun a S=>Gk S rfl (Rm (S.tm rfl)) rfl fun a S=>Gk S rfl (Fz Oz (S.tm rfl) (Pb (S.own_at (i:=0) rfl))) rfl fun a S=>Gk S rfl (Ex (S.tm rfl) (S.tm rfl)) rfl fun a S=>Gk S rfl (Rm (S.tm rfl)) rfl ?_;clear S;intro a S
      obtain ⟨j6,hj6,h⟩:=Eu h
      refine Yl 20 (fun a w'=>∃ c1,j6 c1 = some r ∧ Keep [] w25 w' ∧ Sx w [] nov [.own v1 3 1 x2.length (x2.flatMap eInt),.own v11 166 7 x8.length (x8.flatMap Eb.enc),.blk b1 [u1.val,iV Av.Relay,iV Av.Most] 28] [(1,Ac),(2,.pointer (some ⟨b1,0,none⟩)),(5,v11),(6,v1),(10,iV x9),(11,iV x10),(12,iV x11),(88,bV c1)] 132 a w') ?_ ?_
      ·rcases Bool.eq_false_or_eq_true (decide (x10 < (x2.length : Int))) with hb6 | hb6
       ·replace h:=Qw h hb6
        refine Fm S rfl rfl rfl rfl hb6 (Gv S (Rm (S.tm rfl)) rfl fun a S=>Fm S rfl rfl rfl rfl hb6 (Gv S (Rm (S.tm rfl)) rfl fun a S=>Fm S rfl rfl rfl rfl hb6 (Gv S (Rm (S.tm rfl)) rfl fun a S=>Fm S rfl rfl rfl rfl hb6 ?_)))
        obtain ⟨hc3,h⟩:=Ia h
        obtain ⟨b8,hg1,hr2⟩:=Hk (a:=a) (x:=.tmp 70) (y:=.tmp 71) (ty:=0) Oz Ih S (i:=0) rfl (Ed hc3).1 (Ed hc3).2 (S.tm rfl) (S.tm rfl)
        refine Gv S (hr2 _) rfl ?_;clear S;intro a S
        clear hr2
        refine Fm S rfl rfl rfl rfl hb6 (Gv S (Hp isAgg3 (off:=x10.toNat * 1) (o:=0) (S.tm rfl) (Tf Ih S (i:=0) rfl hg1 (Ed hc3).1) rfl) rfl fun a S=>Fm S rfl rfl rfl rfl hb6 ?_)
        obtain ⟨hc4,h⟩:=Ia h
        obtain ⟨b9,hg2,hr3⟩:=Hk (a:=a) (x:=.tmp 69) (y:=.tmp 73) (ty:=0) AS Eb.enc_ok S (i:=1) rfl (Ed hc4).1 (Ed hc4).2 (S.tm rfl) (S.tm rfl)
        refine Gv S (hr3 _) rfl ?_;clear S;intro a S
        clear hr3
        refine Fm S rfl rfl rfl rfl hb6 (Gv S (Ge EA (S.tm rfl)) rfl fun a S=>Fm S rfl rfl rfl rfl hb6 (Gv S (Ge Nk (S.tm rfl)) rfl fun a S=>Fm S rfl rfl rfl rfl hb6 (Gv S (Hp isAgg3 (off:=((nth x2 x10).toNat) * 7) (o:=3) (S.tm rfl) (Tf Eb.enc_ok S (i:=1) rfl hg2 (Ed hc4).1) rfl) rfl fun a S=>Fm S rfl rfl rfl rfl hb6 (Gv S (Rm (S.tm rfl)) rfl fun a S=>Fm S rfl rfl rfl rfl hb6 (Gv S (Rm (S.tm rfl)) rfl fun a S=>Fm S rfl rfl rfl rfl hb6 ?_)))))
        refine Gv S (Rm (S.tm rfl)) rfl fun a S=>Fm S rfl rfl rfl rfl hb6 ?_
        obtain ⟨hc5,h⟩:=Ia h
        obtain ⟨b10,hg3,hr4⟩:=Hk (a:=a) (x:=.tmp 79) (y:=.tmp 80) (ty:=0) Oz Ih S (i:=0) rfl (Ed hc5).1 (Ed hc5).2 (S.tm rfl) (S.tm rfl)
        refine Gv S (hr4 _) rfl ?_;clear S;intro a S
        clear hr4
        refine Fm S rfl rfl rfl rfl hb6 (Gv S (Hp isAgg3 (off:=x9.toNat * 1) (o:=0) (S.tm rfl) (Tf Ih S (i:=0) rfl hg3 (Ed hc5).1) rfl) rfl fun a S=>Fm S rfl rfl rfl rfl hb6 ?_)
        obtain ⟨hc6,h⟩:=Ia h
        obtain ⟨b11,hg4,hr5⟩:=Hk (a:=a) (x:=.tmp 78) (y:=.tmp 82) (ty:=0) AS Eb.enc_ok S (i:=1) rfl (Ed hc6).1 (Ed hc6).2 (S.tm rfl) (S.tm rfl)
        refine Gv S (hr5 _) rfl ?_;clear S;intro a S
        clear hr5
        exact Fm S rfl rfl rfl rfl hb6 (Gv S (Ge EA (S.tm rfl)) rfl fun a S=>Fm S rfl rfl rfl rfl hb6 (Gv S (Ge Nk (S.tm rfl)) rfl fun a S=>Fm S rfl rfl rfl rfl hb6 (Gv S (Hp isAgg3 (off:=((nth x2 x9).toNat) * 7) (o:=3) (S.tm rfl) (Tf Eb.enc_ok S (i:=1) rfl hg4 (Ed hc6).1) rfl) rfl fun a S=>Fm S rfl rfl rfl rfl hb6 (Gv S (Im (S.tm rfl) (S.tm rfl)) rfl fun a S=>Gk S rfl (Hm hb6 (S.tm rfl) (S.tm rfl)) rfl fun a S=>Ig (⟨_,h,Keep.refl _ _,S.nf [true,true,true] rfl (subR rfl)⟩)))))
       ·replace h:=Qx h hb6
        iterate 19 (refine Qe S rfl rfl rfl rfl (Jq hb6) rfl ?_ rfl;clear S;intro a S)
        exact Gk S rfl (Hn true hb6 (S.tm rfl) rfl) rfl fun a S=>Ig (⟨_,h,Keep.refl _ _,S.nf [true,true,true] rfl (subR rfl)⟩)
      clear S h;rintro a w26 ⟨c1,h,hk18,S⟩;rw [hj6] at h;clear hj6 j6
      refine Ig ?_
      replace S:=S.k8 1 2 5 6 10 11 12 88 rfl
      refine Tn (Fc h (S.tm rfl) (fun hb7 h=>?_) (fun hb7 h=>?_))
      ·refine wp_skip (Tn (Fs ?_))
       obtain ⟨j7,hj7,h⟩:=Eu h
       refine En (fun a w'=>∃ x12 : Int,j7 x12 = some r ∧ Sx w [] nov [.own v1 3 1 x2.length (x2.flatMap eInt),.own v11 166 7 x8.length (x8.flatMap Eb.enc),.blk b1 [u1.val,iV Av.Relay,iV Av.Most] 28] [(1,Ac),(2,.pointer (some ⟨b1,0,none⟩)),(5,v11),(6,v1),(10,iV x9),(11,iV x10),(12,iV x12)] 132 a w') ?_ ?_
       ·refine wp_block (Fr (Vm S rfl rfl fun a S=>Vf Zp S rfl rfl fun a S=>Vl isAgg22 2 S rfl rfl rfl rfl fun a S=>lv S (Fz Oz (S.tm rfl) (Fl hs1)) rfl fun a S=>Vb S Ex rfl rfl rfl fun a S=>Dl ?_))
        obtain ⟨j8,hj8,h⟩:=Eu h
        refine En (fun a w'=>∃ x13 : Int,j8 x13 = some r ∧ Sx w [] nov [.own v1 3 1 x2.length (x2.flatMap eInt),.own v11 166 7 x8.length (x8.flatMap Eb.enc),.blk b1 [u1.val,iV Av.Relay,iV Av.Most] 28] [(1,Ac),(2,.pointer (some ⟨b1,0,none⟩)),(5,v11),(6,v1),(10,iV x9),(11,iV x10),(12,iV x13)] 132 a w') ?_ ?_
        ·refine Fc h (S.tm rfl) (fun hb8 h=>?_) (fun hb8 h=>?_)
         ·refine Fg (Vm S rfl rfl fun a S=>Vf Zp S rfl rfl fun a S=>Vl isAgg22 2 S rfl rfl rfl rfl fun a S=>Vm S rfl rfl ?_);clear S;intro a S
          obtain ⟨hc7,h⟩:=Ia h
          obtain ⟨b12,o6,hm6,hr6⟩:=Fd (a:=a) (x:=.tmp 98) (y:=.tmp 99) (ty:=0) Oz hs1 (Ed hc7).1 (Ed hc7).2 (S.tm rfl) (S.tm rfl)
          refine lv S (hr6 _) rfl ?_;clear S;intro a S
          clear hr6
          refine lv S (Hp isAgg3 (off:=o6) (o:=0) (S.tm rfl) (hm6.at S.emb0) rfl) rfl fun a S=>Vb S Gf rfl rfl rfl fun a S=>Va S rfl rfl fun a S=>Ld ?_
          replace S:=S.k7 1 2 5 6 10 11 12 rfl
          exact Tn (⟨W (x11 + (nth Av.Points x10)),h,S.nf [true,true,true] rfl (subR rfl)⟩)
         ·exact wp_skip (Tn (⟨x11,h,S.nf [true,true,true] rfl (subR rfl)⟩))
        clear S h;rintro a w28 ⟨x13,h,S⟩;rw [hj8] at h;clear hj8 j8
        exact Ho (Tn (⟨x13,h,S.nf [true,true,true] rfl (subR rfl)⟩))
       clear S h;rintro a w27 ⟨x12,h,S⟩;rw [hj7] at h;clear hj7 j7
       exact Tn (Fg (Vm S rfl rfl fun a S=>Vq S Gf rfl rfl rfl fun a S=>Va S rfl rfl fun a S=>Dl (⟨m2,⟨W (x10 + 1),x12,h,S.nf [true,true,true] rfl ⟨rfl,rfl,rfl,rfl,rfl,rfl,rfl,trivial⟩⟩,Nat.lt_succ_self _⟩)))
      ·exact wp_exit (Ei (Ei (Gp (Tn (⟨x10,x11,h,S.nf [true,true,true] rfl (subR rfl)⟩)))))
    clear S h;rintro a w24 ⟨x10,x11,h,S⟩;rw [hj5] at h;clear hj5 j5
    refine Tn (Fs (Fr (Vm S rfl rfl ?_)));clear S;intro a S
    obtain ⟨hc8,h⟩:=Ia h
    obtain ⟨b13,o7,hm7,hr7⟩:=Fd (a:=a) (x:=.tmp 103) (y:=.const (iV 0)) (ty:=0) Nj Ae (Ed hc8).1 (Ed hc8).2 (S.tm rfl) rfl
    refine lv S (hr7 _) rfl ?_;clear S;intro a S
    clear hr7
    refine Vf HB S rfl rfl fun a S=>lv S (Hp isAgg4 (off:=o7) (o:=4) (S.tm rfl) (hm7.at S.emb0) rfl) rfl fun a S=>Dl ?_
    obtain ⟨j9,hj9,h⟩:=Eu h
    refine En (fun a w'=>∃ x14 : Int,j9 x14 = some r ∧ Sx w [] nov [.own v1 3 1 x2.length (x2.flatMap eInt),.own v11 166 7 x8.length (x8.flatMap Eb.enc),.blk b1 [u1.val,iV Av.Relay,iV Av.Most] 28] [(1,Ac),(2,.pointer (some ⟨b1,0,none⟩)),(5,v11),(6,v1),(10,iV x9),(11,iV x10),(12,iV x14)] 132 a w') ?_ ?_
    ·refine Fc h (S.tm rfl) (fun hb9 h=>?_) (fun hb9 h=>?_)
     ·refine Fg (Vm S rfl rfl fun a S=>Vf PG S rfl rfl fun a S=>Vl isAgg3 2 S rfl rfl rfl rfl fun a S=>Vb S Yk rfl rfl rfl fun a S=>Va S rfl rfl fun a S=>Ld ?_)
      replace S:=S.k7 1 2 5 6 10 11 12 rfl
      exact Tn (⟨W (x11 * Av.Relay),h,S.nf [true,true,true] rfl (subR rfl)⟩)
     ·exact wp_skip (Tn (⟨x11,h,S.nf [true,true,true] rfl (subR rfl)⟩))
    clear S h;rintro a w29 ⟨x14,h,S⟩;rw [hj9] at h;clear hj9 j9
    refine Tn (Fs (Fs (Fg ?_)))
    iterate 3 (refine Vm S rfl rfl ?_;clear S;intro a S)
    obtain ⟨hc9,h⟩:=Ia h
    obtain ⟨u2,hu1,hr8⟩:=rn_sub2 (a:=a) (x:=.tmp 111) (y:=.tmp 112) (y':=.tmp 113) (ty:=22) Oz S (i:=0) rfl (S.tm rfl) (S.tm rfl) (S.tm rfl) hc9
    refine lv S (hr8 _) rfl ?_;clear S;intro a S
    clear hr8
    refine lv S (Fz Oz (S.tm rfl) (subLen hu1)) rfl fun a S=>lv S (Rm rfl) rfl fun a S=>Dl ?_
    replace S:=S.k10 1 2 5 6 10 11 12 114 115 116 rfl
    obtain ⟨j10,hj10,h⟩:=Eu h
    refine En (fun a w'=>∃ x15 : List Eb,∃ v12 : Value,j10 x15 = some r ∧ Sx w [] nov [.own v1 3 1 x2.length (x2.flatMap eInt),.own v12 166 7 x15.length (x15.flatMap Eb.enc),.blk b1 [u1.val,iV Av.Relay,iV Av.Most] 28] [(1,Ac),(2,.pointer (some ⟨b1,0,none⟩)),(5,v12),(6,v1),(11,iV x10)] 132 a w') ?_ ?_
    ·refine wp_block (Hb (fun (m3 : Nat) a w'=>∃ x15 : List Eb,∃ x16 : Int,∃ v12 : Value,Lf x10 x9 x14 x2 j10 m3 x15 x16 = some r ∧ Sx w [] nov [.own v1 3 1 x2.length (x2.flatMap eInt),.own v12 166 7 x15.length (x15.flatMap Eb.enc),.blk b1 [u1.val,iV Av.Relay,iV Av.Most] 28] [(1,Ac),(2,.pointer (some ⟨b1,0,none⟩)),(5,v12),(6,v1),(10,iV x9),(11,iV x10),(12,iV x14),(114,u2),(115,iV ((x10.toNat - x9.toNat : Nat) : Int)),(116,iV x16)] 132 a w') id ((((x10.toNat - x9.toNat : Nat) : Int) - 0).toNat + 2) ⟨x8,0,v11,h,S.nf [true,true,true] rfl (subR rfl)⟩ ?_)
     clear S h;rintro m3 a w30 ⟨x15,x16,v12,h,S⟩
     cases m3 with
     | zero=>rw [Lf.eq_1] at h;cases h
     | succ m3 =>
      rw [Lf.eq_2] at h
      refine Fr (Vb S Ex rfl rfl rfl fun a S=>Dl (Fs (Fc h (S.tm rfl) (fun hb10 h=>?_) (fun hb10 h=>?_))))
      ·refine wp_skip (Tn (Fs (wp_block (Fs (Fg ?_)))))
       obtain ⟨hc10,h⟩:=Ia h
       have hj11:=(sub_get (TA S (i:=0) rfl hu1) hc10).1
       obtain ⟨b14,hg5,hr9⟩:=MB (a:=a) (x:=.tmp 114) (y:=.tmp 116) (ty:=0) Oz Ih S (i:=0) rfl hu1 hc10 (S.tm rfl) (S.tm rfl)
       refine lv S (hr9 _) rfl ?_;clear S;intro a S
       clear hr9
       refine lv S (Hp isAgg3 (off:=(x9.toNat + x16.toNat) * 1) (o:=0) (S.tm rfl) (Tf Ih S (i:=0) rfl hg5 hj11) rfl) rfl fun a S=>Va S rfl rfl fun a S=>Dl (Fg ?_)
       iterate 5 (refine Vm S rfl rfl ?_;clear S;intro a S)
       refine Vb S Ja rfl rfl rfl ?_;clear S;intro a S
       obtain ⟨r1,hr10,h⟩:=Fb h
       refine Ec S (fun _=>Dv (vs:=[iV x14,iV (W (x10 - x9))]) ⟨(S.tm rfl),(S.tm rfl),trivial⟩ call126) (EG _ x14 (W (x10 - x9)) _ hr10) rfl ?_;clear S;intro v13 a w32 hv3 hk19 hn3 S
       subst hv3
       obtain ⟨hc11,h⟩:=Ia h
       obtain ⟨b15,hg6,hr11⟩:=Hk (a:=a) (x:=.tmp 120) (y:=.tmp 121) (ty:=0) AS Eb.enc_ok S (i:=1) rfl (Ed hc11).1 (Ed hc11).2 (S.tm rfl) (S.tm rfl)
       refine lv S (hr11 _) rfl ?_;clear S;intro a S
       clear hr11
       refine Vf MI S rfl rfl fun a S=>Pv (c:=5) (j:=(nth (cut x2 x9 x10) x16).toNat) (Eb.mk ((nth x15 (nth (cut x2 x9 x10) x16)).x_) r1) Eb.enc_ok S (S.tm rfl) (S.tm rfl) (i:=1) rfl hg6 (Ed hc11).1 sizeOf64 (vs:=[iV r1.Num,iV r1.Den]) rfl rfl rfl rfl rfl ?_;clear S;intro w34 hk21 S
       refine Ld ?_
       replace S:=(S.nl [.own v1 3 1 x2.length (x2.flatMap eInt),.own v12 166 7 (x15.set ((nth (cut x2 x9 x10) x16).toNat) (Eb.mk ((nth x15 (nth (cut x2 x9 x10) x16)).x_) r1)).length ((x15.set ((nth (cut x2 x9 x10) x16).toNat) (Eb.mk ((nth x15 (nth (cut x2 x9 x10) x16)).x_) r1)).flatMap Eb.enc),.blk b1 [u1.val,iV Av.Relay,iV Av.Most] 28] [true,true,true] rfl).k10 1 2 5 6 10 11 12 114 115 116 rfl
       exact Ho (Tn (Fg (Vq S Gf rfl rfl rfl fun a S=>Vm S rfl rfl fun a S=>Dl (⟨m3,⟨(x15.set ((nth (cut x2 x9 x10) x16).toNat) (Eb.mk ((nth x15 (nth (cut x2 x9 x10) x16)).x_) r1)),W (x16 + 1),v12,h,S.nf [true,true,true] rfl ⟨rfl,rfl,rfl,rfl,rfl,rfl,rfl,rfl,rfl,rfl,trivial⟩⟩,Nat.lt_succ_self _⟩))))
      ·exact wp_exit (Ei (Ei (Gp (Tn (⟨x15,v12,h,S.nf [true,true,true] rfl (subR rfl)⟩)))))
    clear S h;rintro a w31 ⟨x15,v12,h,S⟩;rw [hj10] at h;clear hj10 j10
    exact Tn (Fg (Vm S rfl rfl fun a S=>Va S rfl rfl fun a S=>Ld (Ho (Tn (⟨m1,⟨x15,x10,v12,h,S.nf [true,true,true] rfl ⟨rfl,rfl,rfl,rfl,rfl,trivial⟩⟩,Nat.lt_succ_self _⟩)))))
   ·exact wp_exit (Ei (Ei (Gp (Tn (⟨x8,v11,h,S.nf [true,true,true] rfl ⟨rfl,trivial⟩⟩)))))
 clear S h;rintro a w22 ⟨x8,v11,h,S⟩;rw [hj4] at h;clear hj4 j4
 refine Tn (Fr (Vm S rfl rfl fun a S=>Va S rfl rfl fun a S=>Dl (wp_ret ?_)))
 obtain rfl:=Option.some.inj h
 exact Eo S results108 rfl (Sw S (i:=1) rfl rfl)
theorem HG (w : World) (Av : Lu) (Ce : R28) (Cm : Xm (view w []) Av Ce) (Ac : Value) (Ag : List Du) (Ae : Slc (view w []) 5 Ac (Ag.map Du.enc)) (r : (List Eb)) (h : Ta Av Ag = some r) :
    Calls prog 85 [.agg (R28.enc Ce).toArray,Ac].toArray w (Ret w [] fun τ v _=>Td τ 166 7 v r.length (r.flatMap Eb.enc)):=by
 obtain ⟨u1,rfl,hs1⟩:=Cm
 refine Fe func85 rfl ntmps85 rfl fun a S=>?_
 unfold Ta at h
 replace S:=S.k2 0 1 rfl
 refine Fr (My S (S.tm rfl) (cs:=[u1.val,iV Av.Relay,iV Av.Most]) rfl rfl ?_);clear S;intro a w1 b1 hz1 hk1 S
 refine Vk S rfl rfl fun a S=>Dz (Vk S rfl rfl ?_);clear S;intro a S
 replace S:=S.nil 166 7
 refine Dl (Fs (Fr (Vm S rfl rfl ?_)));clear S;intro a S
 obtain ⟨r1,hr1,h⟩:=Fb h
 have hz2:=S.keep.size
 refine Ec S (fun _=>Dv (vs:=[Ac]) ⟨(S.tm rfl),trivial⟩ call107) (Zy _ (join (view w []) nov) (Nx (S.le_arg Ej) (S.le_new Ej)) Ac Ag (Ae.mono (le_join_left _ _)) _ hr1) rfl ?_;clear S;intro v1 a w2 hv1 hk2 hn1 S
 obtain ⟨φ1,hl1,hm1,S⟩:=S.see' hn1 hz2
 obtain ⟨rs1,ho2,hr2⟩:=hv1
 have hs2:=ho2.mono (Ty hl1 hm1)
 have hr3:=DU (Ty hl1 hm1) hr2
 refine lv S (Fz Zo (S.tm rfl) (Tx hs2 hr3)) rfl fun a S=>lv S (Rm rfl) rfl fun a S=>Dl ?_
 replace S:=(S.nl [.own (.slice none 0 0) 166 7 ([] : List Eb).length (([] : List Eb).flatMap Eb.enc),.blk b1 [u1.val,iV Av.Relay,iV Av.Most] 28] [true,true] rfl).k5 2 5 9 10 11 rfl
 obtain ⟨j1,hj1,h⟩:=Eu h
 refine En (fun a w'=>∃ x1 : List Eb,∃ φ2 : View,∃ v2 : Value,j1 x1 = some r ∧ View.le φ1 φ2 ∧ Sx w [] φ2 [.own v2 166 7 x1.length (x1.flatMap Eb.enc),.blk b1 [u1.val,iV Av.Relay,iV Av.Most] 28] [(5,v2)] 22 a w') ?_ ?_
 ·refine wp_block (Hb (fun (ys1 : List (List Du)) a w'=>∃ i1 : Nat,∃ x1 : List Eb,∃ φ2 : View,∃ v2 : Value,(∃ dn,r1 = dn ++ ys1 ∧ dn.length = i1) ∧ Nh Av j1 ys1 i1 x1 = some r ∧ View.le φ1 φ2 ∧ Sx w [] φ2 [.own v2 166 7 x1.length (x1.flatMap Eb.enc),.blk b1 [u1.val,iV Av.Relay,iV Av.Most] 28] [(2,.pointer (some ⟨b1,0,none⟩)),(5,v2),(9,v1),(10,iV (r1.length : Int)),(11,iV (i1 : Int))] 22 a w') List.length r1 ⟨0,([] : List Eb),φ1,(.slice none 0 0),⟨[],rfl,rfl⟩,h,View.le_refl _,S.nf [true,true] rfl (subR rfl)⟩ ?_)
  clear S h;rintro ys1 a w3 ⟨i1,x1,φ2,v2,⟨dn,hd1,hi1⟩,h,hl2,S⟩
  cases ys1 with
  | nil =>
   rw [Nh.eq_1] at h
   refine Fr (Vb S Ex rfl rfl rfl fun a S=>Ld ?_)
   replace S:=S.k6 2 5 9 10 11 12 rfl
   exact Tn (Fs (wp_cond_false ((S.tm rfl).trans (congrArg Value.bool (Io hd1 hi1))) (wp_exit (Ei (Ei (Gp (Tn (⟨x1,φ2,v2,h,hl2,S.nf [true,true] rfl ⟨rfl,trivial⟩⟩))))))))
  | cons y1 ys1 =>
   rw [Nh.eq_2] at h
   refine Fr (Vb S Ex rfl rfl rfl fun a S=>Ld ?_)
   replace S:=S.k6 2 5 9 10 11 12 rfl
   refine Tn (Fs (wp_cond_true ((S.tm rfl).trans (congrArg Value.bool (Hv hd1 hi1))) (wp_skip (Tn (Fs (wp_block (Fs (Fg ?_))))))))
   obtain ⟨r2,hg1,hl3⟩:=La.at hr3 (Iq hd1 hi1)
   have hs3:=hl3
   obtain ⟨b2,o1,hm2,hr4⟩:=Fd (a:=a) (x:=.tmp 9) (y:=.tmp 11) (ty:=0) Zo hs2 hg1 rfl (S.tm rfl) (S.tm rfl)
   refine lv S (hr4 _) rfl ?_;clear S;intro a S
   clear hr4
   refine lv S (Hp isAgg107 (off:=o1) (o:=0) (S.tm rfl) ((hm2.mono (GZ hl2)).at (Ux S.emb0 S.emb)) rfl) rfl fun a S=>Va S rfl rfl fun a S=>Dl (Fg (Vm S rfl rfl fun a S=>lv S (Fx isAgg28 sizeOf28 (off:=0) (o:=0) (part:=[u1.val,iV Av.Relay,iV Av.Most]) rfl rfl (S.tm rfl) (S.cellsAt (i:=1) rfl)) rfl fun a S=>Vm S rfl rfl ?_));clear S;intro a S
   obtain ⟨r3,hr5,h⟩:=Fb h
   have hz3:=S.keep.size
   refine Ec S (fun _=>Dv (vs:=[.agg (R28.enc (R28.mk u1 Av.Relay Av.Most)).toArray,r2.val]) ⟨(S.tm rfl),(S.tm rfl),trivial⟩ call108) (HF _ Av (R28.mk u1 Av.Relay Av.Most) ⟨u1,rfl,(hs1.mono (S.le_arg Ej))⟩ r2.val y1 (hs3.mono (Nx (S.le_arg Ej) (View.le_trans hl2 (S.le_new Ej)))) _ hr5) rfl ?_;clear S;intro v3 a w5 hv2 hk3 hn2 S
   obtain ⟨φ3,hl4,hm3,S⟩:=S.see' hn2 hz3
   have hs4:=hv2.mono hm3
   obtain ⟨hc1,h⟩:=Ia h
   refine ET (Y:=[]) AS Eb.enc_ok S (S.tm rfl) (i:=0) rfl (S.tm rfl) ((He Eb.enc_ok hs4).mono (S.le_new (fun _ h=>by cases h))) rfl rfl (by have:=Mn hc1;omega) rfl ?_;clear S;intro v4 a w6 hk4 S
   refine Va S rfl rfl fun a S=>Ld (Ho (Tn (Fg (Vq S Gf rfl rfl rfl fun a S=>Vm S rfl rfl fun a S=>Ld ?_))))
   replace S:=(S.nl [.own v4 166 7 (x1 ++ r3).length ((x1 ++ r3).flatMap Eb.enc),.blk b1 [u1.val,iV Av.Relay,iV Av.Most] 28] [true,true] rfl).k5 2 5 9 10 11 rfl
   exact Tn (⟨ys1,⟨i1 + 1,(x1 ++ r3),φ3,v4,⟨_,(hd1).trans (List.append_cons _ _ _),by simp [hi1]⟩,h,(View.le_trans hl2 hl4),S.nf [true,true] rfl ⟨rfl,rfl,rfl,rfl,(congrArg (fun z=>some (Value.int .i64 z)) (Hw hd1 hi1 (Wj hs2 hr3))),trivial⟩⟩,Nat.lt_succ_self _⟩)
 clear S h;rintro a w4 ⟨x1,φ2,v2,h,hl2,S⟩;rw [hj1] at h;clear hj1 j1
 refine Tn (Fr (Vm S rfl rfl fun a S=>Va S rfl rfl fun a S=>Dl (wp_ret ?_)))
 obtain rfl:=Option.some.inj h
 exact Eo S results85 rfl (Sw S (i:=0) rfl rfl)
theorem GE (w : World) (Av : Lu) (Ce : R28) (Cm : Xm (view w []) Av Ce) (Ac : Value) (Ag : List Du) (Ae : Slc (view w []) 5 Ac (Ag.map Du.enc)) (r : (List Kq) × Int) (h : Tj Av Ag = some r) :
    Calls prog 47 [.agg (R28.enc Ce).toArray,Ac].toArray w (Ret w [] fun τ v _=>∃ u1 : Value,v = .tuple #[u1,iV r.2] ∧ Td τ 120 3 u1 r.1.length (r.1.flatMap Kq.enc)):=by
 obtain ⟨u1,rfl,hs1⟩:=Cm
 refine Fe func47 rfl ntmps47 rfl fun a S=>?_
 unfold Tj at h
 replace S:=S.k2 0 1 rfl
 refine Fr (My S (S.tm rfl) (cs:=[u1.val,iV Av.Relay,iV Av.Most]) rfl rfl ?_);clear S;intro a w1 b1 hz1 hk1 S
 refine Vk S rfl rfl fun a S=>Vk S rfl rfl fun a S=>Dl (Fs (Fr (lv S (Fx isAgg28 sizeOf28 (off:=0) (o:=0) (part:=[u1.val,iV Av.Relay,iV Av.Most]) rfl rfl (S.tm rfl) (S.cellsAt (i:=0) rfl)) rfl fun a S=>Vm S rfl rfl ?_)));clear S;intro a S
 obtain ⟨r1,hr1,h⟩:=Fb h
 refine Ec S (fun _=>Dv (vs:=[.agg (R28.enc (R28.mk u1 Av.Relay Av.Most)).toArray,Ac]) ⟨(S.tm rfl),(S.tm rfl),trivial⟩ call84) (CI _ Av (R28.mk u1 Av.Relay Av.Most) ⟨u1,rfl,(hs1.mono (S.le_arg Ej))⟩ Ac Ag (Ae.mono (S.le_arg Ej)) _ hr1) rfl ?_;clear S;intro v1 a w2 hv1 hk2 hn1 S
 subst hv1
 refine Va S rfl rfl fun a S=>Dz (Vm S rfl rfl fun a S=>Vq S Ky rfl rfl rfl fun a S=>Dl (Fc h (S.tm rfl) (fun hb1 h=>?_) (fun hb1 h=>?_)))
 ·refine Fr (Vm S rfl rfl fun a S=>Vk S rfl rfl fun a S=>Va S rfl rfl fun a S=>Dl (wp_ret (Dy ?_)))
  obtain rfl:=Option.some.inj h
  exact Lq S results47 rfl rfl ⟨_,rfl,(Ow _ _ _)⟩
 ·refine wp_skip (Tn (Fr (Vk S rfl rfl ?_)));clear S;intro a S
  replace S:=S.nil 120 3
  refine Dl (Fs (Fr (lv S (Fx isAgg28 sizeOf28 (off:=0) (o:=0) (part:=[u1.val,iV Av.Relay,iV Av.Most]) rfl rfl (S.tm rfl) (S.cellsAt (i:=1) rfl)) rfl fun a S=>Vm S rfl rfl ?_)));clear S;intro a S
  obtain ⟨r2,hr2,h⟩:=Fb h
  have hz2:=S.keep.size
  refine Ec S (fun _=>Dv (vs:=[.agg (R28.enc (R28.mk u1 Av.Relay Av.Most)).toArray,Ac]) ⟨(S.tm rfl),(S.tm rfl),trivial⟩ call85) (HG _ Av (R28.mk u1 Av.Relay Av.Most) ⟨u1,rfl,(hs1.mono (S.le_arg Ej))⟩ Ac Ag (Ae.mono (S.le_arg Ej)) _ hr2) rfl ?_;clear S;intro v2 a w3 hv2 hk3 hn2 S
  obtain ⟨φ1,hl1,hm1,S⟩:=S.see' hn2 hz2
  have hs2:=hv2.mono hm1
  refine lv S (Fz AS (S.tm rfl) (Fl (He Eb.enc_ok hs2))) rfl fun a S=>lv S (Rm rfl) rfl fun a S=>Ld ?_
  replace S:=(S.nl [.own (.slice none 0 0) 120 3 ([] : List Kq).length (([] : List Kq).flatMap Kq.enc)] [true,false] rfl).k4 7 18 19 20 rfl
  refine Tn ?_
  obtain ⟨j1,hj1,h⟩:=Eu h
  refine En (fun a w'=>∃ x1 : List Kq,∃ v3 : Value,j1 x1 = some r ∧ Sx w [] φ1 [.own v3 120 3 x1.length (x1.flatMap Kq.enc)] [(7,v3)] 40 a w') ?_ ?_
  ·refine wp_block (Hb (fun (ys1 : List Eb) a w'=>∃ i1 : Nat,∃ x1 : List Kq,∃ v3 : Value,(∃ dn,r2 = dn ++ ys1 ∧ dn.length = i1) ∧ Lx j1 ys1 i1 x1 = some r ∧ Sx w [] φ1 [.own v3 120 3 x1.length (x1.flatMap Kq.enc)] [(7,v3),(18,v2),(19,iV (r2.length : Int)),(20,iV (i1 : Int))] 40 a w') List.length r2 ⟨0,([] : List Kq),(.slice none 0 0),⟨[],rfl,rfl⟩,h,S.nf [true] rfl (subR rfl)⟩ ?_)
   clear S h;rintro ys1 a w4 ⟨i1,x1,v3,⟨dn,hd1,hi1⟩,h,S⟩
   cases ys1 with
   | nil =>
    rw [Lx.eq_1] at h
    refine Fr (Vb S Ex rfl rfl rfl fun a S=>Ld ?_)
    replace S:=S.k5 7 18 19 20 21 rfl
    exact Tn (Fs (wp_cond_false ((S.tm rfl).trans (congrArg Value.bool (Io hd1 hi1))) (wp_exit (Ei (Ei (Gp (Tn (⟨x1,v3,h,S.nf [true] rfl ⟨rfl,trivial⟩⟩))))))))
   | cons y1 ys1 =>
    rw [Lx.eq_2] at h
    refine Fr (Vb S Ex rfl rfl rfl fun a S=>Ld ?_)
    replace S:=S.k5 7 18 19 20 21 rfl
    refine Tn (Fs (wp_cond_true ((S.tm rfl).trans (congrArg Value.bool (Hv hd1 hi1))) (wp_skip (Tn (Fs (wp_block (Fs (Fg ?_))))))))
    obtain ⟨b2,o1,hm2,hr3⟩:=Fd (a:=a) (x:=.tmp 18) (y:=.tmp 20) (ty:=0) AS (He Eb.enc_ok hs2) (Iq hd1 hi1) rfl (S.tm rfl) (S.tm rfl)
    refine lv S (hr3 _) rfl ?_;clear S;intro a S
    clear hr3
    refine lv S (Fx isAgg166 sizeOf166 (off:=o1) (o:=0) (part:=(Eb.enc y1)) rfl rfl (S.tm rfl) (hm2.at S.emb)) rfl fun a S=>Hz S zeroValue166 (cs:=[sV An,sV An,sV An,iV 0,bV false,iV 0,iV 0]) rfl rfl ?_;clear S;intro a w6 b3 hz3 hk4 S
    refine Fh S (S.tm rfl) (S.tm rfl) (i:=0) (off:=0) rfl sizeOf166 (vs:=(Eb.enc y1)) rfl rfl rfl rfl ?_;clear S;intro w7 hk5 S
    refine Dl (Fg (Vm S rfl rfl fun a S=>Vf EA S rfl rfl fun a S=>Vf Wl S rfl rfl fun a S=>Vl isAgg9 0 S rfl rfl rfl rfl ?_));clear S;intro a S
    obtain ⟨hc1,h⟩:=Ia h
    refine lv S (GI (m:=y1.x_.Race) (n:=Pd) (S.tm rfl) rfl (by have:=Mn hc1;omega)) rfl ?_;clear S;intro a S
    refine Vf EA S rfl rfl fun a S=>Vf Wm S rfl rfl fun a S=>Vl isAgg9 0 S rfl rfl rfl rfl ?_;clear S;intro a S
    obtain ⟨hc2,h⟩:=Ia h
    refine lv S (GI (m:=(y1.x_.Race ++ Pd)) (n:=y1.x_.Who) (S.tm rfl) (S.tm rfl) (by have:=Mn hc2;omega)) rfl ?_;clear S;intro a S
    refine Vf MI S rfl rfl fun a S=>lv S (Fx isAgg64 sizeOf64 (off:=0) (o:=5) (part:=(Ep.enc y1.points_)) rfl rfl (S.tm rfl) (S.cellsAt (i:=0) rfl)) rfl fun a S=>lv S (Mj bt_120 (pv:=[(0,sV ((y1.x_.Race ++ Pd) ++ y1.x_.Who)),(1,.agg (Ep.enc y1.points_).toArray)]) ⟨rfl,(S.tm rfl),rfl,(S.tm rfl),trivial⟩ (cs:=[sV ((y1.x_.Race ++ Pd) ++ y1.x_.Who),iV y1.points_.Num,iV y1.points_.Den]) (by kernel_rfl)) rfl fun a S=>Et S underlying115 sizeOf120 zeroValue120 rfl rfl (pv:=[(0,.agg #[sV ((y1.x_.Race ++ Pd) ++ y1.x_.Who),iV y1.points_.Num,iV y1.points_.Den])]) ⟨rfl,(S.tm rfl),trivial⟩ (cs:=[sV ((y1.x_.Race ++ Pd) ++ y1.x_.Who),iV y1.points_.Num,iV y1.points_.Den]) (by kernel_rfl) rfl ?_;clear S;intro a w8 b4 hz4 hk6 S
    obtain ⟨hc3,h⟩:=Ia h
    refine Mb NX Kq.enc_ok S (S.tm rfl) (i:=2) rfl (S.tm rfl) (j:=0) rfl (ys:=[(Kq.mk ((y1.x_.Race ++ Pd) ++ y1.x_.Who) y1.points_)]) rfl rfl rfl rfl (by have:=Mn hc3;omega) rfl ?_;clear S;intro v4 a w9 hk7 S
    refine Va S rfl rfl fun a S=>Ld ?_
    replace S:=(S.nl [.own v4 120 3 (x1 ++ [(Kq.mk ((y1.x_.Race ++ Pd) ++ y1.x_.Who) y1.points_)]).length ((x1 ++ [(Kq.mk ((y1.x_.Race ++ Pd) ++ y1.x_.Who) y1.points_)]).flatMap Kq.enc)] [false,false,true] rfl).k4 7 18 19 20 rfl
    exact Ho (Tn (Fg (Vq S Gf rfl rfl rfl fun a S=>Vm S rfl rfl fun a S=>Dl (⟨ys1,⟨i1 + 1,(x1 ++ [(Kq.mk ((y1.x_.Race ++ Pd) ++ y1.x_.Who) y1.points_)]),v4,⟨_,(hd1).trans (List.append_cons _ _ _),by simp [hi1]⟩,h,S.nf [true] rfl ⟨rfl,rfl,rfl,(congrArg (fun z=>some (Value.int .i64 z)) (Hw hd1 hi1 (Jn (He Eb.enc_ok hs2)))),trivial⟩⟩,Nat.lt_succ_self _⟩))))
  clear S h;rintro a w5 ⟨x1,v3,h,S⟩;rw [hj1] at h;clear hj1 j1
  refine Tn (Fr (Vm S rfl rfl fun a S=>Va S rfl rfl fun a S=>Vk S rfl rfl fun a S=>Dl (wp_ret ?_)))
  obtain rfl:=Option.some.inj h
  exact Lq S results47 rfl rfl ⟨_,rfl,(Sw S (i:=0) rfl rfl)⟩
theorem Yx (w : World) (O : Nat) (Ah : Mp) (Br : R32) (Bw : Tv (view w []) Ah Br) (Au : Value) (Ai : List Dt) (Be : Slc (view w []) 11 Au (Ai.map Dt.enc)) (As : (view w []) O = some (.cells (R32.enc Br ++ [Au]).toArray 99 (0,0))) (Ao : Eh) (r : (List Iw) × Int) (h : Ob Ah Ai Ao = some r) :
    Calls prog 20 [.pointer (some ⟨O,0,none⟩),.agg (Eh.enc Ao).toArray].toArray w (Ret w [] fun τ v _=>∃ u1 : Value,v = .tuple #[u1,iV r.2] ∧ Td τ 66 7 u1 r.1.length (r.1.flatMap Iw.enc)):=by
 obtain ⟨u1,u2,rfl,hs1,⟨u3,rfl,hs2⟩⟩:=Bw
 replace As : (view w []) O = some (.cells [u1.val,u3.val,iV Ah.Table.Relay,iV Ah.Table.Most,iV Ah.Final.Size,iV Ah.Final.Many,iV Ah.Final.Reserves,Au].toArray 99 (0,0)):=As
 refine Fe func20 rfl ntmps20 rfl fun a S=>?_
 unfold Ob at h
 replace S:=S.k2 0 1 rfl
 refine Fr (My S (S.tm rfl) (cs:=(Eh.enc Ao)) rfl rfl ?_);clear S;intro a w1 b1 hz1 hk1 S
 refine Vk S rfl rfl fun a S=>Vk S rfl rfl fun a S=>Dz (Vm S rfl rfl fun a S=>Vf Xa S rfl rfl fun a S=>Vl isAgg9 0 S rfl rfl rfl rfl ?_);clear S;intro a S
 obtain ⟨r1,hr1,h⟩:=Fb h
 have hz2:=S.keep.size
 refine Ec S (fun _=>Dv (vs:=[.pointer (some ⟨O,0,none⟩),sV Ao.Key]) ⟨(S.tm rfl),(S.tm rfl),trivial⟩ call43) (GD _ O Ah (R32.mk u1 (R28.mk u3 Ah.Table.Relay Ah.Table.Most) Ah.Final) ⟨u1,(R28.mk u3 Ah.Table.Relay Ah.Table.Most),rfl,(hs1.mono (S.le_arg Ej)),⟨u3,rfl,(hs2.mono (S.le_arg Ej))⟩⟩ Au Ai (Be.mono (S.le_arg Ej)) ((S.le_arg Ej) _ _ As) Ao.Key _ hr1) rfl ?_;clear S;intro v1 a w2 hv1 hk2 hn1 S
 obtain ⟨u4,u5,rfl,ho1,ho2⟩:=hv1
 obtain ⟨φ1,hl1,hm1,S⟩:=S.see' hn1 hz2
 have hs3:=ho1.mono hm1
 obtain ⟨b2,rfl,hq1⟩:=ho2
 replace hq1:=hm1 _ _ hq1
 refine Vm S rfl rfl ?_;clear S;intro a S
 iterate 3 (refine Vq S Gx rfl rfl rfl ?_;clear S;intro a S)
 iterate 3 (refine Va S rfl rfl ?_;clear S;intro a S)
 refine Ld ?_
 replace S:=(S.nl [.blk b1 (Eh.enc Ao) 51] [true] rfl).k5 0 3 6 7 8 rfl
 refine Tn (Fs (Fr (Vm S rfl rfl fun a S=>Vq S Ky rfl rfl rfl fun a S=>Dl (Fc h (S.tm rfl) (fun hb1 h=>?_) (fun hb1 h=>?_)))))
 ·refine Fr (Vm S rfl rfl fun a S=>Vk S rfl rfl fun a S=>Va S rfl rfl fun a S=>Dl (wp_ret (Dy ?_)))
  obtain rfl:=Option.some.inj h
  exact Lq S results20 rfl rfl ⟨_,rfl,(Ow _ _ _)⟩
 ·refine wp_skip (Tn (Fr (Vk S rfl rfl ?_)));clear S;intro a S
  replace S:=S.nil 111 5
  refine Dl (Fs (Fr (Vm S rfl rfl fun a S=>lv S (Fz Rq (S.tm rfl) (Fl (He Dw.enc_ok hs3))) rfl fun a S=>lv S (Rm rfl) rfl fun a S=>Dl ?_)))
  replace S:=(S.nl [.own (.slice none 0 0) 111 5 ([] : List Du).length (([] : List Du).flatMap Du.enc),.blk b1 (Eh.enc Ao) 51] [true,true] rfl).k8 0 3 6 7 9 32 33 34 rfl
  obtain ⟨j1,hj1,h⟩:=Eu h
  refine En (fun a w'=>∃ x1 : List Du,∃ v2 : Value,j1 x1 = some r ∧ Sx w [] φ1 [.own v2 111 5 x1.length (x1.flatMap Du.enc),.blk b1 (Eh.enc Ao) 51] [(0,.pointer (some ⟨O,0,none⟩)),(3,.pointer (some ⟨b1,0,none⟩)),(6,u4),(7,.map (some b2)),(9,v2)] 123 a w') ?_ ?_
  ·refine wp_block (Hb (fun (ys1 : List Dw) a w'=>∃ i1 : Nat,∃ x1 : List Du,∃ v2 : Value,(∃ dn,r1.1 = dn ++ ys1 ∧ dn.length = i1) ∧ Lg Ao r1 j1 ys1 i1 x1 = some r ∧ Sx w [] φ1 [.own v2 111 5 x1.length (x1.flatMap Du.enc),.blk b1 (Eh.enc Ao) 51] [(0,.pointer (some ⟨O,0,none⟩)),(3,.pointer (some ⟨b1,0,none⟩)),(6,u4),(7,.map (some b2)),(9,v2),(32,u4),(33,iV (r1.1.length : Int)),(34,iV (i1 : Int))] 123 a w') List.length r1.1 ⟨0,([] : List Du),(.slice none 0 0),⟨[],rfl,rfl⟩,h,S.nf [true,true] rfl (subR rfl)⟩ ?_)
   clear S h;rintro ys1 a w3 ⟨i1,x1,v2,⟨dn,hd1,hi1⟩,h,S⟩
   cases ys1 with
   | nil =>
    rw [Lg.eq_1] at h
    refine Fr (Vb S Ex rfl rfl rfl fun a S=>Ld ?_)
    replace S:=S.k9 0 3 6 7 9 32 33 34 35 rfl
    exact Tn (Fs (wp_cond_false ((S.tm rfl).trans (congrArg Value.bool (Io hd1 hi1))) (wp_exit (Ei (Ei (Gp (Tn (⟨x1,v2,h,S.nf [true,true] rfl (subR rfl)⟩))))))))
   | cons y1 ys1 =>
    rw [Lg.eq_2] at h
    refine Fr (Vb S Ex rfl rfl rfl fun a S=>Ld ?_)
    replace S:=S.k9 0 3 6 7 9 32 33 34 35 rfl
    refine Tn (Fs (wp_cond_true ((S.tm rfl).trans (congrArg Value.bool (Hv hd1 hi1))) (wp_skip (Tn (Fs (wp_block (Fs (Fg ?_))))))))
    obtain ⟨b3,o1,hm2,hr2⟩:=Fd (a:=a) (x:=.tmp 32) (y:=.tmp 34) (ty:=0) Rq (He Dw.enc_ok hs3) (Iq hd1 hi1) rfl (S.tm rfl) (S.tm rfl)
    refine lv S (hr2 _) rfl ?_;clear S;intro a S
    clear hr2
    refine lv S (Fx isAgg109 sizeOf109 (off:=o1) (o:=0) (part:=(Dw.enc y1)) rfl rfl (S.tm rfl) (hm2.at S.emb)) rfl fun a S=>Hz S zeroValue109 (cs:=[sV An,iV 0,iV 0,iV 0]) rfl rfl ?_;clear S;intro a w5 b4 hz3 hk3 S
    refine Fh S (S.tm rfl) (S.tm rfl) (i:=0) (off:=0) rfl sizeOf109 (vs:=(Dw.enc y1)) rfl rfl rfl rfl ?_;clear S;intro w6 hk4 S
    refine Dl (Fg (Vm S rfl rfl fun a S=>Vf Xa S rfl rfl fun a S=>Vl isAgg9 2 S rfl rfl rfl rfl fun a S=>Vf AU S rfl rfl fun a S=>Vl isAgg9 0 S rfl rfl rfl rfl fun a S=>Vm S rfl rfl fun a S=>Vf AU S rfl rfl fun a S=>Vl isAgg9 0 S rfl rfl rfl rfl ?_));clear S;intro a S
    refine lv S (Pt (kv:=Value.string) (vv:=Value.string) (m:=r1.2.1) (key:=y1.Who) (z:=An) (S.emb _ _ hq1) underlying104 (Mz underlying9) zeroValue9 (S.tm rfl) (S.tm rfl)) rfl fun a S=>Vf AV S rfl rfl fun a S=>Vl isAgg3 0 S rfl rfl rfl rfl fun a S=>Vf DW S rfl rfl fun a S=>Vl isAgg3 2 S rfl rfl rfl rfl fun a S=>Vq S Jh rfl rfl rfl fun a S=>lv S (Mj bt_111 (pv:=[(0,sV Ao.Key),(1,sV y1.Who),(2,sV (Ee r1.2.1 y1.Who An)),(3,iV y1.Rank),(4,bV (decide (1 < Ao.Legs)))]) ⟨rfl,(S.tm rfl),rfl,(S.tm rfl),rfl,(S.tm rfl),rfl,(S.tm rfl),rfl,(S.tm rfl),trivial⟩ (cs:=[sV Ao.Key,sV y1.Who,sV (Ee r1.2.1 y1.Who An),iV y1.Rank,bV (decide (1 < Ao.Legs))]) (by kernel_rfl)) rfl fun a S=>Et S underlying107 sizeOf111 zeroValue111 rfl rfl (pv:=[(0,.agg #[sV Ao.Key,sV y1.Who,sV (Ee r1.2.1 y1.Who An),iV y1.Rank,bV (decide (1 < Ao.Legs))])]) ⟨rfl,(S.tm rfl),trivial⟩ (cs:=[sV Ao.Key,sV y1.Who,sV (Ee r1.2.1 y1.Who An),iV y1.Rank,bV (decide (1 < Ao.Legs))]) (by kernel_rfl) rfl ?_;clear S;intro a w7 b5 hz4 hk5 S
    obtain ⟨hc1,h⟩:=Ia h
    refine Mb Nj Du.enc_ok S (S.tm rfl) (i:=2) rfl (S.tm rfl) (j:=0) rfl (ys:=[(Du.mk Ao.Key y1.Who (Ee r1.2.1 y1.Who An) y1.Rank (decide (1 < Ao.Legs)))]) rfl rfl rfl rfl (by have:=Mn hc1;omega) rfl ?_;clear S;intro v3 a w8 hk6 S
    refine Va S rfl rfl fun a S=>Ld ?_
    replace S:=(S.nl [.own v3 111 5 (x1 ++ [(Du.mk Ao.Key y1.Who (Ee r1.2.1 y1.Who An) y1.Rank (decide (1 < Ao.Legs)))]).length ((x1 ++ [(Du.mk Ao.Key y1.Who (Ee r1.2.1 y1.Who An) y1.Rank (decide (1 < Ao.Legs)))]).flatMap Du.enc),.blk b1 (Eh.enc Ao) 51] [false,false,true,true] rfl).k8 0 3 6 7 9 32 33 34 rfl
    exact Ho (Tn (Fg (Vq S Gf rfl rfl rfl fun a S=>Vm S rfl rfl fun a S=>Dl (⟨ys1,⟨i1 + 1,(x1 ++ [(Du.mk Ao.Key y1.Who (Ee r1.2.1 y1.Who An) y1.Rank (decide (1 < Ao.Legs)))]),v3,⟨_,(hd1).trans (List.append_cons _ _ _),by simp [hi1]⟩,h,S.nf [true,true] rfl ⟨rfl,rfl,rfl,rfl,rfl,rfl,rfl,(congrArg (fun z=>some (Value.int .i64 z)) (Hw hd1 hi1 (Jn (He Dw.enc_ok hs3)))),trivial⟩⟩,Nat.lt_succ_self _⟩))))
  clear S h;rintro a w4 ⟨x1,v2,h,S⟩;rw [hj1] at h;clear hj1 j1
  refine Tn (Fr (Vm S rfl rfl ?_));clear S;intro a S
  obtain ⟨r2,hr3,h⟩:=Fb h
  refine Oy 0 S rfl (fun _=>.own v2 111 5 r2.length (r2.flatMap Du.enc)) (fun _=>Dv (vs:=[v2,.func (.func 45) #[] #[]]) ⟨(S.tm rfl),rfl,trivial⟩ call44) (Qg _ v2 x1 (S.holds _ (List.mem_of_getElem? (i:=0) rfl)) _ hr3) rfl (fun _ _ _ h=>⟨h.1,fun _ hc=>hc⟩) ?_;clear S;intro v4 a w9 hv2 hk7 hn2 S
  replace hv2:=hv2.2
  subst hv2
  refine Dz (Vm S rfl rfl fun a S=>Vu S Ll rfl rfl fun a S=>Vf GQ S rfl rfl fun a S=>Vf PH S rfl rfl fun a S=>lv S (Fx isAgg28 sizeOf28 (off:=0) (o:=1) (part:=[u3.val,iV Ah.Table.Relay,iV Ah.Table.Most]) rfl rfl (S.tm rfl) ((Sn As).at S.emb0)) rfl fun a S=>Vm S rfl rfl ?_);clear S;intro a S
  obtain ⟨r3,hr4,h⟩:=Fb h
  have hz5:=S.keep.size
  refine Ec S (fun _=>Dv (vs:=[.agg (R28.enc (R28.mk u3 Ah.Table.Relay Ah.Table.Most)).toArray,v2]) ⟨(S.tm rfl),(S.tm rfl),trivial⟩ call47) (GE _ Ah.Table (R28.mk u3 Ah.Table.Relay Ah.Table.Most) ⟨u3,rfl,(hs2.mono (S.le_arg Ej))⟩ v2 r2 (Xi Du.enc_ok S (i:=0) rfl (Hr (e':=.own v2 111 5 r2.length (r2.flatMap Du.enc)))) _ hr4) rfl ?_;clear S;intro v5 a w10 hv3 hk8 hn3 S
  obtain ⟨u6,rfl,ho3⟩:=hv3
  obtain ⟨φ2,hl2,hm3,S⟩:=S.see' hn3 hz5
  have hs4:=ho3.mono hm3
  refine Vm S rfl rfl fun a S=>Vq S Gx rfl rfl rfl fun a S=>Vq S Gx rfl rfl rfl fun a S=>Va S rfl rfl fun a S=>Va S rfl rfl fun a S=>Ld ?_
  replace S:=(S.nl [.blk b1 (Eh.enc Ao) 51] [false,true] rfl).k5 3 6 7 8 12 rfl
  refine Tn (Fs (Fr (Vm S rfl rfl fun a S=>Vq S Ky rfl rfl rfl fun a S=>Dl (Fc h (S.tm rfl) (fun hb2 h=>?_) (fun hb2 h=>?_)))))
  ·refine Fr (Vm S rfl rfl fun a S=>Vk S rfl rfl fun a S=>Va S rfl rfl fun a S=>Dl (wp_ret (Dy ?_)))
   obtain rfl:=Option.some.inj h
   exact Lq S results20 rfl rfl ⟨_,rfl,(Ow _ _ _)⟩
  ·refine wp_skip (Tn (Fr (Rk (κ:=ByteArray) (ν:=Ep) S rfl Value.string (fun x=>Value.agg (Ep.enc x).toArray) ?_)));clear S;intro a w11 b6 hz6 hk9 S
   refine Va S rfl rfl fun a S=>Dl (Fs (Fr (Vm S rfl rfl fun a S=>lv S (Fz NX (S.tm rfl) (Fl (He Kq.enc_ok hs4))) rfl fun a S=>lv S (Rm rfl) rfl fun a S=>Dl ?_)))
   replace S:=(S.nl [.map b6 (Gn Value.string (fun x=>Value.agg (Ep.enc x).toArray) ([] : List (ByteArray × Ep))) ([] : List (ByteArray × Ep)).length,.blk b1 (Eh.enc Ao) 51] [true,true] rfl).k7 3 6 7 13 72 73 74 rfl
   obtain ⟨j2,hj2,h⟩:=Eu h
   refine En (fun a w'=>∃ x2 : List (ByteArray × Ep),j2 x2 = some r ∧ Sx w [] φ2 [.map b6 (Gn Value.string (fun x=>Value.agg (Ep.enc x).toArray) x2) x2.length,.blk b1 (Eh.enc Ao) 51] [(3,.pointer (some ⟨b1,0,none⟩)),(6,u4),(7,.map (some b2)),(13,.map (some b6))] 123 a w') ?_ ?_
   ·refine wp_block (Hb (fun (ys2 : List Kq) a w'=>∃ i2 : Nat,∃ x2 : List (ByteArray × Ep),(∃ dn,r3.1 = dn ++ ys2 ∧ dn.length = i2) ∧ Me j2 ys2 i2 x2 = some r ∧ Sx w [] φ2 [.map b6 (Gn Value.string (fun x=>Value.agg (Ep.enc x).toArray) x2) x2.length,.blk b1 (Eh.enc Ao) 51] [(3,.pointer (some ⟨b1,0,none⟩)),(6,u4),(7,.map (some b2)),(13,.map (some b6)),(72,u6),(73,iV (r3.1.length : Int)),(74,iV (i2 : Int))] 123 a w') List.length r3.1 ⟨0,([] : List (ByteArray × Ep)),⟨[],rfl,rfl⟩,h,S.nf [true,true] rfl (subR rfl)⟩ ?_)
    clear S h;rintro ys2 a w12 ⟨i2,x2,⟨dn,hd2,hi2⟩,h,S⟩
    cases ys2 with
    | nil =>
     rw [Me.eq_1] at h
     refine Fr (Vb S Ex rfl rfl rfl fun a S=>Ld ?_)
     replace S:=S.k8 3 6 7 13 72 73 74 75 rfl
     exact Tn (Fs (wp_cond_false ((S.tm rfl).trans (congrArg Value.bool (Io hd2 hi2))) (wp_exit (Ei (Ei (Gp (Tn (⟨x2,h,S.nf [true,true] rfl (subR rfl)⟩))))))))
    | cons y2 ys2 =>
     rw [Me.eq_2] at h
     refine Fr (Vb S Ex rfl rfl rfl fun a S=>Ld ?_)
     replace S:=S.k8 3 6 7 13 72 73 74 75 rfl
     refine Tn (Fs (wp_cond_true ((S.tm rfl).trans (congrArg Value.bool (Hv hd2 hi2))) (wp_skip (Tn (Fs (wp_block (Fs (Fg ?_))))))))
     obtain ⟨b7,o2,hm4,hr5⟩:=Fd (a:=a) (x:=.tmp 72) (y:=.tmp 74) (ty:=0) NX (He Kq.enc_ok hs4) (Iq hd2 hi2) rfl (S.tm rfl) (S.tm rfl)
     refine lv S (hr5 _) rfl ?_;clear S;intro a S
     clear hr5
     refine lv S (Fx isAgg120 sizeOf120 (off:=o2) (o:=0) (part:=(Kq.enc y2)) rfl rfl (S.tm rfl) (hm4.at S.emb)) rfl fun a S=>Hz S zeroValue120 (cs:=[sV An,iV 0,iV 0]) rfl rfl ?_;clear S;intro a w14 b8 hz7 hk10 S
     refine Fh S (S.tm rfl) (S.tm rfl) (i:=0) (off:=0) rfl sizeOf120 (vs:=(Kq.enc y2)) rfl rfl rfl rfl ?_;clear S;intro w15 hk11 S
     refine Dl (Fg (Vm S rfl rfl fun a S=>Vf TF S rfl rfl fun a S=>Vl isAgg9 0 S rfl rfl rfl rfl fun a S=>Vf TG S rfl rfl fun a S=>lv S (Fx isAgg64 sizeOf64 (off:=0) (o:=1) (part:=(Ep.enc y2.Points)) rfl rfl (S.tm rfl) (S.cellsAt (i:=0) rfl)) rfl fun a S=>Ox (kv:=Value.string) (vv:=(fun x=>Value.agg (Ep.enc x).toArray)) (m:=x2) (key:=y2.Key) (val:=y2.Points) S (i:=1) rfl underlying118 (Mz underlying9) (S.tm rfl) (S.tm rfl) (S.tm rfl) ?_));clear S;intro w16 hk12 S
     refine Ld ?_
     replace S:=(S.nl [.map b6 (Gn Value.string (fun x=>Value.agg (Ep.enc x).toArray) (Gj x2 y2.Key y2.Points)) (Gj x2 y2.Key y2.Points).length,.blk b1 (Eh.enc Ao) 51] [false,true,true] rfl).k7 3 6 7 13 72 73 74 rfl
     exact Ho (Tn (Fg (Vq S Gf rfl rfl rfl fun a S=>Vm S rfl rfl fun a S=>Dl (⟨ys2,⟨i2 + 1,(Gj x2 y2.Key y2.Points),⟨_,(hd2).trans (List.append_cons _ _ _),by simp [hi2]⟩,h,S.nf [true,true] rfl ⟨rfl,rfl,rfl,rfl,rfl,rfl,(congrArg (fun z=>some (Value.int .i64 z)) (Hw hd2 hi2 (Jn (He Kq.enc_ok hs4)))),trivial⟩⟩,Nat.lt_succ_self _⟩))))
   clear S h;rintro a w13 ⟨x2,h,S⟩;rw [hj2] at h;clear hj2 j2
   refine Tn (Fr (Vk S rfl rfl ?_));clear S;intro a S
   replace S:=S.nil 66 7
   refine Dl (Fs (Fr (Vm S rfl rfl fun a S=>lv S (Fz Rq (S.tm rfl) (Fl (He Dw.enc_ok hs3))) rfl fun a S=>lv S (Rm rfl) rfl fun a S=>Dl ?_)))
   replace S:=(S.nl [.own (.slice none 0 0) 66 7 ([] : List Iw).length (([] : List Iw).flatMap Iw.enc),.map b6 (Gn Value.string (fun x=>Value.agg (Ep.enc x).toArray) x2) x2.length,.blk b1 (Eh.enc Ao) 51] [true,true,true] rfl).k7 3 7 13 16 84 85 86 rfl
   obtain ⟨j3,hj3,h⟩:=Eu h
   refine En (fun a w'=>∃ x3 : List Iw,∃ v6 : Value,j3 x3 = some r ∧ Sx w [] φ2 [.own v6 66 7 x3.length (x3.flatMap Iw.enc),.map b6 (Gn Value.string (fun x=>Value.agg (Ep.enc x).toArray) x2) x2.length,.blk b1 (Eh.enc Ao) 51] [(16,v6)] 123 a w') ?_ ?_
   ·refine wp_block (Hb (fun (ys3 : List Dw) a w'=>∃ i3 : Nat,∃ x3 : List Iw,∃ v6 : Value,(∃ dn,r1.1 = dn ++ ys3 ∧ dn.length = i3) ∧ Lh Ao r1 x2 j3 ys3 i3 x3 = some r ∧ Sx w [] φ2 [.own v6 66 7 x3.length (x3.flatMap Iw.enc),.map b6 (Gn Value.string (fun x=>Value.agg (Ep.enc x).toArray) x2) x2.length,.blk b1 (Eh.enc Ao) 51] [(3,.pointer (some ⟨b1,0,none⟩)),(7,.map (some b2)),(13,.map (some b6)),(16,v6),(84,u4),(85,iV (r1.1.length : Int)),(86,iV (i3 : Int))] 123 a w') List.length r1.1 ⟨0,([] : List Iw),(.slice none 0 0),⟨[],rfl,rfl⟩,h,S.nf [true,true,true] rfl (subR rfl)⟩ ?_)
    clear S h;rintro ys3 a w17 ⟨i3,x3,v6,⟨dn,hd3,hi3⟩,h,S⟩
    cases ys3 with
    | nil =>
     rw [Lh.eq_1] at h
     refine Fr (Vb S Ex rfl rfl rfl fun a S=>Ld ?_)
     replace S:=S.k8 3 7 13 16 84 85 86 87 rfl
     exact Tn (Fs (wp_cond_false ((S.tm rfl).trans (congrArg Value.bool (Io hd3 hi3))) (wp_exit (Ei (Ei (Gp (Tn (⟨x3,v6,h,S.nf [true,true,true] rfl ⟨rfl,trivial⟩⟩))))))))
    | cons y3 ys3 =>
     rw [Lh.eq_2] at h
     refine Fr (Vb S Ex rfl rfl rfl fun a S=>Ld ?_)
     replace S:=S.k8 3 7 13 16 84 85 86 87 rfl
     refine Tn (Fs (wp_cond_true ((S.tm rfl).trans (congrArg Value.bool (Hv hd3 hi3))) (wp_skip (Tn (Fs (wp_block (Fs (Fg ?_))))))))
     obtain ⟨b9,o3,hm5,hr6⟩:=Fd (a:=a) (x:=.tmp 84) (y:=.tmp 86) (ty:=0) Rq (He Dw.enc_ok hs3) (Iq hd3 hi3) rfl (S.tm rfl) (S.tm rfl)
     refine lv S (hr6 _) rfl ?_;clear S;intro a S
     clear hr6
     refine lv S (Fx isAgg109 sizeOf109 (off:=o3) (o:=0) (part:=(Dw.enc y3)) rfl rfl (S.tm rfl) ((hm5.mono hl2).at S.emb)) rfl fun a S=>Hz S zeroValue109 (cs:=[sV An,iV 0,iV 0,iV 0]) rfl rfl ?_;clear S;intro a w19 b10 hz8 hk13 S
     refine Fh S (S.tm rfl) (S.tm rfl) (i:=0) (off:=0) rfl sizeOf109 (vs:=(Dw.enc y3)) rfl rfl rfl rfl ?_;clear S;intro w20 hk14 S
     refine Dz (Vm S rfl rfl fun a S=>Vf Xa S rfl rfl fun a S=>Vl isAgg9 3 S rfl rfl rfl rfl ?_);clear S;intro a S
     obtain ⟨hc2,h⟩:=Ia h
     refine lv S (GI (m:=Ao.Key) (n:=Pd) (S.tm rfl) rfl (by have:=Mn hc2;omega)) rfl ?_;clear S;intro a S
     refine Vf AU S rfl rfl fun a S=>Vl isAgg9 0 S rfl rfl rfl rfl ?_;clear S;intro a S
     obtain ⟨hc3,h⟩:=Ia h
     refine lv S (GI (m:=(Ao.Key ++ Pd)) (n:=y3.Who) (S.tm rfl) (S.tm rfl) (by have:=Mn hc3;omega)) rfl ?_;clear S;intro a S
     refine lv S (GX (kv:=Value.string) (vv:=(fun x=>Value.agg (Ep.enc x).toArray)) (m:=x2) (key:=(Ao.Key ++ Pd) ++ y3.Who) (z:=(Ep.mk 0 0)) (S.map_at (i:=2) rfl) underlying118 (Mz underlying9) zeroValue64 (S.tm rfl) (S.tm rfl)) rfl fun a S=>Vm S rfl rfl fun a S=>Vq S Gx rfl rfl rfl fun a S=>Vq S Gx rfl rfl rfl fun a S=>Hz S zeroValue64 (cs:=[iV 0,iV 0]) rfl rfl ?_;clear S;intro a w21 b11 hz9 hk15 S
     refine Fh S (S.tm rfl) (S.tm rfl) (i:=0) (off:=0) rfl sizeOf64 (vs:=(Ep.enc (Ee x2 ((Ao.Key ++ Pd) ++ y3.Who) (Ep.mk 0 0)))) rfl rfl rfl rfl ?_;clear S;intro w22 hk16 S
     refine Va S rfl rfl fun a S=>Ld ?_
     replace S:=(S.nl [.blk b11 (Ep.enc (Ee x2 ((Ao.Key ++ Pd) ++ y3.Who) (Ep.mk 0 0))) 64,.blk b10 (Dw.enc y3) 109,.own v6 66 7 x3.length (x3.flatMap Iw.enc),.map b6 (Gn Value.string (fun x=>Value.agg (Ep.enc x).toArray) x2) x2.length,.blk b1 (Eh.enc Ao) 51] [true,true,true,true,true] rfl).k10 3 7 13 16 18 19 20 84 85 86 rfl
     refine Tn (Fs (Fr (Vm S rfl rfl fun a S=>Vu S Hh rfl rfl fun a S=>Dl ?_)))
     obtain ⟨j4,hj4,h⟩:=Eu h
     refine En (fun a w'=>∃ x4 : Int,∃ x5 : Int,j4 x4 x5 = some r ∧ Sx w [] φ2 [.blk b11 [iV x4,iV x5] 64,.blk b10 (Dw.enc y3) 109,.own v6 66 7 x3.length (x3.flatMap Iw.enc),.map b6 (Gn Value.string (fun x=>Value.agg (Ep.enc x).toArray) x2) x2.length,.blk b1 (Eh.enc Ao) 51] [(3,.pointer (some ⟨b1,0,none⟩)),(7,.map (some b2)),(13,.map (some b6)),(16,v6),(18,.pointer (some ⟨b10,0,none⟩)),(19,.pointer (some ⟨b11,0,none⟩)),(84,u4),(85,iV (r1.1.length : Int)),(86,iV (i3 : Int))] 123 a w') ?_ ?_
     ·refine Fc h (S.tm rfl) (fun hb3 h=>?_) (fun hb3 h=>?_)
      ·refine Fg (lv S (Mj TL (pv:=[(0,iV 0),(1,iV 1)]) ⟨rfl,rfl,rfl,rfl,trivial⟩ (cs:=[iV 0,iV 1]) (by kernel_rfl)) rfl fun a S=>Fh S (S.tm rfl) (S.tm rfl) (i:=0) (off:=0) rfl sizeOf64 (vs:=[iV 0,iV 1]) rfl rfl rfl rfl ?_);clear S;intro w24 hk17 S
       exact Dl (⟨0,1,h,S.nf [true,true,true,true,true] rfl (subR rfl)⟩)
      ·exact wp_skip (Tn (⟨(Ee x2 ((Ao.Key ++ Pd) ++ y3.Who) (Ep.mk 0 0)).Num,(Ee x2 ((Ao.Key ++ Pd) ++ y3.Who) (Ep.mk 0 0)).Den,h,S.nf [true,true,true,true,true] rfl (subR rfl)⟩))
     clear S h;rintro a w23 ⟨x4,x5,h,S⟩;rw [hj4] at h;clear hj4 j4
     refine Tn (Fg (Vm S rfl rfl fun a S=>Vf AV S rfl rfl fun a S=>Vl isAgg3 1 S rfl rfl rfl rfl fun a S=>Vf AU S rfl rfl fun a S=>Vl isAgg9 1 S rfl rfl rfl rfl fun a S=>Vm S rfl rfl fun a S=>Vf AU S rfl rfl fun a S=>Vl isAgg9 1 S rfl rfl rfl rfl fun a S=>lv S (Pt (kv:=Value.string) (vv:=Value.string) (m:=r1.2.1) (key:=y3.Who) (z:=An) (S.emb _ _ (hl2 _ _ hq1)) underlying104 (Mz underlying9) zeroValue9 (S.tm rfl) (S.tm rfl)) rfl ?_));clear S;intro a S
     refine Vf Ys S rfl rfl fun a S=>Vl isAgg3 1 S rfl rfl rfl rfl fun a S=>Vf MF S rfl rfl fun a S=>Vl isAgg3 1 S rfl rfl rfl rfl fun a S=>lv S (Fx isAgg64 sizeOf64 (off:=0) (o:=0) (part:=[iV x4,iV x5]) rfl rfl (S.tm rfl) (S.cellsAt (i:=0) rfl)) rfl fun a S=>lv S (Mj bt_66 (pv:=[(0,iV y3.Rank),(1,sV y3.Who),(2,sV (Ee r1.2.1 y3.Who An)),(3,iV y3.Time),(4,iV y3.Fault),(5,.agg #[iV x4,iV x5])]) ⟨rfl,(S.tm rfl),rfl,(S.tm rfl),rfl,(S.tm rfl),rfl,(S.tm rfl),rfl,(S.tm rfl),rfl,(S.tm rfl),trivial⟩ (cs:=[iV y3.Rank,sV y3.Who,sV (Ee r1.2.1 y3.Who An),iV y3.Time,iV y3.Fault,iV x4,iV x5]) (by kernel_rfl)) rfl fun a S=>Et S underlying59 sizeOf66 zeroValue66 rfl rfl (pv:=[(0,.agg #[iV y3.Rank,sV y3.Who,sV (Ee r1.2.1 y3.Who An),iV y3.Time,iV y3.Fault,iV x4,iV x5])]) ⟨rfl,(S.tm rfl),trivial⟩ (cs:=[iV y3.Rank,sV y3.Who,sV (Ee r1.2.1 y3.Who An),iV y3.Time,iV y3.Fault,iV x4,iV x5]) (by kernel_rfl) rfl ?_;clear S;intro a w25 b12 hz10 hk18 S
     obtain ⟨hc4,h⟩:=Ia h
     refine Mb JH Iw.enc_ok S (S.tm rfl) (i:=3) rfl (S.tm rfl) (j:=0) rfl (ys:=[(Iw.mk y3.Rank y3.Who (Ee r1.2.1 y3.Who An) y3.Time y3.Fault (Ep.mk x4 x5))]) rfl rfl rfl rfl (by have:=Mn hc4;omega) rfl ?_;clear S;intro v7 a w26 hk19 S
     refine Va S rfl rfl fun a S=>Ld ?_
     replace S:=(S.nl [.own v7 66 7 (x3 ++ [(Iw.mk y3.Rank y3.Who (Ee r1.2.1 y3.Who An) y3.Time y3.Fault (Ep.mk x4 x5))]).length ((x3 ++ [(Iw.mk y3.Rank y3.Who (Ee r1.2.1 y3.Who An) y3.Time y3.Fault (Ep.mk x4 x5))]).flatMap Iw.enc),.map b6 (Gn Value.string (fun x=>Value.agg (Ep.enc x).toArray) x2) x2.length,.blk b1 (Eh.enc Ao) 51] [false,false,false,true,true,true] rfl).k7 3 7 13 16 84 85 86 rfl
     exact Ho (Tn (Fg (Vq S Gf rfl rfl rfl fun a S=>Vm S rfl rfl fun a S=>Dl (⟨ys3,⟨i3 + 1,(x3 ++ [(Iw.mk y3.Rank y3.Who (Ee r1.2.1 y3.Who An) y3.Time y3.Fault (Ep.mk x4 x5))]),v7,⟨_,(hd3).trans (List.append_cons _ _ _),by simp [hi3]⟩,h,S.nf [true,true,true] rfl ⟨rfl,rfl,rfl,rfl,rfl,rfl,(congrArg (fun z=>some (Value.int .i64 z)) (Hw hd3 hi3 (Jn (He Dw.enc_ok hs3)))),trivial⟩⟩,Nat.lt_succ_self _⟩))))
   clear S h;rintro a w18 ⟨x3,v6,h,S⟩;rw [hj3] at h;clear hj3 j3
   refine Tn (Fr (Vm S rfl rfl fun a S=>Va S rfl rfl fun a S=>Vk S rfl rfl fun a S=>Dl (wp_ret ?_)))
   obtain rfl:=Option.some.inj h
   exact Lq S results20 rfl rfl ⟨_,rfl,(Sw S (i:=0) rfl rfl)⟩
set_option maxRecDepth 20000 in
theorem BD (w : World) (Df : Value) (Dg : List Iw) (Cz : Slc (view w []) 7 Df (Dg.map Iw.enc)) (Dh : Value) (Cl : List Iw) (Dj : Slc (view w []) 7 Dh (Cl.map Iw.enc)) (r : Bool) (h : Qq Dg Cl = some r) :
    Calls prog 21 [Df,Dh].toArray w (Ret w [] fun _ v _=>v = bV r):=by
 refine Fe func21 rfl ntmps21 rfl fun a S=>?_
 unfold Qq at h
 replace S:=S.k2 0 1 rfl
 refine Fr (Vk S rfl rfl fun a S=>Dl (Fs (Fr (Vm S rfl rfl fun a S=>lv S (Fz JH (S.tm rfl) (Fl Cz)) rfl fun a S=>Vm S rfl rfl ?_))));clear S;intro a S
 refine lv S (Fz JH (S.tm rfl) (Fl Dj)) rfl fun a S=>Vb S Ky rfl rfl rfl fun a S=>Dl (Fc h (S.tm rfl) (fun hb1 h=>?_) (fun hb1 h=>?_))
 ·refine Fr (Vk S rfl rfl fun a S=>Dl (wp_ret (Dy ?_)))
  obtain rfl:=Option.some.inj h
  exact Eo S results21 rfl rfl
 ·refine wp_skip (Tn (Fs (Fr (Vm S rfl rfl fun a S=>lv S (Fz JH (S.tm rfl) (Fl Cz)) rfl fun a S=>lv S (Rm rfl) rfl fun a S=>Dl ?_))))
  replace S:=S.k4 0 1 12 13 rfl
  obtain ⟨j1,hj1,h⟩:=Eu h
  refine En (fun a w'=>j1 = some r ∧ Sx w [] nov [] [] 26 a w') ?_ ?_
  ·refine wp_block (Hb (fun (ys1 : List Iw) a w'=>∃ i1 : Nat,(∃ dn,Dg = dn ++ ys1 ∧ dn.length = i1) ∧ Ko Cl j1 ys1 i1 = some r ∧ Sx w [] nov [] [(0,Df),(1,Dh),(12,iV (Dg.length : Int)),(13,iV (i1 : Int))] 26 a w') List.length Dg ⟨0,⟨[],rfl,rfl⟩,h,S.nf [] rfl (subR rfl)⟩ ?_)
   clear S h;rintro ys1 a w1 ⟨i1,⟨dn,hd1,hi1⟩,h,S⟩
   cases ys1 with
   | nil =>
    rw [Ko.eq_1] at h
    refine Fr (Vb S Ex rfl rfl rfl fun a S=>Ld ?_)
    replace S:=S.k5 0 1 12 13 14 rfl
    exact Tn (Fs (wp_cond_false ((S.tm rfl).trans (congrArg Value.bool (Io hd1 hi1))) (wp_exit (Ei (Ei (Gp (Tn (⟨h,S.nf [] rfl trivial⟩))))))))
   | cons y1 ys1 =>
    rw [Ko.eq_2] at h
    refine Fr (Vb S Ex rfl rfl rfl fun a S=>Ld ?_)
    replace S:=S.k5 0 1 12 13 14 rfl
    refine Tn (Fs (wp_cond_true ((S.tm rfl).trans (congrArg Value.bool (Hv hd1 hi1))) (wp_skip (Tn (Fs (wp_block (Fr (Vm S rfl rfl fun a S=>Va S rfl rfl ?_))))))));clear S;intro a S
    refine Dl (Fs (Hd [] ([]) Tryz.mixed S rfl (by kernel_rfl) ?_));clear S;intro w3 hk1 hsel S
    refine Kz [0,1,2,3,4,5,6,7,8] hsel (by kernel_rfl) rfl ?_
    clear hsel
    refine Gk S rfl (Rm (S.tm rfl)) rfl fun a S=>Gk S rfl (Rm (S.tm rfl)) rfl ?_;clear S;intro a S
    obtain ⟨b1,o1,hm1,hr1⟩:=Fd (a:=a) (x:=.tmp 16) (y:=.tmp 17) (ty:=0) JH Cz (Iq hd1 hi1) rfl (S.tm rfl) (S.tm rfl)
    refine Gk S rfl (hr1 _) rfl ?_;clear S;intro a S
    clear hr1
    refine Gk S rfl (Fx isAgg66 sizeOf66 (off:=o1) (o:=0) (part:=(Iw.enc y1)) rfl rfl (S.tm rfl) (hm1.at S.emb0)) rfl fun a S=>Gk S rfl (Rm (S.tm rfl)) rfl fun a S=>Gk S rfl (Rm (S.tm rfl)) rfl ?_;clear S;intro a S
    obtain ⟨hc1,h⟩:=Ia h
    obtain ⟨b2,o2,hm2,hr2⟩:=Fd (a:=a) (x:=.tmp 20) (y:=.tmp 21) (ty:=0) JH Dj (Ed hc1).1 (Ed hc1).2 (S.tm rfl) (S.tm rfl)
    refine Gk S rfl (hr2 _) rfl ?_;clear S;intro a S
    clear hr2
    refine Gk S rfl (Fx isAgg66 sizeOf66 (off:=o2) (o:=0) (part:=(Iw.enc (Iw.mk ((nth Cl (i1 : Int)).Rank) ((nth Cl (i1 : Int)).Who) ((nth Cl (i1 : Int)).Club) ((nth Cl (i1 : Int)).Time) ((nth Cl (i1 : Int)).Fault) ((nth Cl (i1 : Int)).Points)))) rfl rfl (S.tm rfl) (hm2.at S.emb0)) rfl fun a S=>Gk S rfl (RJ (m:=y1) (n:=(Iw.mk ((nth Cl (i1 : Int)).Rank) ((nth Cl (i1 : Int)).Who) ((nth Cl (i1 : Int)).Club) ((nth Cl (i1 : Int)).Time) ((nth Cl (i1 : Int)).Fault) ((nth Cl (i1 : Int)).Points))) (S.tm rfl) (S.tm rfl)) rfl fun a S=>Ig ?_
    replace S:=S.k5 0 1 12 13 24 rfl
    refine Tn (Fc h (S.tm rfl) (fun hb2 h=>?_) (fun hb2 h=>?_))
    ·refine Fr (Vk S rfl rfl fun a S=>Dl (wp_ret (Fq (Dy (Dy (Fq (Dy ?_)))))))
     refine Dy ?_
     obtain rfl:=Option.some.inj h
     exact Eo S results21 rfl rfl
    ·exact wp_skip (Ho (Tn (Fg (Vq S Gf rfl rfl rfl fun a S=>Vm S rfl rfl fun a S=>Dl (⟨ys1,⟨i1 + 1,⟨_,(hd1).trans (List.append_cons _ _ _),by simp [hi1]⟩,h,S.nf [] rfl ⟨rfl,rfl,rfl,(congrArg (fun z=>some (Value.int .i64 z)) (Hw hd1 hi1 (Jn Cz))),trivial⟩⟩,Nat.lt_succ_self _⟩)))))
  clear S h;rintro a w2 ⟨h,S⟩;rw [hj1] at h;clear hj1 j1
  refine Tn (Fr (Vk S rfl rfl fun a S=>Dl (wp_ret ?_)))
  obtain rfl:=Option.some.inj h
  exact Eo S results21 rfl rfl
theorem Zz (w : World) (Af : Mp) (Cn : R32) (Cs : Tv (view w []) Af Cn) (Ac : Value) (Ag : List Dt) (Ae : Slc (view w []) 11 Ac (Ag.map Dt.enc)) (Bb : Int) (Cp : Int) (r : (List ByteArray) × Int) (h : Qr Af Ag Bb Cp = some r) :
    Calls prog 8 [.agg (R32.enc Cn).toArray,Ac,iV Bb,iV Cp].toArray w (Ret w [] fun τ v _=>∃ u1 : Value,v = .tuple #[u1,iV r.2] ∧ Td τ 9 1 u1 r.1.length (r.1.flatMap Xh)):=by
 obtain ⟨u1,u2,rfl,hs1,⟨u3,rfl,hs2⟩⟩:=Cs
 refine Fe func8 rfl ntmps8 rfl fun a S=>?_
 unfold Qr at h
 replace S:=S.k4 0 1 2 3 rfl
 refine Fr (My S (S.tm rfl) (cs:=[u1.val,u3.val,iV Af.Table.Relay,iV Af.Table.Most,iV Af.Final.Size,iV Af.Final.Many,iV Af.Final.Reserves]) rfl rfl ?_);clear S;intro a w1 b1 hz1 hk1 S
 refine Vk S rfl rfl fun a S=>Vk S rfl rfl fun a S=>Dz (lv S (Fx isAgg32 sizeOf32 (off:=0) (o:=0) (part:=[u1.val,u3.val,iV Af.Table.Relay,iV Af.Table.Most,iV Af.Final.Size,iV Af.Final.Many,iV Af.Final.Reserves]) rfl rfl (S.tm rfl) (S.cellsAt (i:=0) rfl)) rfl ?_);clear S;intro a S
 iterate 3 (refine Vm S rfl rfl ?_;clear S;intro a S)
 refine Et S underlying22 sizeOf3 zeroValue3 rfl rfl (pv:=[(0,iV Bb),(1,iV Cp)]) ⟨rfl,(S.tm rfl),rfl,(S.tm rfl),trivial⟩ (cs:=[iV Bb,iV Cp]) (by kernel_rfl) rfl ?_;clear S;intro a w2 b2 hz2 hk2 S
 replace S:=S.litOwn (i:=0) (xs:=[Bb,Cp]) rfl Ih rfl rfl rfl
 replace S:=S.nk [.own (.slice (some ⟨b2,0,none⟩) 2 2) 3 1 ([Bb,Cp] : List Int).length (([Bb,Cp] : List Int).flatMap eInt),.blk b1 [u1.val,u3.val,iV Af.Table.Relay,iV Af.Table.Most,iV Af.Final.Size,iV Af.Final.Many,iV Af.Final.Reserves] 32] [(0,.agg #[u1.val,u3.val,iV Af.Table.Relay,iV Af.Table.Most,iV Af.Final.Size,iV Af.Final.Many,iV Af.Final.Reserves]),(1,Ac),(2,iV Bb),(3,iV Cp),(4,.pointer (some ⟨b1,0,none⟩)),(8,.slice none 0 0),(9,iV 0),(22,.agg #[u1.val,u3.val,iV Af.Table.Relay,iV Af.Table.Most,iV Af.Final.Size,iV Af.Final.Many,iV Af.Final.Reserves]),(23,Ac),(24,iV Bb),(25,iV Cp),(26,(.slice (some ⟨b2,0,none⟩) 2 2))] [] rfl (subR rfl)
 obtain ⟨φ1,hl1,hs3,S⟩:=S.freezeT (xs:=([Bb,Cp] : List Int)) (enc:=eInt) (i:=0) rfl (fun _ h=>by cases h)
 replace S:=S.nk [.blk b1 [u1.val,u3.val,iV Af.Table.Relay,iV Af.Table.Most,iV Af.Final.Size,iV Af.Final.Many,iV Af.Final.Reserves] 32] [(0,.agg #[u1.val,u3.val,iV Af.Table.Relay,iV Af.Table.Most,iV Af.Final.Size,iV Af.Final.Many,iV Af.Final.Reserves]),(1,Ac),(2,iV Bb),(3,iV Cp),(4,.pointer (some ⟨b1,0,none⟩)),(8,.slice none 0 0),(9,iV 0),(22,.agg #[u1.val,u3.val,iV Af.Table.Relay,iV Af.Table.Most,iV Af.Final.Size,iV Af.Final.Many,iV Af.Final.Reserves]),(23,Ac),(24,iV Bb),(25,iV Cp),(26,(.slice (some ⟨b2,0,none⟩) 2 2))] [] rfl (subR rfl)
 obtain ⟨r1,hr1,h⟩:=Fb h
 have hz3:=S.keep.size
 refine Ec S (fun _=>Dv (vs:=[.agg (R32.enc (R32.mk u1 (R28.mk u3 Af.Table.Relay Af.Table.Most) Af.Final)).toArray,Ac,(.slice (some ⟨b2,0,none⟩) 2 2)]) ⟨(S.tm rfl),(S.tm rfl),(S.tm rfl),trivial⟩ call17) (LB _ (join (view w []) φ1) (Nx (S.le_arg Ej) (S.le_new Ej)) Af (R32.mk u1 (R28.mk u3 Af.Table.Relay Af.Table.Most) Af.Final) ⟨u1,(R28.mk u3 Af.Table.Relay Af.Table.Most),rfl,(hs1.mono (le_join_left _ _)),⟨u3,rfl,(hs2.mono (le_join_left _ _))⟩⟩ Ac Ag (Ae.mono (le_join_left _ _)) (.slice (some ⟨b2,0,none⟩) 2 2) ([Bb,Cp] : List Int) ((He Ih hs3).mono (S.all_right (View.le_refl _))) _ hr1) rfl ?_;clear S;intro v1 a w3 hv1 hk3 hn1 S
 obtain ⟨u4,rfl,ho1⟩:=hv1
 obtain ⟨φ2,hl2,hm1,S⟩:=S.see' hn1 hz3
 have hq1:=DR.mono (Uo (Ty hl2 hm1)) (Ty hl2 hm1) ho1
 refine Vm S rfl rfl fun a S=>Vq S Gx rfl rfl rfl fun a S=>Vq S Gx rfl rfl rfl fun a S=>Va S rfl rfl fun a S=>Va S rfl rfl fun a S=>Ld ?_
 replace S:=(S.nl [.blk b1 [u1.val,u3.val,iV Af.Table.Relay,iV Af.Table.Most,iV Af.Final.Size,iV Af.Final.Many,iV Af.Final.Reserves] 32] [true] rfl).k5 1 2 4 10 11 rfl
 refine Tn (Fs (Fr (Vm S rfl rfl fun a S=>Vq S Ky rfl rfl rfl fun a S=>Dl (Fc h (S.tm rfl) (fun hb1 h=>?_) (fun hb1 h=>?_)))))
 ·refine Fr (Vm S rfl rfl fun a S=>Vk S rfl rfl fun a S=>Va S rfl rfl fun a S=>Dl (wp_ret (Dy ?_)))
  obtain rfl:=Option.some.inj h
  exact Lq S results8 rfl rfl ⟨_,rfl,(Ow _ _ _)⟩
 ·refine wp_skip (Tn (Fr (lv S (Fx isAgg32 sizeOf32 (off:=0) (o:=0) (part:=[u1.val,u3.val,iV Af.Table.Relay,iV Af.Table.Most,iV Af.Final.Size,iV Af.Final.Many,iV Af.Final.Reserves]) rfl rfl (S.tm rfl) (S.cellsAt (i:=0) rfl)) rfl fun a S=>Vm S rfl rfl fun a S=>Vm S rfl rfl ?_)));clear S;intro a S
  obtain ⟨r2,hr2,h⟩:=Fb h
  have hz4:=S.keep.size
  refine Ec S (fun _=>Dv (vs:=[.agg (R32.enc (R32.mk u1 (R28.mk u3 Af.Table.Relay Af.Table.Most) Af.Final)).toArray,Ac,iV Bb]) ⟨(S.tm rfl),(S.tm rfl),(S.tm rfl),trivial⟩ call18) (Zx _ (join (view w []) φ2) (Nx (S.le_arg Ej) (S.le_new Ej)) Af (R32.mk u1 (R28.mk u3 Af.Table.Relay Af.Table.Most) Af.Final) ⟨u1,(R28.mk u3 Af.Table.Relay Af.Table.Most),rfl,(hs1.mono (le_join_left _ _)),⟨u3,rfl,(hs2.mono (le_join_left _ _))⟩⟩ Ac Ag (Ae.mono (le_join_left _ _)) Bb _ hr2) rfl ?_;clear S;intro v2 a w4 hv2 hk4 hn2 S
  obtain ⟨φ3,hl3,hm2,S⟩:=S.see' hn2 hz4
  have hq2:=DR.mono (Uo (Ty hl3 hm2)) (Ty hl3 hm2) hv2
  refine Va S rfl rfl fun a S=>Dl (Fs (Fr (Vm S rfl rfl ?_)));clear S;intro a S
  obtain ⟨r3,hr3,h⟩:=Fb h
  obtain ⟨b3,q1,rfl,hq3,hb2⟩:=hq2.deref hr3
  obtain ⟨u6,u10,rfl,⟨u7,u8,rfl,hs4,⟨u9,rfl,hs5⟩⟩,hs6⟩:=hq3
  replace hb2 : (join (view w []) φ3) b3 = some (.cells [u7.val,u9.val,iV r3.p_.Table.Relay,iV r3.p_.Table.Most,iV r3.p_.Final.Size,iV r3.p_.Final.Many,iV r3.p_.Final.Reserves,u10.val].toArray 99 (0,0)):=hb2
  obtain ⟨r4,hr4,h⟩:=Fb h
  refine Ec S (fun _=>Dv (vs:=[.pointer (some ⟨b3,0,none⟩)]) ⟨(S.tm rfl),trivial⟩ call19) (EE _ b3 r3.p_ (R32.mk u7 (R28.mk u9 r3.p_.Table.Relay r3.p_.Table.Most) r3.p_.Final) ⟨u7,(R28.mk u9 r3.p_.Table.Relay r3.p_.Table.Most),rfl,(hs4.mono (Nx (S.le_arg Ej) (S.le_new Ej))),⟨u9,rfl,(hs5.mono (Nx (S.le_arg Ej) (S.le_new Ej)))⟩⟩ u10.val r3.deeds_ (hs6.mono (Nx (S.le_arg Ej) (S.le_new Ej))) ((Nx (S.le_arg Ej) (S.le_new Ej)) _ _ hb2) _ hr4) rfl ?_;clear S;intro v3 a w5 hv3 hk5 hn3 S
  subst hv3
  refine Va S rfl rfl fun a S=>Ld ?_
  replace S:=S.k4 4 10 12 13 rfl
  refine Tn (Fr (Vm S rfl rfl fun a S=>Vq S Ky rfl rfl rfl fun a S=>Dl (Fc h (S.tm rfl) (fun hb3 h=>?_) (fun hb3 h=>?_))))
  ·refine Fr (Vm S rfl rfl fun a S=>Vk S rfl rfl fun a S=>Va S rfl rfl fun a S=>Dl (wp_ret (Dy ?_)))
   obtain rfl:=Option.some.inj h
   exact Lq S results8 rfl rfl ⟨_,rfl,(Ow _ _ _)⟩
  ·refine wp_skip (Tn (Fs (Fr (Vm S rfl rfl ?_))));clear S;intro a S
   obtain ⟨r5,hr5,h⟩:=Fb h
   obtain ⟨b4,q2,rfl,hq4,hb4⟩:=hq1.deref hr5
   obtain ⟨u11,u15,rfl,⟨u12,u13,rfl,hs7,⟨u14,rfl,hs8⟩⟩,hs9⟩:=hq4
   replace hb4 : (join (view w []) φ2) b4 = some (.cells [u12.val,u14.val,iV r5.p_.Table.Relay,iV r5.p_.Table.Most,iV r5.p_.Final.Size,iV r5.p_.Final.Many,iV r5.p_.Final.Reserves,u15.val].toArray 99 (0,0)):=hb4
   obtain ⟨r6,hr6,h⟩:=Fb h
   refine Ec S (fun _=>Dv (vs:=[.pointer (some ⟨b4,0,none⟩)]) ⟨(S.tm rfl),trivial⟩ call19) (EE _ b4 r5.p_ (R32.mk u12 (R28.mk u14 r5.p_.Table.Relay r5.p_.Table.Most) r5.p_.Final) ⟨u12,(R28.mk u14 r5.p_.Table.Relay r5.p_.Table.Most),rfl,(hs7.mono (Nx (S.le_arg Ej) (View.le_trans hl3 (S.le_new Ej)))),⟨u14,rfl,(hs8.mono (Nx (S.le_arg Ej) (View.le_trans hl3 (S.le_new Ej))))⟩⟩ u15.val r5.deeds_ (hs9.mono (Nx (S.le_arg Ej) (View.le_trans hl3 (S.le_new Ej)))) ((Nx (S.le_arg Ej) (View.le_trans hl3 (S.le_new Ej))) _ _ hb4) _ hr6) rfl ?_;clear S;intro v4 a w6 hv4 hk6 hn4 S
   subst hv4
   refine Va S rfl rfl fun a S=>Dz (Vm S rfl rfl fun a S=>Vq S Ky rfl rfl rfl fun a S=>Dl (Fc h (S.tm rfl) (fun hb5 h=>?_) (fun hb5 h=>?_)))
   ·refine Fr (Vm S rfl rfl fun a S=>Vk S rfl rfl fun a S=>Va S rfl rfl fun a S=>Dl (wp_ret (Dy ?_)))
    obtain rfl:=Option.some.inj h
    exact Lq S results8 rfl rfl ⟨_,rfl,(Ow _ _ _)⟩
   ·refine wp_skip (Tn (Fr (Vk S rfl rfl ?_)));clear S;intro a S
    replace S:=S.nil 9 1
    refine Dl (Fs (Fr (Vf Yf S rfl rfl fun a S=>Vl isAgg26 1 S rfl rfl rfl rfl fun a S=>lv S (Fz Vi (S.tm rfl) (Fl hs1)) rfl fun a S=>lv S (Rm rfl) rfl fun a S=>Ld ?_)))
    replace S:=(S.nl [.own (.slice none 0 0) 9 1 ([] : List ByteArray).length (([] : List ByteArray).flatMap Xh)] [true,false] rfl).k6 10 12 15 48 49 50 rfl
    refine Tn ?_
    obtain ⟨j1,hj1,h⟩:=Eu h
    refine En (fun a w'=>∃ x1 : List ByteArray,∃ φ4 : View,∃ v5 : Value,j1 x1 = some r ∧ View.le φ3 φ4 ∧ Sx w [] φ4 [.own v5 9 1 x1.length (x1.flatMap Xh)] [(15,v5)] 83 a w') ?_ ?_
    ·refine wp_block (Hb (fun (ys1 : List Eh) a w'=>∃ i1 : Nat,∃ x1 : List ByteArray,∃ φ4 : View,∃ v5 : Value,(∃ dn,Af.Races = dn ++ ys1 ∧ dn.length = i1) ∧ Mu r3 r5 j1 ys1 i1 x1 = some r ∧ View.le φ3 φ4 ∧ Sx w [] φ4 [.own v5 9 1 x1.length (x1.flatMap Xh)] [(10,.pointer (some ⟨b4,0,none⟩)),(12,.pointer (some ⟨b3,0,none⟩)),(15,v5),(48,u1.val),(49,iV (Af.Races.length : Int)),(50,iV (i1 : Int))] 83 a w') List.length Af.Races ⟨0,([] : List ByteArray),φ3,(.slice none 0 0),⟨[],rfl,rfl⟩,h,View.le_refl _,S.nf [true] rfl (subR rfl)⟩ ?_)
     clear S h;rintro ys1 a w7 ⟨i1,x1,φ4,v5,⟨dn,hd1,hi1⟩,h,hl4,S⟩
     cases ys1 with
     | nil =>
      rw [Mu.eq_1] at h
      refine Fr (Vb S Ex rfl rfl rfl fun a S=>Ld ?_)
      replace S:=S.k7 10 12 15 48 49 50 51 rfl
      exact Tn (Fs (wp_cond_false ((S.tm rfl).trans (congrArg Value.bool (Io hd1 hi1))) (wp_exit (Ei (Ei (Gp (Tn (⟨x1,φ4,v5,h,hl4,S.nf [true] rfl ⟨rfl,trivial⟩⟩))))))))
     | cons y1 ys1 =>
      rw [Mu.eq_2] at h
      refine Fr (Vb S Ex rfl rfl rfl fun a S=>Ld ?_)
      replace S:=S.k7 10 12 15 48 49 50 51 rfl
      refine Tn (Fs (wp_cond_true ((S.tm rfl).trans (congrArg Value.bool (Hv hd1 hi1))) (wp_skip (Tn (Fs ?_)))))
      obtain ⟨j2,hj2,h⟩:=Eu h
      refine En (fun a w'=>∃ x2 : List ByteArray,∃ φ5 : View,∃ v6 : Value,j2 x2 = some r ∧ View.le φ4 φ5 ∧ Sx w [] φ5 [.own v6 9 1 x2.length (x2.flatMap Xh)] [(10,.pointer (some ⟨b4,0,none⟩)),(12,.pointer (some ⟨b3,0,none⟩)),(15,v6),(48,u1.val),(49,iV (Af.Races.length : Int)),(50,iV (i1 : Int))] 83 a w') ?_ ?_
      ·refine wp_block (Fs (Fg ?_))
       obtain ⟨b5,o1,hm3,hr7⟩:=Fd (a:=a) (x:=.tmp 48) (y:=.tmp 50) (ty:=0) Vi hs1 (Iq hd1 hi1) rfl (S.tm rfl) (S.tm rfl)
       refine lv S (hr7 _) rfl ?_;clear S;intro a S
       clear hr7
       refine lv S (Fx isAgg51 sizeOf51 (off:=o1) (o:=0) (part:=(Eh.enc y1)) rfl rfl (S.tm rfl) (hm3.at S.emb0)) rfl fun a S=>Hz S zeroValue51 (cs:=[sV An,iV 0,iV 0,iV 0,iV 0,iV 0,iV 0,iV 0]) rfl rfl ?_;clear S;intro a w10 b6 hz5 hk7 S
       refine Fh S (S.tm rfl) (S.tm rfl) (i:=0) (off:=0) rfl sizeOf51 (vs:=(Eh.enc y1)) rfl rfl rfl rfl ?_;clear S;intro w11 hk8 S
       refine Dz (Vm S rfl rfl fun a S=>lv S (Fx isAgg51 sizeOf51 (off:=0) (o:=0) (part:=(Eh.enc y1)) rfl rfl (S.tm rfl) (S.cellsAt (i:=0) rfl)) rfl ?_);clear S;intro a S
       obtain ⟨r7,hr8,h⟩:=Fb h
       have hz6:=S.keep.size
       refine Ec S (fun _=>Dv (vs:=[.pointer (some ⟨b3,0,none⟩),.agg (Eh.enc y1).toArray]) ⟨(S.tm rfl),(S.tm rfl),trivial⟩ call20) (Yx _ b3 r3.p_ (R32.mk u7 (R28.mk u9 r3.p_.Table.Relay r3.p_.Table.Most) r3.p_.Final) ⟨u7,(R28.mk u9 r3.p_.Table.Relay r3.p_.Table.Most),rfl,(hs4.mono (Nx (S.le_arg Ej) (View.le_trans hl4 (S.le_new Ej)))),⟨u9,rfl,(hs5.mono (Nx (S.le_arg Ej) (View.le_trans hl4 (S.le_new Ej))))⟩⟩ u10.val r3.deeds_ (hs6.mono (Nx (S.le_arg Ej) (View.le_trans hl4 (S.le_new Ej)))) ((Nx (S.le_arg Ej) (View.le_trans hl4 (S.le_new Ej))) _ _ hb2) y1 _ hr8) rfl ?_;clear S;intro v7 a w12 hv5 hk9 hn5 S
       obtain ⟨u16,rfl,ho3⟩:=hv5
       obtain ⟨φ6,hl6,hm4,S⟩:=S.see' hn5 hz6
       have hs10:=ho3.mono hm4
       refine Vm S rfl rfl fun a S=>Vq S Gx rfl rfl rfl fun a S=>Vq S Gx rfl rfl rfl fun a S=>Va S rfl rfl fun a S=>Va S rfl rfl fun a S=>Ld ?_
       replace S:=(S.nl [.blk b6 (Eh.enc y1) 51,.own v5 9 1 x1.length (x1.flatMap Xh)] [true,true] rfl).k9 10 12 15 17 18 19 48 49 50 rfl
       refine Tn (Fs (Fr (Vm S rfl rfl fun a S=>Vq S Ky rfl rfl rfl fun a S=>Dl (Fc h (S.tm rfl) (fun hb6 h=>?_) (fun hb6 h=>?_)))))
       ·refine Fr (Vm S rfl rfl fun a S=>Vk S rfl rfl fun a S=>Va S rfl rfl fun a S=>Dl (wp_ret (Dy (Fq ?_))))
        iterate 3 (refine Dy ?_)
        refine Fq (Dy (Dy ?_))
        obtain rfl:=Option.some.inj h
        exact Lq S results8 rfl rfl ⟨_,rfl,(Ow _ _ _)⟩
       ·refine wp_skip (Tn (Fr (Vm S rfl rfl fun a S=>lv S (Fx isAgg51 sizeOf51 (off:=0) (o:=0) (part:=(Eh.enc y1)) rfl rfl (S.tm rfl) (S.cellsAt (i:=0) rfl)) rfl ?_)));clear S;intro a S
        obtain ⟨r8,hr9,h⟩:=Fb h
        have hz7:=S.keep.size
        refine Ec S (fun _=>Dv (vs:=[.pointer (some ⟨b4,0,none⟩),.agg (Eh.enc y1).toArray]) ⟨(S.tm rfl),(S.tm rfl),trivial⟩ call20) (Yx _ b4 r5.p_ (R32.mk u12 (R28.mk u14 r5.p_.Table.Relay r5.p_.Table.Most) r5.p_.Final) ⟨u12,(R28.mk u14 r5.p_.Table.Relay r5.p_.Table.Most),rfl,(hs7.mono (Nx (S.le_arg Ej) (View.le_trans (View.le_trans (View.le_trans hl3 hl4) hl6) (S.le_new Ej)))),⟨u14,rfl,(hs8.mono (Nx (S.le_arg Ej) (View.le_trans (View.le_trans (View.le_trans hl3 hl4) hl6) (S.le_new Ej))))⟩⟩ u15.val r5.deeds_ (hs9.mono (Nx (S.le_arg Ej) (View.le_trans (View.le_trans (View.le_trans hl3 hl4) hl6) (S.le_new Ej)))) ((Nx (S.le_arg Ej) (View.le_trans (View.le_trans (View.le_trans hl3 hl4) hl6) (S.le_new Ej))) _ _ hb4) y1 _ hr9) rfl ?_;clear S;intro v8 a w13 hv6 hk10 hn6 S
        obtain ⟨u17,rfl,ho4⟩:=hv6
        obtain ⟨φ7,hl7,hm5,S⟩:=S.see' hn6 hz7
        have hs11:=ho4.mono hm5
        refine Vm S rfl rfl fun a S=>Vq S Gx rfl rfl rfl fun a S=>Vq S Gx rfl rfl rfl fun a S=>Va S rfl rfl fun a S=>Va S rfl rfl fun a S=>Ld ?_
        replace S:=S.k10 10 12 15 17 18 19 20 48 49 50 rfl
        refine Tn (Fs (Fr (Vm S rfl rfl fun a S=>Vq S Ky rfl rfl rfl fun a S=>Dl (Fc h (S.tm rfl) (fun hb7 h=>?_) (fun hb7 h=>?_)))))
        ·refine Fr (Vm S rfl rfl fun a S=>Vk S rfl rfl fun a S=>Va S rfl rfl fun a S=>Ld ?_)
         replace S:=S.n0.k2 8 9 rfl
         refine Tn (wp_ret (Dy (Fq ?_)))
         iterate 3 (refine Dy ?_)
         refine Fq (Dy (Dy ?_))
         obtain rfl:=Option.some.inj h
         exact Lq S results8 rfl rfl ⟨_,rfl,(Ow _ _ _)⟩
        ·refine wp_skip (Tn (Fr (Vm S rfl rfl fun a S=>Vm S rfl rfl ?_)));clear S;intro a S
         obtain ⟨r9,hr10,h⟩:=Fb h
         refine Ec S (fun _=>Dv (vs:=[u16,u17]) ⟨(S.tm rfl),(S.tm rfl),trivial⟩ call21) (BD _ u16 r7.1 ((He Iw.enc_ok hs10).mono (View.le_trans hl7 (S.le_new Ej))) u17 r8.1 ((He Iw.enc_ok hs11).mono (S.le_new Ej)) _ hr10) rfl ?_;clear S;intro v9 a w14 hv7 hk11 hn7 S
         subst hv7
         refine Vu S Hh rfl rfl fun a S=>Ld ?_
         replace S:=S.k8 10 12 15 17 48 49 50 75 rfl
         refine Tn ?_
         obtain ⟨j3,hj3,h⟩:=Eu h
         refine En (fun a w'=>∃ x3 : List ByteArray,∃ v10 : Value,j3 x3 = some r ∧ Sx w [] φ7 [.blk b6 (Eh.enc y1) 51,.own v10 9 1 x3.length (x3.flatMap Xh)] [(10,.pointer (some ⟨b4,0,none⟩)),(12,.pointer (some ⟨b3,0,none⟩)),(15,v10),(48,u1.val),(49,iV (Af.Races.length : Int)),(50,iV (i1 : Int))] 83 a w') ?_ ?_
         ·refine Fc h (S.tm rfl) (fun hb8 h=>?_) (fun hb8 h=>?_)
          ·refine Fg (Vm S rfl rfl fun a S=>Vf Xa S rfl rfl fun a S=>Vl isAgg9 0 S rfl rfl rfl rfl fun a S=>Et S underlying40 sizeOf9 zeroValue9 rfl rfl (pv:=[(0,sV y1.Key)]) ⟨rfl,(S.tm rfl),trivial⟩ (cs:=[sV y1.Key]) (by kernel_rfl) rfl ?_);clear S;intro a w16 b7 hz8 hk12 S
           obtain ⟨hc1,h⟩:=Ia h
           refine Mb Wv Qm S (S.tm rfl) (i:=2) rfl (S.tm rfl) (j:=0) rfl (ys:=[y1.Key]) rfl rfl rfl rfl (by have:=Mn hc1;omega) rfl ?_;clear S;intro v11 a w17 hk13 S
           exact Va S rfl rfl fun a S=>Dl (⟨(x1 ++ [y1.Key]),v11,h,S.nf [false,true,true] rfl (subR rfl)⟩)
          ·exact wp_skip (Tn (⟨x1,v5,h,S.nf [true,true] rfl (subR rfl)⟩))
         clear S h;rintro a w15 ⟨x3,v10,h,S⟩;rw [hj3] at h;clear hj3 j3
         exact Ho (Tn (⟨x3,φ7,v10,h,(View.le_trans hl6 hl7),S.nf [false,true] rfl (subR rfl)⟩))
      clear S h;rintro a w9 ⟨x2,φ5,v6,h,hl5,S⟩;rw [hj2] at h;clear hj2 j2
      exact Tn (Fg (Vq S Gf rfl rfl rfl fun a S=>Vm S rfl rfl fun a S=>Dl (⟨ys1,⟨i1 + 1,x2,φ5,v6,⟨_,(hd1).trans (List.append_cons _ _ _),by simp [hi1]⟩,h,(View.le_trans hl4 hl5),S.nf [true] rfl ⟨rfl,rfl,rfl,rfl,rfl,(congrArg (fun z=>some (Value.int .i64 z)) (Hw hd1 hi1 (Jn hs1))),trivial⟩⟩,Nat.lt_succ_self _⟩)))
    clear S h;rintro a w8 ⟨x1,φ4,v5,h,hl4,S⟩;rw [hj1] at h;clear hj1 j1
    refine Tn (Fr (Vm S rfl rfl fun a S=>Va S rfl rfl fun a S=>Vk S rfl rfl fun a S=>Dl (wp_ret ?_)))
    obtain rfl:=Option.some.inj h
    exact Lq S results8 rfl rfl ⟨_,rfl,(Sw S (i:=0) rfl rfl)⟩
theorem Yh (w : World) (Ac : Value) (Ag : List Int) (Ae : Slc (view w []) 1 Ac (Ag.map eInt)) (r : Int) (h : Ic Ag = r) :
    Calls prog 9 [Ac].toArray w (Ret w [] fun _ v _=>v = iV r):=by
 refine Fe func9 rfl ntmps9 rfl fun a S=>?_
 unfold Ic at h
 replace S:=S.k1 0 rfl
 refine Fr (Vk S rfl rfl fun a S=>Dl (Fs (Fr (Vm S rfl rfl fun a S=>lv S (Fz sl_67 (S.tm rfl) (Fl Ae)) rfl fun a S=>lv S (Rm rfl) rfl ?_))));clear S;intro a S
 refine Dl ?_
 replace S:=S.k3 5 6 7 rfl
 obtain ⟨j1,hj1,h⟩:=Eu h
 refine En (fun a w'=>j1 = r ∧ Sx w [] nov [] [] 15 a w') ?_ ?_
 ·refine wp_block (Hb (fun (ys1 : List Int) a w'=>∃ i1 : Nat,(∃ dn,Ag = dn ++ ys1 ∧ dn.length = i1) ∧ Nc j1 ys1 i1 = r ∧ Sx w [] nov [] [(5,Ac),(6,iV (Ag.length : Int)),(7,iV (i1 : Int))] 15 a w') List.length Ag ⟨0,⟨[],rfl,rfl⟩,h,S.nf [] rfl (subR rfl)⟩ ?_)
  clear S h;rintro ys1 a w1 ⟨i1,⟨dn,hd1,hi1⟩,h,S⟩
  cases ys1 with
  | nil =>
   rw [Nc.eq_1] at h
   refine Fr (Vb S Ex rfl rfl rfl fun a S=>Ld ?_)
   replace S:=S.k4 5 6 7 8 rfl
   exact Tn (Fs (wp_cond_false ((S.tm rfl).trans (congrArg Value.bool (Io hd1 hi1))) (wp_exit (Ei (Ei (Gp (Tn (⟨h,S.nf [] rfl trivial⟩))))))))
  | cons y1 ys1 =>
   rw [Nc.eq_2] at h
   refine Fr (Vb S Ex rfl rfl rfl fun a S=>Ld ?_)
   replace S:=S.k4 5 6 7 8 rfl
   refine Tn (Fs (wp_cond_true ((S.tm rfl).trans (congrArg Value.bool (Hv hd1 hi1))) (wp_skip (Tn (Fs (wp_block (Fs (Fg ?_))))))))
   obtain ⟨b1,o1,hm1,hr1⟩:=Fd (a:=a) (x:=.tmp 5) (y:=.tmp 7) (ty:=0) sl_67 Ae (Iq hd1 hi1) rfl (S.tm rfl) (S.tm rfl)
   refine lv S (hr1 _) rfl ?_;clear S;intro a S
   clear hr1
   refine lv S (Hp isAgg41 (off:=o1) (o:=0) (S.tm rfl) (hm1.at S.emb0) rfl) rfl fun a S=>Va S rfl rfl fun a S=>Dz (Vm S rfl rfl fun a S=>Vq S Ky rfl rfl rfl fun a S=>Dl (Fc h (S.tm rfl) (fun hb1 h=>?_) (fun hb1 h=>?_)))
   ·refine Fr (Vm S rfl rfl fun a S=>Va S rfl rfl fun a S=>Dl (wp_ret (Fq (Dy (Dy (Fq ?_))))))
    refine Dy (Dy ?_)
    subst h
    exact Eo S results9 rfl rfl
   ·exact wp_skip (Ho (Tn (Fg (Vq S Gf rfl rfl rfl fun a S=>Vm S rfl rfl fun a S=>Dl (⟨ys1,⟨i1 + 1,⟨_,(hd1).trans (List.append_cons _ _ _),by simp [hi1]⟩,h,S.nf [] rfl ⟨rfl,rfl,(congrArg (fun z=>some (Value.int .i64 z)) (Hw hd1 hi1 (Jn Ae))),trivial⟩⟩,Nat.lt_succ_self _⟩)))))
 clear S h;rintro a w2 ⟨h,S⟩;rw [hj1] at h;clear hj1 j1
 refine Tn (Fr (Vk S rfl rfl fun a S=>Dl (wp_ret ?_)))
 subst h
 exact Eo S results9 rfl rfl
theorem AA (w : World) (Bk : Int) (r : Bool) (h : Wz Bk = r) :
    Calls prog 86 [iV Bk].toArray w (Ret w [] fun _ v _=>v = bV r):=by
 refine Fe func86 rfl ntmps86 rfl fun a S=>?_
 unfold Wz at h
 replace S:=S.k1 0 rfl
 refine Fr (Vk S rfl rfl fun a S=>Dz (Vm S rfl rfl fun a S=>lv S (AI (S.tm rfl) rfl (by decide)) rfl fun a S=>Vq S Im rfl rfl rfl fun a S=>Vm S rfl rfl ?_));clear S;intro a S
 refine Hj 9 (fun a w'=>Keep [] w w' ∧ Sx w [] nov [] [(15,bV ((decide ((Int.tmod Bk 4) = 0)) && ((!decide ((Int.tmod Bk 100) = 0)) || (decide ((Int.tmod Bk 400) = 0)))))] 16 a w') ?_ ?_
 ·rcases Bool.eq_false_or_eq_true (decide ((Int.tmod Bk 4) = 0)) with hb1 | hb1
  ·refine Ea S rfl rfl rfl hb1 (Vm S rfl rfl fun a S=>Ea S rfl rfl rfl hb1 (lv S (AI (S.tm rfl) rfl (by decide)) rfl fun a S=>Ea S rfl rfl rfl hb1 (Vq S Ky rfl rfl rfl fun a S=>Ea S rfl rfl rfl hb1 (Vm S rfl rfl fun a S=>Hj 4 (fun a w'=>Keep [] w w' ∧ Sx w [] nov [] [(6,bV (decide ((Int.tmod Bk 4) = 0))),(14,bV ((!decide ((Int.tmod Bk 100) = 0)) || (decide ((Int.tmod Bk 400) = 0))))] 16 a w') ?_ ?_))))
   ·rcases Bool.eq_false_or_eq_true (!decide ((Int.tmod Bk 100) = 0)) with hb2 | hb2
    ·iterate 3 (refine Gt S rfl rfl rfl (Mh hb2) rfl ?_ rfl;clear S;intro a S)
     exact Ea S rfl rfl rfl hb1 (lv S (Kh (decide ((Int.tmod Bk 400) = 0)) hb2 (S.tm rfl) rfl) rfl fun a S=>Dl (⟨Keep.refl _ _,S.nf [] rfl (subR rfl)⟩))
    ·exact Ea S rfl rfl rfl hb2 (Vm S rfl rfl fun a S=>Ea S rfl rfl rfl hb2 (lv S (AI (S.tm rfl) rfl (by decide)) rfl fun a S=>Ea S rfl rfl rfl hb2 (Vq S Im rfl rfl rfl fun a S=>Ea S rfl rfl rfl hb1 (lv S (Ki hb2 (S.tm rfl) (S.tm rfl)) rfl fun a S=>Dl (⟨Keep.refl _ _,S.nf [] rfl (subR rfl)⟩)))))
   clear S;rintro a w2 ⟨hk1,S⟩
   exact lv S (Hm hb1 (S.tm rfl) (S.tm rfl)) rfl fun a S=>Dl (⟨hk1,S.nf [] rfl ⟨rfl,trivial⟩⟩)
  ·iterate 4 (refine Gt S rfl rfl rfl (Jq hb1) rfl ?_ rfl;clear S;intro a S)
   iterate 3 (refine Zg S rfl rfl rfl rfl ?_;clear S;intro a S)
   exact Gt S rfl rfl rfl (Jq hb1) rfl (fun a S=>lv S (Hn ((!decide ((Int.tmod Bk 100) = 0)) || (decide ((Int.tmod Bk 400) = 0))) hb1 (S.tm rfl) rfl) rfl fun a S=>Dl (⟨Keep.refl _ _,S.nf [] rfl ⟨rfl,trivial⟩⟩)) rfl
 clear S;rintro a w1 ⟨hk2,S⟩
 refine Va S rfl rfl fun a S=>Dl (wp_ret ?_)
 subst h
 exact Eo S results86 rfl rfl
theorem Ws (w : World) (Bk : Int) (Cq : Int) (r : Int) (h : Nm Bk Cq = r) :
    Calls prog 49 [iV Bk,iV Cq].toArray w (Ret w [] fun _ v _=>v = iV r):=by
 refine Fe func49 rfl ntmps49 rfl fun a S=>?_
 unfold Nm at h
 replace S:=S.k2 0 1 rfl
 refine Fr (Vk S rfl rfl fun a S=>Dl (Fs (Fr (Vm S rfl rfl fun a S=>Dl ?_))))
 refine wp_block (Fr (Vq S Im rfl rfl rfl fun a S=>Va S rfl rfl fun a S=>Dl (Fc h (S.tm rfl) (fun hb1 h=>?_) (fun hb1 h=>?_))))
 ·refine Fs (Fr (Vm S rfl rfl fun a S=>Ec S (fun _=>Dv (vs:=[iV Bk]) ⟨(S.tm rfl),trivial⟩ call86) (AA _ Bk _ rfl) rfl ?_));clear S;intro v1 a w1 hv1 hk1 hn1 S
  subst hv1
  refine Dl (Fc h (S.tm rfl) (fun hb2 h=>?_) (fun hb2 h=>?_))
  ·refine Fr (Vk S rfl rfl fun a S=>Dl (wp_ret (Dy (Fq (Dy ?_)))))
   subst h
   exact Eo S results49 rfl rfl
  ·refine wp_skip (Tn (Fr (Vk S rfl rfl fun a S=>Dl (wp_ret (Fq (Dy ?_))))))
   subst h
   exact Eo S results49 rfl rfl
 ·refine Fs (Fr (Vq S Im rfl rfl rfl fun a S=>Va S rfl rfl fun a S=>Dl ?_))
  obtain ⟨j1,hj1,h⟩:=Eu h
  refine En (fun a w'=>∃ x1 : Bool,j1 x1 = r ∧ Sx w [] nov [] [(10,bV x1)] 15 a w') ?_ ?_
  ·refine Fc h (S.tm rfl) (fun hb3 h=>?_) (fun hb3 h=>?_)
   ·exact wp_skip (Tn (⟨decide (Cq = 4),h,S.nf [] rfl ⟨rfl,trivial⟩⟩))
   ·refine Fr (Vq S Im rfl rfl rfl fun a S=>Va S rfl rfl fun a S=>Dl ?_)
    obtain ⟨j2,hj2,h⟩:=Eu h
    refine En (fun a w'=>∃ x2 : Bool,j2 x2 = r ∧ Sx w [] nov [] [(10,bV x2)] 15 a w') ?_ ?_
    ·refine Fc h (S.tm rfl) (fun hb4 h=>?_) (fun hb4 h=>?_)
     ·exact wp_skip (Tn (⟨decide (Cq = 6),h,S.nf [] rfl ⟨rfl,trivial⟩⟩))
     ·refine Fr (Vq S Im rfl rfl rfl fun a S=>Va S rfl rfl fun a S=>Dl ?_)
      obtain ⟨j3,hj3,h⟩:=Eu h
      refine En (fun a w'=>∃ x3 : Bool,j3 x3 = r ∧ Sx w [] nov [] [(10,bV x3)] 15 a w') ?_ ?_
      ·refine Fc h (S.tm rfl) (fun hb5 h=>?_) (fun hb5 h=>?_)
       ·exact wp_skip (Tn (⟨decide (Cq = 9),h,S.nf [] rfl ⟨rfl,trivial⟩⟩))
       ·exact Fg (Vq S Im rfl rfl rfl fun a S=>Va S rfl rfl fun a S=>Dl (⟨decide (Cq = 11),h,S.nf [] rfl ⟨rfl,trivial⟩⟩))
      clear S h;rintro a w4 ⟨x3,h,S⟩;rw [hj3] at h;clear hj3 j3
      exact Tn (⟨x3,h,S.nf [] rfl ⟨rfl,trivial⟩⟩)
    clear S h;rintro a w3 ⟨x2,h,S⟩;rw [hj2] at h;clear hj2 j2
    exact Tn (⟨x2,h,S.nf [] rfl ⟨rfl,trivial⟩⟩)
  clear S h;rintro a w2 ⟨x1,h,S⟩;rw [hj1] at h;clear hj1 j1
  refine Tn (Fc h (S.tm rfl) (fun hb6 h=>?_) (fun hb6 h=>?_))
  ·refine Fr (Vk S rfl rfl fun a S=>Dl (wp_ret (Fq (Dy ?_))))
   subst h
   exact Eo S results49 rfl rfl
  ·refine wp_skip (Ho (Tn (Fr (Vk S rfl rfl fun a S=>Dl (wp_ret ?_)))))
   subst h
   exact Eo S results49 rfl rfl
theorem Ww (w : World) (Bk : Int) (r : Int) (h : Pu Bk = r) :
    Calls prog 50 [iV Bk].toArray w (Ret w [] fun _ v _=>v = iV r):=by
 refine Fe func50 rfl ntmps50 rfl fun a S=>?_
 unfold Pu at h
 replace S:=S.k1 0 rfl
 refine Fr (Vk S rfl rfl fun a S=>Dl (Fs (Fr (Vm S rfl rfl fun a S=>Ec S (fun _=>Dv (vs:=[iV Bk]) ⟨(S.tm rfl),trivial⟩ call86) (AA _ Bk _ rfl) rfl ?_))));clear S;intro v1 a w1 hv1 hk1 hn1 S
 subst hv1
 refine Dl (Fc h (S.tm rfl) (fun hb1 h=>?_) (fun hb1 h=>?_))
 ·refine Fr (Vk S rfl rfl fun a S=>Dl (wp_ret (Dy ?_)))
  subst h
  exact Eo S results50 rfl rfl
 ·refine wp_skip (Tn (Fr (Vk S rfl rfl fun a S=>Dl (wp_ret ?_))))
  subst h
  exact Eo S results50 rfl rfl
theorem FC (w : World) (Az : Int) (r : Bool) (h : Ym Az = r) :
    Calls prog 51 [iV Az].toArray w (Ret w [] fun _ v _=>v = bV r):=by
 refine Fe func51 rfl ntmps51 rfl fun a S=>?_
 unfold Ym at h
 replace S:=S.k1 0 rfl
 refine Fr (Vk S rfl rfl fun a S=>Dz (Vm S rfl rfl fun a S=>Ec S (fun _=>Dv (vs:=[iV Az,iV (-40000),iV 4000]) ⟨(S.tm rfl),rfl,rfl,trivial⟩ call48) (Fk _ Az (-40000) 4000 _ rfl) rfl ?_));clear S;intro v1 a w1 hv1 hk1 hn1 S
 subst hv1
 refine Va S rfl rfl fun a S=>Dl (wp_ret ?_)
 subst h
 exact Eo S results51 rfl rfl
set_option maxRecDepth 20000 in
theorem FD (w : World) (Ad : Ml) (r : Int × Int) (h : Yn Ad = some r) :
    Calls prog 22 [.agg (Ml.enc Ad).toArray].toArray w (Ret w [] fun _ v _=>v = .tuple #[iV r.1,iV r.2]):=by
 refine Fe func22 rfl ntmps22 rfl fun a S=>?_
 unfold Yn at h
 replace S:=S.k1 0 rfl
 refine Fr (My S (S.tm rfl) (cs:=(Ml.enc Ad)) rfl rfl ?_);clear S;intro a w1 b1 hz1 hk1 S
 refine Vk S rfl rfl fun a S=>Vk S rfl rfl fun a S=>Dl (Fs (Fs ?_))
 obtain ⟨j1,hj1,h⟩:=Eu h
 refine En (fun a w'=>∃ x1 : Bool,j1 x1 = some r ∧ Sx w [] nov [.blk b1 (Ml.enc Ad) 71] [(1,.pointer (some ⟨b1,0,none⟩)),(28,bV x1)] 68 a w') ?_ ?_
 ·rcases Bool.eq_false_or_eq_true (!(Dx Ad.Year 1900 2100)) with hb1 | hb1
  ·replace h:=Qw h hb1
   rcases Bool.eq_false_or_eq_true true with hb2 | hb2
   ·replace h:=Qw h hb2
    refine Hd [] ([]) Tryz.mixed S rfl (by kernel_rfl) ?_;clear S;intro w6 hk5 hsel S
    refine Ef 0 S hsel rfl rfl rfl (by kernel_rfl) (by kernel_rfl) rfl (fun _ hw=>(Ge Xb (S.tm rfl))) fun a S=>Ef 1 S hsel rfl rfl rfl (by kernel_rfl) (by kernel_rfl) rfl (fun _ hw=>(Hp isAgg3 (off:=0) (o:=0) (S.tm rfl) ((S.blk_mem (i:=0) (cells:=(Ml.enc Ad)) (b:=b1) (T:=71) rfl (Hr (e':=.blk b1 (Ml.enc Ad) 71))).kept hw) rfl)) fun a S=>Gw 2 (by kernel_rfl) rfl (Ec S (fun _=>Dv (vs:=[iV Ad.Year,iV 1900,iV 2100]) ⟨(S.tm rfl),rfl,rfl,trivial⟩ call48) (Fk _ Ad.Year 1900 2100 _ rfl) rfl ?_);clear S;intro v4 a w7 hv4 hk6 hn4 S
    subst hv4
    refine Ld (Hx hk6 (Kz [3,4,5,6,7,8,9,10,11,12,13,14,15,16,17,18,19,20] hsel (by kernel_rfl) rfl ?_))
    clear hsel
    refine Gk S rfl (Hh (S.tm rfl)) rfl fun a S=>Gk S rfl (Rm (S.tm rfl)) rfl ?_;clear S;intro a S
    iterate 4 (refine Qe S rfl rfl rfl rfl (Mh hb1) rfl ?_ rfl;clear S;intro a S)
    refine Gk S rfl (Qi hb1 (S.tm rfl) rfl) rfl fun a S=>Gk S rfl (Rm (S.tm rfl)) rfl ?_;clear S;intro a S
    iterate 9 (refine Qe S rfl rfl rfl rfl (Mh hb2) rfl ?_ rfl;clear S;intro a S)
    refine Gk S rfl (Qi hb2 (S.tm rfl) rfl) rfl fun a S=>Ig ?_
    replace S:=(S.nl [.blk b1 (Ml.enc Ad) 71] [true] rfl).k2 1 28 rfl
    exact Tn (⟨true,h,S.nf [true] rfl (subR rfl)⟩)
   ·replace h:=Qx h hb2
    refine Hd [] ([]) Tryz.mixed S rfl (by kernel_rfl) ?_;clear S;intro w11 hk10 hsel S
    refine Ef 0 S hsel rfl rfl rfl (by kernel_rfl) (by kernel_rfl) rfl (fun _ hw=>(Ge Xb (S.tm rfl))) fun a S=>Ef 1 S hsel rfl rfl rfl (by kernel_rfl) (by kernel_rfl) rfl (fun _ hw=>(Hp isAgg3 (off:=0) (o:=0) (S.tm rfl) ((S.blk_mem (i:=0) (cells:=(Ml.enc Ad)) (b:=b1) (T:=71) rfl (Hr (e':=.blk b1 (Ml.enc Ad) 71))).kept hw) rfl)) fun a S=>Gw 2 (by kernel_rfl) rfl (Ec S (fun _=>Dv (vs:=[iV Ad.Year,iV 1900,iV 2100]) ⟨(S.tm rfl),rfl,rfl,trivial⟩ call48) (Fk _ Ad.Year 1900 2100 _ rfl) rfl ?_);clear S;intro v8 a w12 hv8 hk11 hn8 S
    subst hv8
    refine Ld (Hx hk11 (Ef 3 S hsel rfl rfl rfl (by kernel_rfl) (by kernel_rfl) rfl (fun _ hw=>(Hh (S.tm rfl))) fun a S=>Ef 4 S hsel rfl rfl rfl (by kernel_rfl) (by kernel_rfl) rfl (fun _ hw=>(Rm (S.tm rfl))) fun a S=>KF 5 S hsel rfl rfl rfl rfl (Mh hb1) rfl (by kernel_rfl) (by kernel_rfl) rfl fun a S=>KF 6 S hsel rfl rfl rfl rfl (Mh hb1) rfl (by kernel_rfl) (by kernel_rfl) rfl fun a S=>KF 7 S hsel rfl rfl rfl rfl (Mh hb1) rfl (by kernel_rfl) (by kernel_rfl) rfl fun a S=>KF 8 S hsel rfl rfl rfl rfl (Mh hb1) rfl (by kernel_rfl) (by kernel_rfl) rfl fun a S=>Ef 9 S hsel rfl rfl rfl (by kernel_rfl) (by kernel_rfl) rfl (fun _ hw=>(Qi hb1 (S.tm rfl) rfl)) fun a S=>Ef 10 S hsel rfl rfl rfl (by kernel_rfl) (by kernel_rfl) rfl (fun _ hw=>(Rm (S.tm rfl))) fun a S=>Ev 11 S hsel rfl rfl rfl rfl hb2 rfl rfl (by kernel_rfl) (by kernel_rfl) rfl (fun _ hw=>(Ge KU (S.tm rfl))) ?_));clear S;intro a S
    refine Ev 12 S hsel rfl rfl rfl rfl hb2 rfl rfl (by kernel_rfl) (by kernel_rfl) rfl (fun _ hw=>(Hp isAgg3 (off:=0) (o:=2) (S.tm rfl) ((S.blk_mem (i:=0) (cells:=(Ml.enc Ad)) (b:=b1) (T:=71) rfl (Hr (e':=.blk b1 (Ml.enc Ad) 71))).kept hw) rfl)) fun a S=>Ev 13 S hsel rfl rfl rfl rfl hb2 rfl rfl (by kernel_rfl) (by kernel_rfl) rfl (fun _ hw=>(Ge Xb (S.tm rfl))) fun a S=>Ev 14 S hsel rfl rfl rfl rfl hb2 rfl rfl (by kernel_rfl) (by kernel_rfl) rfl (fun _ hw=>(Hp isAgg3 (off:=0) (o:=0) (S.tm rfl) ((S.blk_mem (i:=0) (cells:=(Ml.enc Ad)) (b:=b1) (T:=71) rfl (Hr (e':=.blk b1 (Ml.enc Ad) 71))).kept hw) rfl)) fun a S=>Ev 15 S hsel rfl rfl rfl rfl hb2 rfl rfl (by kernel_rfl) (by kernel_rfl) rfl (fun _ hw=>(Ge DX (S.tm rfl))) fun a S=>Ev 16 S hsel rfl rfl rfl rfl hb2 rfl rfl (by kernel_rfl) (by kernel_rfl) rfl (fun _ hw=>(Hp isAgg3 (off:=0) (o:=1) (S.tm rfl) ((S.blk_mem (i:=0) (cells:=(Ml.enc Ad)) (b:=b1) (T:=71) rfl (Hr (e':=.blk b1 (Ml.enc Ad) 71))).kept hw) rfl)) fun a S=>Gw 17 (by kernel_rfl) rfl (Ea S rfl rfl rfl hb2 (Ec S (fun _=>Dv (vs:=[iV Ad.Year,iV Ad.Month]) ⟨(S.tm rfl),(S.tm rfl),trivial⟩ call49) (Ws _ Ad.Year Ad.Month _ rfl) rfl ?_));clear S;intro v9 a w13 hv9 hk12 hn9 S
    subst hv9
    refine Ld (Hx hk12 (Gw 18 (by kernel_rfl) rfl (Ea S rfl rfl rfl hb2 (Ec S (fun _=>Dv (vs:=[iV Ad.Day,iV 1,iV (Nm Ad.Year Ad.Month)]) ⟨(S.tm rfl),rfl,(S.tm rfl),trivial⟩ call48) (Fk _ Ad.Day 1 (Nm Ad.Year Ad.Month) _ rfl) rfl ?_))));clear S;intro v10 a w14 hv10 hk13 hn10 S
    subst hv10
    refine Ld (Hx hk13 (Kz [19,20] hsel (by kernel_rfl) rfl ?_))
    clear hsel
    refine Fm S rfl rfl rfl rfl hb2 (Gv S (Hh (S.tm rfl)) rfl fun a S=>Gk S rfl (Qj hb2 (S.tm rfl) (S.tm rfl)) rfl fun a S=>Ig ?_)
    replace S:=(S.nl [.blk b1 (Ml.enc Ad) 71] [true] rfl).k2 1 28 rfl
    exact Tn (⟨!(Dx Ad.Day 1 (Nm Ad.Year Ad.Month)),h,S.nf [true] rfl (subR rfl)⟩)
  ·replace h:=Qx h hb1
   rcases Bool.eq_false_or_eq_true (!(Dx Ad.Month 1 12)) with hb3 | hb3
   ·replace h:=Qw h hb3
    refine Hd [] ([]) Tryz.mixed S rfl (by kernel_rfl) ?_;clear S;intro w19 hk18 hsel S
    refine Ef 0 S hsel rfl rfl rfl (by kernel_rfl) (by kernel_rfl) rfl (fun _ hw=>(Ge Xb (S.tm rfl))) fun a S=>Ef 1 S hsel rfl rfl rfl (by kernel_rfl) (by kernel_rfl) rfl (fun _ hw=>(Hp isAgg3 (off:=0) (o:=0) (S.tm rfl) ((S.blk_mem (i:=0) (cells:=(Ml.enc Ad)) (b:=b1) (T:=71) rfl (Hr (e':=.blk b1 (Ml.enc Ad) 71))).kept hw) rfl)) fun a S=>Gw 2 (by kernel_rfl) rfl (Ec S (fun _=>Dv (vs:=[iV Ad.Year,iV 1900,iV 2100]) ⟨(S.tm rfl),rfl,rfl,trivial⟩ call48) (Fk _ Ad.Year 1900 2100 _ rfl) rfl ?_);clear S;intro v15 a w20 hv15 hk19 hn15 S
    subst hv15
    refine Ld (Hx hk19 (Ef 3 S hsel rfl rfl rfl (by kernel_rfl) (by kernel_rfl) rfl (fun _ hw=>(Hh (S.tm rfl))) fun a S=>Ef 4 S hsel rfl rfl rfl (by kernel_rfl) (by kernel_rfl) rfl (fun _ hw=>(Rm (S.tm rfl))) fun a S=>Ev 5 S hsel rfl rfl rfl rfl hb1 rfl rfl (by kernel_rfl) (by kernel_rfl) rfl (fun _ hw=>(Ge DX (S.tm rfl))) fun a S=>Ev 6 S hsel rfl rfl rfl rfl hb1 rfl rfl (by kernel_rfl) (by kernel_rfl) rfl (fun _ hw=>(Hp isAgg3 (off:=0) (o:=1) (S.tm rfl) ((S.blk_mem (i:=0) (cells:=(Ml.enc Ad)) (b:=b1) (T:=71) rfl (Hr (e':=.blk b1 (Ml.enc Ad) 71))).kept hw) rfl)) fun a S=>Gw 7 (by kernel_rfl) rfl (Ea S rfl rfl rfl hb1 (Ec S (fun _=>Dv (vs:=[iV Ad.Month,iV 1,iV 12]) ⟨(S.tm rfl),rfl,rfl,trivial⟩ call48) (Fk _ Ad.Month 1 12 _ rfl) rfl ?_))));clear S;intro v16 a w21 hv16 hk20 hn16 S
    subst hv16
    refine Ld (Hx hk20 (Kz [8,9,10,11,12,13,14,15,16,17,18,19,20] hsel (by kernel_rfl) rfl ?_))
    clear hsel
    refine Fm S rfl rfl rfl rfl hb1 (Gv S (Hh (S.tm rfl)) rfl fun a S=>Gk S rfl (Qj hb1 (S.tm rfl) (S.tm rfl)) rfl fun a S=>Gk S rfl (Rm (S.tm rfl)) rfl ?_);clear S;intro a S
    iterate 9 (refine Qe S rfl rfl rfl rfl (Mh hb3) rfl ?_ rfl;clear S;intro a S)
    refine Gk S rfl (Qi hb3 (S.tm rfl) rfl) rfl fun a S=>Ig ?_
    replace S:=(S.nl [.blk b1 (Ml.enc Ad) 71] [true] rfl).k2 1 28 rfl
    exact Tn (⟨true,h,S.nf [true] rfl (subR rfl)⟩)
   ·replace h:=Qx h hb3
    refine Hd [] ([]) Tryz.mixed S rfl (by kernel_rfl) ?_;clear S;intro w26 hk25 hsel S
    refine Ef 0 S hsel rfl rfl rfl (by kernel_rfl) (by kernel_rfl) rfl (fun _ hw=>(Ge Xb (S.tm rfl))) fun a S=>Ef 1 S hsel rfl rfl rfl (by kernel_rfl) (by kernel_rfl) rfl (fun _ hw=>(Hp isAgg3 (off:=0) (o:=0) (S.tm rfl) ((S.blk_mem (i:=0) (cells:=(Ml.enc Ad)) (b:=b1) (T:=71) rfl (Hr (e':=.blk b1 (Ml.enc Ad) 71))).kept hw) rfl)) fun a S=>Gw 2 (by kernel_rfl) rfl (Ec S (fun _=>Dv (vs:=[iV Ad.Year,iV 1900,iV 2100]) ⟨(S.tm rfl),rfl,rfl,trivial⟩ call48) (Fk _ Ad.Year 1900 2100 _ rfl) rfl ?_);clear S;intro v21 a w27 hv21 hk26 hn21 S
    subst hv21
    refine Ld (Hx hk26 (Ef 3 S hsel rfl rfl rfl (by kernel_rfl) (by kernel_rfl) rfl (fun _ hw=>(Hh (S.tm rfl))) fun a S=>Ef 4 S hsel rfl rfl rfl (by kernel_rfl) (by kernel_rfl) rfl (fun _ hw=>(Rm (S.tm rfl))) fun a S=>Ev 5 S hsel rfl rfl rfl rfl hb1 rfl rfl (by kernel_rfl) (by kernel_rfl) rfl (fun _ hw=>(Ge DX (S.tm rfl))) fun a S=>Ev 6 S hsel rfl rfl rfl rfl hb1 rfl rfl (by kernel_rfl) (by kernel_rfl) rfl (fun _ hw=>(Hp isAgg3 (off:=0) (o:=1) (S.tm rfl) ((S.blk_mem (i:=0) (cells:=(Ml.enc Ad)) (b:=b1) (T:=71) rfl (Hr (e':=.blk b1 (Ml.enc Ad) 71))).kept hw) rfl)) fun a S=>Gw 7 (by kernel_rfl) rfl (Ea S rfl rfl rfl hb1 (Ec S (fun _=>Dv (vs:=[iV Ad.Month,iV 1,iV 12]) ⟨(S.tm rfl),rfl,rfl,trivial⟩ call48) (Fk _ Ad.Month 1 12 _ rfl) rfl ?_))));clear S;intro v22 a w28 hv22 hk27 hn22 S
    subst hv22
    refine Ld (Hx hk27 (Ev 8 S hsel rfl rfl rfl rfl hb1 rfl rfl (by kernel_rfl) (by kernel_rfl) rfl (fun _ hw=>(Hh (S.tm rfl))) fun a S=>Ef 9 S hsel rfl rfl rfl (by kernel_rfl) (by kernel_rfl) rfl (fun _ hw=>(Qj hb1 (S.tm rfl) (S.tm rfl))) fun a S=>Ef 10 S hsel rfl rfl rfl (by kernel_rfl) (by kernel_rfl) rfl (fun _ hw=>(Rm (S.tm rfl))) fun a S=>Ev 11 S hsel rfl rfl rfl rfl hb3 rfl rfl (by kernel_rfl) (by kernel_rfl) rfl (fun _ hw=>(Ge KU (S.tm rfl))) fun a S=>Ev 12 S hsel rfl rfl rfl rfl hb3 rfl rfl (by kernel_rfl) (by kernel_rfl) rfl (fun _ hw=>(Hp isAgg3 (off:=0) (o:=2) (S.tm rfl) ((S.blk_mem (i:=0) (cells:=(Ml.enc Ad)) (b:=b1) (T:=71) rfl (Hr (e':=.blk b1 (Ml.enc Ad) 71))).kept hw) rfl)) fun a S=>Ev 13 S hsel rfl rfl rfl rfl hb3 rfl rfl (by kernel_rfl) (by kernel_rfl) rfl (fun _ hw=>(Ge Xb (S.tm rfl))) fun a S=>Ev 14 S hsel rfl rfl rfl rfl hb3 rfl rfl (by kernel_rfl) (by kernel_rfl) rfl (fun _ hw=>(Hp isAgg3 (off:=0) (o:=0) (S.tm rfl) ((S.blk_mem (i:=0) (cells:=(Ml.enc Ad)) (b:=b1) (T:=71) rfl (Hr (e':=.blk b1 (Ml.enc Ad) 71))).kept hw) rfl)) fun a S=>Ev 15 S hsel rfl rfl rfl rfl hb3 rfl rfl (by kernel_rfl) (by kernel_rfl) rfl (fun _ hw=>(Ge DX (S.tm rfl))) fun a S=>Ev 16 S hsel rfl rfl rfl rfl hb3 rfl rfl (by kernel_rfl) (by kernel_rfl) rfl (fun _ hw=>(Hp isAgg3 (off:=0) (o:=1) (S.tm rfl) ((S.blk_mem (i:=0) (cells:=(Ml.enc Ad)) (b:=b1) (T:=71) rfl (Hr (e':=.blk b1 (Ml.enc Ad) 71))).kept hw) rfl)) ?_));clear S;intro a S
    refine Gw 17 (by kernel_rfl) rfl (Ea S rfl rfl rfl hb3 (Ec S (fun _=>Dv (vs:=[iV Ad.Year,iV Ad.Month]) ⟨(S.tm rfl),(S.tm rfl),trivial⟩ call49) (Ws _ Ad.Year Ad.Month _ rfl) rfl ?_));clear S;intro v23 a w29 hv23 hk28 hn23 S
    subst hv23
    refine Ld (Hx hk28 (Gw 18 (by kernel_rfl) rfl (Ea S rfl rfl rfl hb3 (Ec S (fun _=>Dv (vs:=[iV Ad.Day,iV 1,iV (Nm Ad.Year Ad.Month)]) ⟨(S.tm rfl),rfl,(S.tm rfl),trivial⟩ call48) (Fk _ Ad.Day 1 (Nm Ad.Year Ad.Month) _ rfl) rfl ?_))));clear S;intro v24 a w30 hv24 hk29 hn24 S
    subst hv24
    refine Ld (Hx hk29 (Kz [19,20] hsel (by kernel_rfl) rfl ?_))
    clear hsel
    refine Fm S rfl rfl rfl rfl hb3 (Gv S (Hh (S.tm rfl)) rfl fun a S=>Gk S rfl (Qj hb3 (S.tm rfl) (S.tm rfl)) rfl fun a S=>Ig ?_)
    replace S:=(S.nl [.blk b1 (Ml.enc Ad) 71] [true] rfl).k2 1 28 rfl
    exact Tn (⟨!(Dx Ad.Day 1 (Nm Ad.Year Ad.Month)),h,S.nf [true] rfl (subR rfl)⟩)
 clear S h;rintro a w2 ⟨x1,h,S⟩;rw [hj1] at h;clear hj1 j1
 refine Tn (Fc h (S.tm rfl) (fun hb4 h=>?_) (fun hb4 h=>?_))
 ·refine Fr (Vk S rfl rfl fun a S=>Vk S rfl rfl fun a S=>Dl (wp_ret (Dy ?_)))
  obtain rfl:=Option.some.inj h
  exact Lq S results22 rfl rfl rfl
 ·refine wp_skip (Tn (Fr (Vf KU S rfl rfl fun a S=>Vl isAgg3 0 S rfl rfl rfl rfl fun a S=>Vq S Ja rfl rfl rfl fun a S=>Va S rfl rfl fun a S=>Dl (Fs ?_))))
  refine Fr (Vk S rfl rfl fun a S=>Dl ?_)
  replace S:=S.k3 1 4 5 rfl
  obtain ⟨j2,hj2,h⟩:=Eu h
  refine En (fun a w'=>∃ x2 : Int,j2 x2 = some r ∧ Sx w [] nov [.blk b1 (Ml.enc Ad) 71] [(1,.pointer (some ⟨b1,0,none⟩)),(4,iV x2)] 68 a w') ?_ ?_
  ·refine wp_block (Hb (fun (m1 : Nat) a w'=>∃ x2 : Int,∃ x3 : Int,Nt Ad j2 m1 x2 x3 = some r ∧ Sx w [] nov [.blk b1 (Ml.enc Ad) 71] [(1,.pointer (some ⟨b1,0,none⟩)),(4,iV x2),(5,iV x3)] 68 a w') id ((Ad.Month - 1).toNat + 2) ⟨W (Ad.Day - 1),1,h,S.nf [true] rfl (subR rfl)⟩ ?_)
   clear S h;rintro m1 a w31 ⟨x2,x3,h,S⟩
   cases m1 with
   | zero=>rw [Nt.eq_1] at h;cases h
   | succ m1 =>
    rw [Nt.eq_2] at h
    refine Fs (Fr (Vm S rfl rfl fun a S=>Vf DX S rfl rfl fun a S=>Vl isAgg3 0 S rfl rfl rfl rfl fun a S=>Vb S Ex rfl rfl rfl fun a S=>Dl (Fc h (S.tm rfl) (fun hb5 h=>?_) (fun hb5 h=>?_))))
    ·refine wp_skip (Tn (Fs (wp_block (Fg (Vm S rfl rfl fun a S=>Vf Xb S rfl rfl fun a S=>Vl isAgg3 0 S rfl rfl rfl rfl fun a S=>Vm S rfl rfl fun a S=>Ec S (fun _=>Dv (vs:=[iV Ad.Year,iV x3]) ⟨(S.tm rfl),(S.tm rfl),trivial⟩ call49) (Ws _ Ad.Year x3 _ rfl) rfl ?_)))));clear S;intro v25 a w33 hv25 hk30 hn25 S
     subst hv25
     refine Vb S Gf rfl rfl rfl fun a S=>Va S rfl rfl fun a S=>Ld (Ho (Tn (Fg (Vm S rfl rfl fun a S=>Vq S Gf rfl rfl rfl fun a S=>Va S rfl rfl fun a S=>Ld ?_))))
     replace S:=S.k3 1 4 5 rfl
     exact Tn (⟨m1,⟨W (x2 + (Nm Ad.Year x3)),W (x3 + 1),h,S.nf [true] rfl ⟨rfl,rfl,rfl,trivial⟩⟩,Nat.lt_succ_self _⟩)
    ·exact wp_exit (Ei (Ei (Gp (Tn (⟨x2,h,S.nf [true] rfl (subR rfl)⟩)))))
  clear S h;rintro a w32 ⟨x2,h,S⟩;rw [hj2] at h;clear hj2 j2
  refine Tn (Fs (Fr (Vk S rfl rfl fun a S=>Dl ?_)))
  replace S:=S.k3 1 4 6 rfl
  obtain ⟨j3,hj3,h⟩:=Eu h
  refine En (fun a w'=>∃ x4 : Int,j3 x4 = some r ∧ Sx w [] nov [.blk b1 (Ml.enc Ad) 71] [(1,.pointer (some ⟨b1,0,none⟩)),(4,iV x4)] 68 a w') ?_ ?_
  ·refine wp_block (Hb (fun (m2 : Nat) a w'=>∃ x4 : Int,∃ x5 : Int,Nu Ad j3 m2 x4 x5 = some r ∧ Sx w [] nov [.blk b1 (Ml.enc Ad) 71] [(1,.pointer (some ⟨b1,0,none⟩)),(4,iV x4),(6,iV x5)] 68 a w') id ((Ad.Year - 2024).toNat + 2) ⟨x2,2024,h,S.nf [true] rfl (subR rfl)⟩ ?_)
   clear S h;rintro m2 a w34 ⟨x4,x5,h,S⟩
   cases m2 with
   | zero=>rw [Nu.eq_1] at h;cases h
   | succ m2 =>
    rw [Nu.eq_2] at h
    refine Fs (Fr (Vm S rfl rfl fun a S=>Vf Xb S rfl rfl fun a S=>Vl isAgg3 0 S rfl rfl rfl rfl fun a S=>Vb S Ex rfl rfl rfl fun a S=>Dl (Fc h (S.tm rfl) (fun hb6 h=>?_) (fun hb6 h=>?_))))
    ·refine wp_skip (Tn (Fs (wp_block (Fg (Vm S rfl rfl fun a S=>Vm S rfl rfl fun a S=>Ec S (fun _=>Dv (vs:=[iV x5]) ⟨(S.tm rfl),trivial⟩ call50) (Ww _ x5 _ rfl) rfl ?_)))));clear S;intro v26 a w36 hv26 hk31 hn26 S
     subst hv26
     refine Vb S Gf rfl rfl rfl fun a S=>Va S rfl rfl fun a S=>Ld (Ho (Tn (Fg (Vm S rfl rfl fun a S=>Vq S Gf rfl rfl rfl fun a S=>Va S rfl rfl fun a S=>Dl ?_))))
     exact ⟨m2,⟨W (x4 + (Pu x5)),W (x5 + 1),h,S.nf [true] rfl ⟨rfl,rfl,rfl,trivial⟩⟩,Nat.lt_succ_self _⟩
    ·exact wp_exit (Ei (Ei (Gp (Tn (⟨x4,h,S.nf [true] rfl (subR rfl)⟩)))))
  clear S h;rintro a w35 ⟨x4,h,S⟩;rw [hj3] at h;clear hj3 j3
  refine Tn (Fs (Fr (Vf Xb S rfl rfl fun a S=>Vl isAgg3 0 S rfl rfl rfl rfl fun a S=>Va S rfl rfl fun a S=>Dl ?_)))
  replace S:=S.n0.k2 4 7 rfl
  obtain ⟨j4,hj4,h⟩:=Eu h
  refine En (fun a w'=>∃ x6 : Int,j4 x6 = some r ∧ Sx w [] nov [] [(4,iV x6)] 68 a w') ?_ ?_
  ·refine wp_block (Hb (fun (m3 : Nat) a w'=>∃ x6 : Int,∃ x7 : Int,Nv j4 m3 x6 x7 = some r ∧ Sx w [] nov [] [(4,iV x6),(7,iV x7)] 68 a w') id ((2024 - Ad.Year).toNat + 2) ⟨x4,Ad.Year,h,S.nf [] rfl (subR rfl)⟩ ?_)
   clear S h;rintro m3 a w37 ⟨x6,x7,h,S⟩
   cases m3 with
   | zero=>rw [Nv.eq_1] at h;cases h
   | succ m3 =>
    rw [Nv.eq_2] at h
    refine Fs (Fr (Vm S rfl rfl fun a S=>Vq S Ex rfl rfl rfl fun a S=>Dl (Fc h (S.tm rfl) (fun hb7 h=>?_) (fun hb7 h=>?_))))
    ·refine wp_skip (Tn (Fs (wp_block (Fg (Vm S rfl rfl fun a S=>Vm S rfl rfl fun a S=>Ec S (fun _=>Dv (vs:=[iV x7]) ⟨(S.tm rfl),trivial⟩ call50) (Ww _ x7 _ rfl) rfl ?_)))));clear S;intro v27 a w39 hv27 hk32 hn27 S
     subst hv27
     refine Vb S Ja rfl rfl rfl fun a S=>Va S rfl rfl fun a S=>Ld (Ho (Tn (Fg (Vm S rfl rfl fun a S=>Vq S Gf rfl rfl rfl fun a S=>Va S rfl rfl fun a S=>Dl ?_))))
     exact ⟨m3,⟨W (x6 - (Pu x7)),W (x7 + 1),h,S.nf [] rfl ⟨rfl,rfl,trivial⟩⟩,Nat.lt_succ_self _⟩
    ·exact wp_exit (Ei (Ei (Gp (Tn (⟨x6,h,S.nf [] rfl ⟨rfl,trivial⟩⟩)))))
  clear S h;rintro a w38 ⟨x6,h,S⟩;rw [hj4] at h;clear hj4 j4
  refine Tn (Fs (Fr (Vm S rfl rfl fun a S=>Ec S (fun _=>Dv (vs:=[iV x6]) ⟨(S.tm rfl),trivial⟩ call51) (FC _ x6 _ rfl) rfl ?_)));clear S;intro v28 a w40 hv28 hk33 hn28 S
  subst hv28
  refine Vu S Hh rfl rfl fun a S=>Dl (Fc h (S.tm rfl) (fun hb8 h=>?_) (fun hb8 h=>?_))
  ·refine Fr (Vk S rfl rfl fun a S=>Vk S rfl rfl fun a S=>Dl (wp_ret (Dy ?_)))
   obtain rfl:=Option.some.inj h
   exact Lq S results22 rfl rfl rfl
  ·refine wp_skip (Tn (Fr (Vm S rfl rfl fun a S=>Va S rfl rfl fun a S=>Vk S rfl rfl fun a S=>Dl (wp_ret ?_))))
   obtain rfl:=Option.some.inj h
   exact Lq S results22 rfl rfl rfl
theorem AH (w : World) (Ac : Value) (Ag : List Nn) (Ae : Slc (view w []) 5 Ac (Ag.map Nn.enc)) (r : Int) (h : Ul Ag = some r) :
    Calls prog 87 [Ac].toArray w (Ret w [] fun _ v _=>v = iV r):=by
 refine Fe func87 rfl ntmps87 rfl fun a S=>?_
 unfold Ul at h
 replace S:=S.k1 0 rfl
 refine Fr (Vk S rfl rfl fun a S=>Dl (Fs (Fr (Vm S rfl rfl fun a S=>lv S (Fz ME (S.tm rfl) (Fl Ae)) rfl fun a S=>Vq S Jh rfl rfl rfl ?_))));clear S;intro a S
 refine Dl (Fc h (S.tm rfl) (fun hb1 h=>?_) (fun hb1 h=>?_))
 ·refine Fr (Vk S rfl rfl fun a S=>Dl (wp_ret (Dy ?_)))
  obtain rfl:=Option.some.inj h
  exact Eo S results87 rfl rfl
 ·refine wp_skip (Tn (Fr (Rk (κ:=ByteArray) (ν:=Bool) S rfl Value.string Value.bool ?_)));clear S;intro a w1 b1 hz1 hk1 S
  refine Va S rfl rfl fun a S=>Dl (Fs (Fr (Vm S rfl rfl fun a S=>lv S (Fz ME (S.tm rfl) (Fl Ae)) rfl fun a S=>lv S (Rm rfl) rfl fun a S=>Dl ?_)))
  replace S:=(S.nl [.map b1 (Gn Value.string Value.bool ([] : List (ByteArray × Bool))) ([] : List (ByteArray × Bool)).length] [true] rfl).k4 3 10 11 12 rfl
  obtain ⟨j1,hj1,h⟩:=Eu h
  refine En (fun a w'=>∃ x1 : List (ByteArray × Bool),j1 x1 = some r ∧ Sx w [] nov [.map b1 (Gn Value.string Value.bool x1) x1.length] [] 53 a w') ?_ ?_
  ·refine wp_block (Hb (fun (ys1 : List Nn) a w'=>∃ i1 : Nat,∃ x1 : List (ByteArray × Bool),(∃ dn,Ag = dn ++ ys1 ∧ dn.length = i1) ∧ Kv j1 ys1 i1 x1 = some r ∧ Sx w [] nov [.map b1 (Gn Value.string Value.bool x1) x1.length] [(3,.map (some b1)),(10,Ac),(11,iV (Ag.length : Int)),(12,iV (i1 : Int))] 53 a w') List.length Ag ⟨0,([] : List (ByteArray × Bool)),⟨[],rfl,rfl⟩,h,S.nf [true] rfl (subR rfl)⟩ ?_)
   clear S h;rintro ys1 a w2 ⟨i1,x1,⟨dn,hd1,hi1⟩,h,S⟩
   cases ys1 with
   | nil =>
    rw [Kv.eq_1] at h
    refine Fr (Vb S Ex rfl rfl rfl fun a S=>Ld ?_)
    replace S:=S.k5 3 10 11 12 13 rfl
    exact Tn (Fs (wp_cond_false ((S.tm rfl).trans (congrArg Value.bool (Io hd1 hi1))) (wp_exit (Ei (Ei (Gp (Tn (⟨x1,h,S.nf [true] rfl trivial⟩))))))))
   | cons y1 ys1 =>
    rw [Kv.eq_2] at h
    refine Fr (Vb S Ex rfl rfl rfl fun a S=>Ld ?_)
    replace S:=S.k5 3 10 11 12 13 rfl
    refine Tn (Fs (wp_cond_true ((S.tm rfl).trans (congrArg Value.bool (Hv hd1 hi1))) (wp_skip (Tn (Fs (wp_block (Fs (Fg ?_))))))))
    obtain ⟨b2,o1,hm1,hr1⟩:=Fd (a:=a) (x:=.tmp 10) (y:=.tmp 12) (ty:=0) ME Ae (Iq hd1 hi1) rfl (S.tm rfl) (S.tm rfl)
    refine lv S (hr1 _) rfl ?_;clear S;intro a S
    clear hr1
    refine lv S (Fx isAgg74 sizeOf74 (off:=o1) (o:=0) (part:=(Nn.enc y1)) rfl rfl (S.tm rfl) (hm1.at S.emb0)) rfl fun a S=>Hz S zeroValue74 (cs:=[sV An,iV 0,iV 0,iV 0,iV 0]) rfl rfl ?_;clear S;intro a w4 b3 hz2 hk2 S
    refine Fh S (S.tm rfl) (S.tm rfl) (i:=0) (off:=0) rfl sizeOf74 (vs:=(Nn.enc y1)) rfl rfl rfl rfl ?_;clear S;intro w5 hk3 S
    refine Dl (Fs (wp_block (Fr (Vf GM S rfl rfl fun a S=>Vl isAgg9 0 S rfl rfl rfl rfl ?_))));clear S;intro a S
    obtain ⟨r1,hr2,h⟩:=Fb h
    refine Ec S (fun _=>Dv (vs:=[sV y1.Key]) ⟨(S.tm rfl),trivial⟩ call89) (Ie _ y1.Key _ hr2) rfl ?_;clear S;intro v1 a w6 hv1 hk4 hn1 S
    subst hv1
    refine Vu S Hh rfl rfl fun a S=>Va S rfl rfl fun a S=>Dl (Fc h (S.tm rfl) (fun hb2 h=>?_) (fun hb2 h=>?_))
    ·refine Fr (Vk S rfl rfl fun a S=>Dl (wp_ret (Fq (Dy (Fq (Dy (Dy ?_)))))))
     refine Fq (Dy (Dy ?_))
     obtain rfl:=Option.some.inj h
     exact Eo S results87 rfl rfl
    ·refine Fr (Vm S rfl rfl fun a S=>Vf GM S rfl rfl fun a S=>Vl isAgg9 0 S rfl rfl rfl rfl fun a S=>lv S (Pt (kv:=Value.string) (vv:=Value.bool) (m:=x1) (key:=y1.Key) (z:=false) (S.map_at (i:=1) rfl) underlying187 (Mz underlying9) zeroValue4 (S.tm rfl) (S.tm rfl)) rfl fun a S=>Va S rfl rfl fun a S=>Ld ?_)
     replace S:=(S.nl [.blk b3 (Nn.enc y1) 74,.map b1 (Gn Value.string Value.bool x1) x1.length] [true,true] rfl).k6 3 5 10 11 12 21 rfl
     refine Tn (Fc h (S.tm rfl) (fun hb3 h=>?_) (fun hb3 h=>?_))
     ·refine Fr (Vk S rfl rfl fun a S=>Dl (wp_ret (Fq (Dy (Fq (Dy (Dy ?_)))))))
      refine Fq (Dy (Dy ?_))
      obtain rfl:=Option.some.inj h
      exact Eo S results87 rfl rfl
     ·refine Fr (Vf KV S rfl rfl fun a S=>Vl isAgg3 0 S rfl rfl rfl rfl fun a S=>Ec S (fun _=>Dv (vs:=[iV y1.Heats,iV 1,iV 60]) ⟨(S.tm rfl),rfl,rfl,trivial⟩ call48) (Fk _ y1.Heats 1 60 _ rfl) rfl ?_);clear S;intro v2 a w7 hv2 hk5 hn2 S
      subst hv2
      refine Vu S Hh rfl rfl fun a S=>Vm S rfl rfl fun a S=>Hj 5 (fun a w'=>Keep [] w7 w' ∧ Sx w [] nov [.blk b3 (Nn.enc y1) 74,.map b1 (Gn Value.string Value.bool x1) x1.length] [(3,.map (some b1)),(5,.pointer (some ⟨b3,0,none⟩)),(10,Ac),(11,iV (Ag.length : Int)),(12,iV (i1 : Int)),(36,bV ((!(Dx y1.Heats 1 60)) || (!(Dx y1.Long 1 3600000))))] 53 a w') ?_ ?_
      ·rcases Bool.eq_false_or_eq_true (!(Dx y1.Heats 1 60)) with hb4 | hb4
       ·iterate 4 (refine Gt S rfl rfl rfl (Mh hb4) rfl ?_ rfl;clear S;intro a S)
        exact lv S (Kh (!(Dx y1.Long 1 3600000)) hb4 (S.tm rfl) rfl) rfl fun a S=>Dl (⟨Keep.refl _ _,S.nf [true,true] rfl (subR rfl)⟩)
       ·refine Ea S rfl rfl rfl hb4 (Vf KW S rfl rfl fun a S=>Ea S rfl rfl rfl hb4 (Vl isAgg3 0 S rfl rfl rfl rfl fun a S=>Ea S rfl rfl rfl hb4 (Ec S (fun _=>Dv (vs:=[iV y1.Long,iV 1,iV 3600000]) ⟨(S.tm rfl),rfl,rfl,trivial⟩ call48) (Fk _ y1.Long 1 3600000 _ rfl) rfl ?_)));clear S;intro v3 a w9 hv3 hk6 hn3 S
        subst hv3
        exact Ea S rfl rfl rfl hb4 (Vu S Hh rfl rfl fun a S=>lv S (Ki hb4 (S.tm rfl) (S.tm rfl)) rfl fun a S=>Dl (⟨hk6,S.nf [true,true] rfl (subR rfl)⟩))
      clear S;rintro a w8 ⟨hk7,S⟩
      refine Vm S rfl rfl fun a S=>Hj 5 (fun a w'=>Keep [] w8 w' ∧ Sx w [] nov [.blk b3 (Nn.enc y1) 74,.map b1 (Gn Value.string Value.bool x1) x1.length] [(3,.map (some b1)),(5,.pointer (some ⟨b3,0,none⟩)),(10,Ac),(11,iV (Ag.length : Int)),(12,iV (i1 : Int)),(42,bV (((!(Dx y1.Heats 1 60)) || (!(Dx y1.Long 1 3600000))) || (!(Dx y1.Gap 0 3600000))))] 53 a w') ?_ ?_
      ·rcases Bool.eq_false_or_eq_true ((!(Dx y1.Heats 1 60)) || (!(Dx y1.Long 1 3600000))) with hb5 | hb5
       ·iterate 4 (refine Gt S rfl rfl rfl (Mh hb5) rfl ?_ rfl;clear S;intro a S)
        exact lv S (Kh (!(Dx y1.Gap 0 3600000)) hb5 (S.tm rfl) rfl) rfl fun a S=>Dl (⟨Keep.refl _ _,S.nf [true,true] rfl (subR rfl)⟩)
       ·refine Ea S rfl rfl rfl hb5 (Vf PI S rfl rfl fun a S=>Ea S rfl rfl rfl hb5 (Vl isAgg3 0 S rfl rfl rfl rfl fun a S=>Ea S rfl rfl rfl hb5 (Ec S (fun _=>Dv (vs:=[iV y1.Gap,iV 0,iV 3600000]) ⟨(S.tm rfl),rfl,rfl,trivial⟩ call48) (Fk _ y1.Gap 0 3600000 _ rfl) rfl ?_)));clear S;intro v4 a w11 hv4 hk8 hn4 S
        subst hv4
        exact Ea S rfl rfl rfl hb5 (Vu S Hh rfl rfl fun a S=>lv S (Ki hb5 (S.tm rfl) (S.tm rfl)) rfl fun a S=>Dl (⟨hk8,S.nf [true,true] rfl (subR rfl)⟩))
      clear S;rintro a w10 ⟨hk9,S⟩
      refine Vm S rfl rfl fun a S=>Hj 5 (fun a w'=>Keep [] w10 w' ∧ Sx w [] nov [.blk b3 (Nn.enc y1) 74,.map b1 (Gn Value.string Value.bool x1) x1.length] [(3,.map (some b1)),(5,.pointer (some ⟨b3,0,none⟩)),(10,Ac),(11,iV (Ag.length : Int)),(12,iV (i1 : Int)),(48,bV ((((!(Dx y1.Heats 1 60)) || (!(Dx y1.Long 1 3600000))) || (!(Dx y1.Gap 0 3600000))) || (!(Dx y1.Break 0 3600000))))] 53 a w') ?_ ?_
      ·rcases Bool.eq_false_or_eq_true (((!(Dx y1.Heats 1 60)) || (!(Dx y1.Long 1 3600000))) || (!(Dx y1.Gap 0 3600000))) with hb6 | hb6
       ·iterate 4 (refine Gt S rfl rfl rfl (Mh hb6) rfl ?_ rfl;clear S;intro a S)
        exact lv S (Kh (!(Dx y1.Break 0 3600000)) hb6 (S.tm rfl) rfl) rfl fun a S=>Dl (⟨Keep.refl _ _,S.nf [true,true] rfl (subR rfl)⟩)
       ·refine Ea S rfl rfl rfl hb6 (Vf PJ S rfl rfl fun a S=>Ea S rfl rfl rfl hb6 (Vl isAgg3 0 S rfl rfl rfl rfl fun a S=>Ea S rfl rfl rfl hb6 (Ec S (fun _=>Dv (vs:=[iV y1.Break,iV 0,iV 3600000]) ⟨(S.tm rfl),rfl,rfl,trivial⟩ call48) (Fk _ y1.Break 0 3600000 _ rfl) rfl ?_)));clear S;intro v5 a w13 hv5 hk10 hn5 S
        subst hv5
        exact Ea S rfl rfl rfl hb6 (Vu S Hh rfl rfl fun a S=>lv S (Ki hb6 (S.tm rfl) (S.tm rfl)) rfl fun a S=>Dl (⟨hk10,S.nf [true,true] rfl (subR rfl)⟩))
      clear S;rintro a w12 ⟨hk11,S⟩
      refine Va S rfl rfl fun a S=>Dl (Fc h (S.tm rfl) (fun hb7 h=>?_) (fun hb7 h=>?_))
      ·refine Fr (Vk S rfl rfl fun a S=>Dl (wp_ret (Fq (Dy (Fq (Dy (Dy ?_)))))))
       refine Fq (Dy (Dy ?_))
       obtain rfl:=Option.some.inj h
       exact Eo S results87 rfl rfl
      ·refine wp_skip (Ho (Tn (Fg (Vm S rfl rfl fun a S=>Vf GM S rfl rfl fun a S=>Vl isAgg9 0 S rfl rfl rfl rfl fun a S=>Ox (kv:=Value.string) (vv:=Value.bool) (m:=x1) (key:=y1.Key) (val:=true) S (i:=1) rfl underlying187 (Mz underlying9) (S.tm rfl) (S.tm rfl) rfl ?_))));clear S;intro w14 hk12 S
       exact Ld (Ho (Tn (Fg (Vq S Gf rfl rfl rfl fun a S=>Vm S rfl rfl fun a S=>Dl (⟨ys1,⟨i1 + 1,(Gj x1 y1.Key true),⟨_,(hd1).trans (List.append_cons _ _ _),by simp [hi1]⟩,h,S.nf [false,true] rfl ⟨rfl,rfl,rfl,(congrArg (fun z=>some (Value.int .i64 z)) (Hw hd1 hi1 (Jn Ae))),trivial⟩⟩,Nat.lt_succ_self _⟩)))))
  clear S h;rintro a w3 ⟨x1,h,S⟩;rw [hj1] at h;clear hj1 j1
  refine Tn (Fr (Vk S rfl rfl fun a S=>Dl (wp_ret ?_)))
  obtain rfl:=Option.some.inj h
  exact Eo S results87 rfl rfl
theorem BE (w : World) (Ac : Value) (Ag : List Nn) (Ae : Slc (view w []) 5 Ac (Ag.map Nn.enc)) (Bb : Int) (r : (List Kn)) (h : Ve Ag Bb = some r) :
    Calls prog 109 [Ac,iV Bb].toArray w (Ret w [] fun τ v _=>Td τ 171 4 v r.length (r.flatMap Kn.enc)):=by
 refine Fe func109 rfl ntmps109 rfl fun a S=>?_
 unfold Ve at h
 replace S:=S.k2 0 1 rfl
 refine Fr (Vk S rfl rfl fun a S=>Dz (Vk S rfl rfl ?_));clear S;intro a S
 replace S:=S.nil 171 4
 refine Dz (Vm S rfl rfl fun a S=>Va S rfl rfl fun a S=>Dl (Fs (Fs (Fg ?_))))
 refine Vm S rfl rfl fun a S=>lv S (Fz ME (S.tm rfl) (Fl Ae)) rfl fun a S=>lv S (Rm rfl) rfl fun a S=>Dl ?_
 replace S:=(S.nl [.own (.slice none 0 0) 171 4 ([] : List Kn).length (([] : List Kn).flatMap Kn.enc)] [true] rfl).k5 5 6 11 12 13 rfl
 obtain ⟨j1,hj1,h⟩:=Eu h
 refine En (fun a w'=>∃ x1 : List Kn,∃ v1 : Value,j1 x1 = some r ∧ Sx w [] nov [.own v1 171 4 x1.length (x1.flatMap Kn.enc)] [(5,v1)] 54 a w') ?_ ?_
 ·refine wp_block (Hb (fun (ys1 : List Nn) a w'=>∃ i1 : Nat,∃ x1 : List Kn,∃ x2 : Int,∃ v1 : Value,(∃ dn,Ag = dn ++ ys1 ∧ dn.length = i1) ∧ Ln j1 ys1 i1 x1 x2 = some r ∧ Sx w [] nov [.own v1 171 4 x1.length (x1.flatMap Kn.enc)] [(5,v1),(6,iV x2),(11,Ac),(12,iV (Ag.length : Int)),(13,iV (i1 : Int))] 54 a w') List.length Ag ⟨0,([] : List Kn),Bb,(.slice none 0 0),⟨[],rfl,rfl⟩,h,S.nf [true] rfl (subR rfl)⟩ ?_)
  clear S h;rintro ys1 a w1 ⟨i1,x1,x2,v1,⟨dn,hd1,hi1⟩,h,S⟩
  cases ys1 with
  | nil =>
   rw [Ln.eq_1] at h
   refine Fr (Vb S Ex rfl rfl rfl fun a S=>Ld ?_)
   replace S:=S.k6 5 6 11 12 13 14 rfl
   exact Tn (Fs (wp_cond_false ((S.tm rfl).trans (congrArg Value.bool (Io hd1 hi1))) (wp_exit (Ei (Ei (Gp (Tn (⟨x1,v1,h,S.nf [true] rfl ⟨rfl,trivial⟩⟩))))))))
  | cons y1 ys1 =>
   rw [Ln.eq_2] at h
   refine Fr (Vb S Ex rfl rfl rfl fun a S=>Ld ?_)
   replace S:=S.k6 5 6 11 12 13 14 rfl
   refine Tn (Fs (wp_cond_true ((S.tm rfl).trans (congrArg Value.bool (Hv hd1 hi1))) (wp_skip (Tn (Fs (wp_block (Fs (Fg ?_))))))))
   obtain ⟨b1,o1,hm1,hr1⟩:=Fd (a:=a) (x:=.tmp 11) (y:=.tmp 13) (ty:=0) ME Ae (Iq hd1 hi1) rfl (S.tm rfl) (S.tm rfl)
   refine lv S (hr1 _) rfl ?_;clear S;intro a S
   clear hr1
   refine lv S (Fx isAgg74 sizeOf74 (off:=o1) (o:=0) (part:=(Nn.enc y1)) rfl rfl (S.tm rfl) (hm1.at S.emb0)) rfl fun a S=>Hz S zeroValue74 (cs:=[sV An,iV 0,iV 0,iV 0,iV 0]) rfl rfl ?_;clear S;intro a w3 b2 hz1 hk1 S
   refine Fh S (S.tm rfl) (S.tm rfl) (i:=0) (off:=0) rfl sizeOf74 (vs:=(Nn.enc y1)) rfl rfl rfl rfl ?_;clear S;intro w4 hk2 S
   refine Dl (Fs (Fr (Vk S rfl rfl fun a S=>Dl ?_)))
   replace S:=(S.nl [.blk b2 (Nn.enc y1) 74,.own v1 171 4 x1.length (x1.flatMap Kn.enc)] [true,true] rfl).k7 5 6 8 9 11 12 13 rfl
   obtain ⟨j2,hj2,h⟩:=Eu h
   refine En (fun a w'=>∃ x3 : List Kn,∃ x4 : Int,∃ v2 : Value,j2 x3 x4 = some r ∧ Sx w [] nov [.blk b2 (Nn.enc y1) 74,.own v2 171 4 x3.length (x3.flatMap Kn.enc)] [(5,v2),(6,iV x4),(8,.pointer (some ⟨b2,0,none⟩)),(11,Ac),(12,iV (Ag.length : Int)),(13,iV (i1 : Int))] 54 a w') ?_ ?_
   ·refine wp_block (Hb (fun (m1 : Nat) a w'=>∃ x3 : List Kn,∃ x4 : Int,∃ x5 : Int,∃ v2 : Value,Lm y1 j2 m1 x3 x4 x5 = some r ∧ Sx w [] nov [.blk b2 (Nn.enc y1) 74,.own v2 171 4 x3.length (x3.flatMap Kn.enc)] [(5,v2),(6,iV x4),(8,.pointer (some ⟨b2,0,none⟩)),(9,iV x5),(11,Ac),(12,iV (Ag.length : Int)),(13,iV (i1 : Int))] 54 a w') id ((y1.Heats - 1).toNat + 2) ⟨x1,x2,1,v1,h,S.nf [true,true] rfl (subR rfl)⟩ ?_)
    clear S h;rintro m1 a w5 ⟨x3,x4,x5,v2,h,S⟩
    cases m1 with
    | zero=>rw [Lm.eq_1] at h;cases h
    | succ m1 =>
     rw [Lm.eq_2] at h
     refine Fs (Fr (Vm S rfl rfl fun a S=>Vf KV S rfl rfl fun a S=>Vl isAgg3 0 S rfl rfl rfl rfl fun a S=>Vb S Uk rfl rfl rfl fun a S=>Dl (Fc h (S.tm rfl) (fun hb1 h=>?_) (fun hb1 h=>?_))))
     ·refine wp_skip (Tn (Fs ?_))
      obtain ⟨j3,hj3,h⟩:=Eu h
      refine En (fun a w'=>∃ x6 : List Kn,∃ x7 : Int,∃ v3 : Value,j3 x6 x7 = some r ∧ Sx w [] nov [.blk b2 (Nn.enc y1) 74,.own v3 171 4 x6.length (x6.flatMap Kn.enc)] [(5,v3),(6,iV x7),(8,.pointer (some ⟨b2,0,none⟩)),(9,iV x5),(11,Ac),(12,iV (Ag.length : Int)),(13,iV (i1 : Int))] 54 a w') ?_ ?_
      ·refine wp_block (Fr (Vm S rfl rfl fun a S=>Vf GM S rfl rfl fun a S=>Vl isAgg9 0 S rfl rfl rfl rfl ?_));clear S;intro a S
       iterate 3 (refine Vm S rfl rfl ?_;clear S;intro a S)
       refine Vf KW S rfl rfl fun a S=>Vl isAgg3 0 S rfl rfl rfl rfl fun a S=>Vb S Gf rfl rfl rfl fun a S=>lv S (Mj bt_169 (pv:=[(0,iV x4),(1,iV (W (x4 + y1.Long)))]) ⟨rfl,(S.tm rfl),rfl,(S.tm rfl),trivial⟩ (cs:=[iV x4,iV (W (x4 + y1.Long))]) (by kernel_rfl)) rfl fun a S=>lv S (Mj bt_171 (pv:=[(0,sV y1.Key),(1,iV x5),(2,.agg #[iV x4,iV (W (x4 + y1.Long))])]) ⟨rfl,(S.tm rfl),rfl,(S.tm rfl),rfl,(S.tm rfl),trivial⟩ (cs:=[sV y1.Key,iV x5,iV x4,iV (W (x4 + y1.Long))]) (by kernel_rfl)) rfl fun a S=>Et S underlying123 sizeOf171 zeroValue171 rfl rfl (pv:=[(0,.agg #[sV y1.Key,iV x5,iV x4,iV (W (x4 + y1.Long))])]) ⟨rfl,(S.tm rfl),trivial⟩ (cs:=[sV y1.Key,iV x5,iV x4,iV (W (x4 + y1.Long))]) (by kernel_rfl) rfl ?_;clear S;intro a w8 b3 hz2 hk3 S
       obtain ⟨hc1,h⟩:=Ia h
       refine Mb KO Kn.enc_ok S (S.tm rfl) (i:=2) rfl (S.tm rfl) (j:=0) rfl (ys:=[(Kn.mk y1.Key x5 (Tg.mk x4 (W (x4 + y1.Long))))]) rfl rfl rfl rfl (by have:=Mn hc1;omega) rfl ?_;clear S;intro v4 a w9 hk4 S
       refine Va S rfl rfl fun a S=>Ld ?_
       replace S:=(S.nl [.blk b2 (Nn.enc y1) 74,.own v4 171 4 (x3 ++ [(Kn.mk y1.Key x5 (Tg.mk x4 (W (x4 + y1.Long))))]).length ((x3 ++ [(Kn.mk y1.Key x5 (Tg.mk x4 (W (x4 + y1.Long))))]).flatMap Kn.enc)] [false,true,true] rfl).k7 5 6 8 9 11 12 13 rfl
       refine Tn (Fr (Vm S rfl rfl fun a S=>Vf KW S rfl rfl fun a S=>Vl isAgg3 0 S rfl rfl rfl rfl fun a S=>Vb S Gf rfl rfl rfl fun a S=>Va S rfl rfl fun a S=>Dl (Fs ?_)))
       refine Fg (Vm S rfl rfl fun a S=>Vf KV S rfl rfl fun a S=>Vl isAgg3 0 S rfl rfl rfl rfl fun a S=>Vb S Ex rfl rfl rfl fun a S=>Ld ?_)
       replace S:=S.k8 5 6 8 9 11 12 13 43 rfl
       refine Tn ?_
       obtain ⟨j4,hj4,h⟩:=Eu h
       refine En (fun a w'=>∃ x8 : Int,j4 x8 = some r ∧ Sx w [] nov [.blk b2 (Nn.enc y1) 74,.own v4 171 4 (x3 ++ [(Kn.mk y1.Key x5 (Tg.mk x4 (W (x4 + y1.Long))))]).length ((x3 ++ [(Kn.mk y1.Key x5 (Tg.mk x4 (W (x4 + y1.Long))))]).flatMap Kn.enc)] [(5,v4),(6,iV x8),(8,.pointer (some ⟨b2,0,none⟩)),(9,iV x5),(11,Ac),(12,iV (Ag.length : Int)),(13,iV (i1 : Int))] 54 a w') ?_ ?_
       ·refine Fc h (S.tm rfl) (fun hb2 h=>?_) (fun hb2 h=>?_)
        ·exact Fg (Vm S rfl rfl fun a S=>Vf PI S rfl rfl fun a S=>Vl isAgg3 0 S rfl rfl rfl rfl fun a S=>Vb S Gf rfl rfl rfl fun a S=>Va S rfl rfl fun a S=>Dl (⟨W ((W (x4 + y1.Long)) + y1.Gap),h,S.nf [true,true] rfl (subR rfl)⟩))
        ·exact wp_skip (Tn (⟨W (x4 + y1.Long),h,S.nf [true,true] rfl (subR rfl)⟩))
       clear S h;rintro a w10 ⟨x8,h,S⟩;rw [hj4] at h;clear hj4 j4
       exact Ho (Tn (⟨(x3 ++ [(Kn.mk y1.Key x5 (Tg.mk x4 (W (x4 + y1.Long))))]),x8,v4,h,S.nf [true,true] rfl (subR rfl)⟩))
      clear S h;rintro a w7 ⟨x6,x7,v3,h,S⟩;rw [hj3] at h;clear hj3 j3
      exact Tn (Fg (Vm S rfl rfl fun a S=>Vq S Gf rfl rfl rfl fun a S=>Va S rfl rfl fun a S=>Dl (⟨m1,⟨x6,x7,W (x5 + 1),v3,h,S.nf [true,true] rfl ⟨rfl,rfl,rfl,rfl,rfl,rfl,rfl,trivial⟩⟩,Nat.lt_succ_self _⟩)))
     ·exact wp_exit (Ei (Ei (Gp (Tn (⟨x3,x4,v2,h,S.nf [true,true] rfl (subR rfl)⟩)))))
   clear S h;rintro a w6 ⟨x3,x4,v2,h,S⟩;rw [hj2] at h;clear hj2 j2
   refine Tn (Fg (Vm S rfl rfl fun a S=>Vf PJ S rfl rfl fun a S=>Vl isAgg3 0 S rfl rfl rfl rfl fun a S=>Vb S Gf rfl rfl rfl fun a S=>Va S rfl rfl fun a S=>Ld (Ho (Tn (Fg ?_)))))
   exact Vq S Gf rfl rfl rfl fun a S=>Vm S rfl rfl fun a S=>Dl (⟨ys1,⟨i1 + 1,x3,W (x4 + y1.Break),v2,⟨_,(hd1).trans (List.append_cons _ _ _),by simp [hi1]⟩,h,S.nf [false,true] rfl ⟨rfl,rfl,rfl,rfl,(congrArg (fun z=>some (Value.int .i64 z)) (Hw hd1 hi1 (Jn Ae))),trivial⟩⟩,Nat.lt_succ_self _⟩)
 clear S h;rintro a w2 ⟨x1,v1,h,S⟩;rw [hj1] at h;clear hj1 j1
 refine Tn (Fr (Vm S rfl rfl fun a S=>Va S rfl rfl fun a S=>Dl (wp_ret ?_)))
 obtain rfl:=Option.some.inj h
 exact Eo S results109 rfl (Sw S (i:=0) rfl rfl)
theorem BF (w : World) (Ac : Value) (Ag : List Kn) (Ae : Slc (view w []) 4 Ac (Ag.map Kn.enc)) (Bb : Int) (r : Int) (h : Yb Ag Bb = some r) :
    Calls prog 53 [Ac,iV Bb].toArray w (Ret w [] fun _ v _=>v = iV r):=by
 refine Fe func53 rfl ntmps53 rfl fun a S=>?_
 unfold Yb at h
 replace S:=S.k2 0 1 rfl
 refine Fr (Vk S rfl rfl fun a S=>Dl (Fs (Fr (Vm S rfl rfl fun a S=>lv S (Fz KO (S.tm rfl) (Fl Ae)) rfl fun a S=>Vq S Im rfl rfl rfl ?_))));clear S;intro a S
 refine Dl (Fc h (S.tm rfl) (fun hb1 h=>?_) (fun hb1 h=>?_))
 ·refine Fr (Vm S rfl rfl fun a S=>Va S rfl rfl fun a S=>Dl (wp_ret (Dy ?_)))
  obtain rfl:=Option.some.inj h
  exact Eo S results53 rfl rfl
 ·refine wp_skip (Tn (Fr (Vm S rfl rfl fun a S=>Vm S rfl rfl fun a S=>lv S (Fz KO (S.tm rfl) (Fl Ae)) rfl fun a S=>Vq S Ja rfl rfl rfl ?_)));clear S;intro a S
  obtain ⟨hc1,h⟩:=Ia h
  obtain ⟨b1,o1,hm1,hr1⟩:=Fd (a:=a) (x:=.tmp 9) (y:=.tmp 12) (ty:=0) KO Ae (Ed hc1).1 (Ed hc1).2 (S.tm rfl) (S.tm rfl)
  refine lv S (hr1 _) rfl ?_;clear S;intro a S
  clear hr1
  refine Vf TI S rfl rfl fun a S=>Vf TH S rfl rfl fun a S=>lv S (Hp isAgg3 (off:=o1) (o:=3) (S.tm rfl) (hm1.at S.emb0) rfl) rfl fun a S=>Va S rfl rfl fun a S=>Dl (wp_ret ?_)
  obtain rfl:=Option.some.inj h
  exact Eo S results53 rfl rfl
theorem FE (w : World) (Ac : Value) (Ag : List Nn) (Ae : Slc (view w []) 5 Ac (Ag.map Nn.enc)) (Bb : Int) (r : (List Kn) × Int) (h : Yo Ag Bb = some r) :
    Calls prog 88 [Ac,iV Bb].toArray w (Ret w [] fun τ v _=>∃ u1 : Value,v = .tuple #[u1,iV r.2] ∧ Td τ 171 4 u1 r.1.length (r.1.flatMap Kn.enc)):=by
 refine Fe func88 rfl ntmps88 rfl fun a S=>?_
 unfold Yo at h
 replace S:=S.k2 0 1 rfl
 refine Fr (Vk S rfl rfl fun a S=>Vk S rfl rfl fun a S=>Dl (Fs (Fr (Vm S rfl rfl fun a S=>Ec S (fun _=>Dv (vs:=[iV Bb]) ⟨(S.tm rfl),trivial⟩ call40) (Ss _ Bb _ rfl) rfl ?_))));clear S;intro v1 a w1 hv1 hk1 hn1 S
 subst hv1
 refine Vu S Hh rfl rfl fun a S=>Dl (Fc h (S.tm rfl) (fun hb1 h=>?_) (fun hb1 h=>?_))
 ·refine Fr (Vk S rfl rfl fun a S=>Vk S rfl rfl fun a S=>Dl (wp_ret (Dy ?_)))
  obtain rfl:=Option.some.inj h
  exact Lq S results88 rfl rfl ⟨_,rfl,(Ow _ _ _)⟩
 ·refine wp_skip (Tn (Fr (Vm S rfl rfl fun a S=>Vm S rfl rfl ?_)));clear S;intro a S
  obtain ⟨r1,hr1,h⟩:=Fb h
  have hz1:=S.keep.size
  refine Ec S (fun _=>Dv (vs:=[Ac,iV Bb]) ⟨(S.tm rfl),(S.tm rfl),trivial⟩ call109) (BE _ Ac Ag (Ae.mono (S.le_arg Ej)) Bb _ hr1) rfl ?_;clear S;intro v2 a w2 hv2 hk2 hn2 S
  obtain ⟨φ1,hl1,hm1,S⟩:=S.see' hn2 hz1
  have hs1:=hv2.mono hm1
  refine Va S rfl rfl fun a S=>Dl (Fs (Fr (Vm S rfl rfl fun a S=>Vm S rfl rfl ?_)));clear S;intro a S
  obtain ⟨r2,hr2,h⟩:=Fb h
  refine Ec S (fun _=>Dv (vs:=[v2,iV Bb]) ⟨(S.tm rfl),(S.tm rfl),trivial⟩ call53) (BF _ v2 r1 ((He Kn.enc_ok hs1).mono (S.le_new Ej)) Bb _ hr2) rfl ?_;clear S;intro v3 a w3 hv3 hk3 hn3 S
  subst hv3
  refine Vq S Jh rfl rfl rfl fun a S=>Ld ?_
  replace S:=S.k2 6 16 rfl
  refine Tn (Fc h (S.tm rfl) (fun hb2 h=>?_) (fun hb2 h=>?_))
  ·refine Fr (Vk S rfl rfl fun a S=>Vk S rfl rfl fun a S=>Dl (wp_ret (Dy ?_)))
   obtain rfl:=Option.some.inj h
   exact Lq S results88 rfl rfl ⟨_,rfl,(Ow _ _ _)⟩
  ·refine wp_skip (Tn (Fr (Vm S rfl rfl fun a S=>Va S rfl rfl fun a S=>Vk S rfl rfl fun a S=>Dl (wp_ret ?_))))
   obtain rfl:=Option.some.inj h
   exact Lq S results88 rfl rfl ⟨_,rfl,((hs1).mono S.le_newer)⟩
theorem BG (w : World) (Ac : Value) (Ag : List Nn) (Ae : Slc (view w []) 5 Ac (Ag.map Nn.enc)) (Bb : Int) (r : (List Kn) × Int) (h : Vg Ag Bb = some r) :
    Calls prog 52 [Ac,iV Bb].toArray w (Ret w [] fun τ v _=>∃ u1 : Value,v = .tuple #[u1,iV r.2] ∧ Td τ 171 4 u1 r.1.length (r.1.flatMap Kn.enc)):=by
 refine Fe func52 rfl ntmps52 rfl fun a S=>?_
 unfold Vg at h
 replace S:=S.k2 0 1 rfl
 refine Fr (Vk S rfl rfl fun a S=>Vk S rfl rfl fun a S=>Dl (Fs (Fr (Vm S rfl rfl ?_))));clear S;intro a S
 obtain ⟨r1,hr1,h⟩:=Fb h
 refine Ec S (fun _=>Dv (vs:=[Ac]) ⟨(S.tm rfl),trivial⟩ call87) (AH _ Ac Ag (Ae.mono (S.le_arg Ej)) _ hr1) rfl ?_;clear S;intro v1 a w1 hv1 hk1 hn1 S
 subst hv1
 refine Va S rfl rfl fun a S=>Dz (Vm S rfl rfl fun a S=>Vq S Ky rfl rfl rfl fun a S=>Dl (Fc h (S.tm rfl) (fun hb1 h=>?_) (fun hb1 h=>?_)))
 ·refine Fr (Vm S rfl rfl fun a S=>Vk S rfl rfl fun a S=>Va S rfl rfl fun a S=>Dl (wp_ret (Dy ?_)))
  obtain rfl:=Option.some.inj h
  exact Lq S results52 rfl rfl ⟨_,rfl,(Ow _ _ _)⟩
 ·refine wp_skip (Tn (Fr (Vm S rfl rfl fun a S=>Vm S rfl rfl ?_)));clear S;intro a S
  obtain ⟨r2,hr2,h⟩:=Fb h
  have hz1:=S.keep.size
  refine Ec S (fun _=>Dv (vs:=[Ac,iV Bb]) ⟨(S.tm rfl),(S.tm rfl),trivial⟩ call88) (FE _ Ac Ag (Ae.mono (S.le_arg Ej)) Bb _ hr2) rfl ?_;clear S;intro v2 a w2 hv2 hk2 hn2 S
  obtain ⟨u1,rfl,ho1⟩:=hv2
  obtain ⟨φ1,hl1,hm1,S⟩:=S.see' hn2 hz1
  have hs1:=ho1.mono hm1
  refine Vq S Gx rfl rfl rfl fun a S=>Vq S Gx rfl rfl rfl fun a S=>Va S rfl rfl fun a S=>Va S rfl rfl fun a S=>Dl (wp_ret ?_)
  obtain rfl:=Option.some.inj h
  exact Lq S results52 rfl rfl ⟨_,rfl,((hs1).mono S.le_newer)⟩
theorem GF (w : World) (Ac : Value) (Ag : List Nn) (Ae : Slc (view w []) 5 Ac (Ag.map Nn.enc)) (Bb : Int) (r : Int × Int) (h : Zm Ag Bb = some r) :
    Calls prog 23 [Ac,iV Bb].toArray w (Ret w [] fun _ v _=>v = .tuple #[iV r.1,iV r.2]):=by
 refine Fe func23 rfl ntmps23 rfl fun a S=>?_
 unfold Zm at h
 replace S:=S.k2 0 1 rfl
 refine Fr (Vk S rfl rfl fun a S=>Vk S rfl rfl fun a S=>Dz (Vm S rfl rfl fun a S=>Vm S rfl rfl ?_));clear S;intro a S
 obtain ⟨r1,hr1,h⟩:=Fb h
 have hz1:=S.keep.size
 refine Ec S (fun _=>Dv (vs:=[Ac,iV Bb]) ⟨(S.tm rfl),(S.tm rfl),trivial⟩ call52) (BG _ Ac Ag (Ae.mono (S.le_arg Ej)) Bb _ hr1) rfl ?_;clear S;intro v1 a w1 hv1 hk1 hn1 S
 obtain ⟨u1,rfl,ho1⟩:=hv1
 obtain ⟨φ1,hl1,hm1,S⟩:=S.see' hn1 hz1
 have hs1:=ho1.mono hm1
 refine Vm S rfl rfl fun a S=>Vq S Gx rfl rfl rfl fun a S=>Vq S Gx rfl rfl rfl fun a S=>Va S rfl rfl fun a S=>Va S rfl rfl fun a S=>Dl (Fs (Fr (Vm S rfl rfl ?_)));clear S;intro a S
 refine Vq S Ky rfl rfl rfl fun a S=>Dl (Fc h (S.tm rfl) (fun hb1 h=>?_) (fun hb1 h=>?_))
 ·refine Fr (Vm S rfl rfl fun a S=>Vk S rfl rfl fun a S=>Va S rfl rfl fun a S=>Ld ?_)
  replace S:=S.k2 4 5 rfl
  refine Tn (wp_ret (Dy ?_))
  obtain rfl:=Option.some.inj h
  exact Lq S results23 rfl rfl rfl
 ·refine wp_skip (Tn (Fr (Vm S rfl rfl fun a S=>Vm S rfl rfl ?_)));clear S;intro a S
  obtain ⟨r2,hr2,h⟩:=Fb h
  refine Ec S (fun _=>Dv (vs:=[u1,iV Bb]) ⟨(S.tm rfl),(S.tm rfl),trivial⟩ call53) (BF _ u1 r1.1 ((He Kn.enc_ok hs1).mono (S.le_new Ej)) Bb _ hr2) rfl ?_;clear S;intro v2 a w2 hv2 hk2 hn2 S
  subst hv2
  refine Va S rfl rfl fun a S=>Vk S rfl rfl fun a S=>Ld ?_
  replace S:=S.k2 4 5 rfl
  refine Tn (wp_ret ?_)
  obtain rfl:=Option.some.inj h
  exact Lq S results23 rfl rfl rfl
theorem Wa (w : World) (Az : Int) (r : Bool) (h : Qz Az = r) :
    Calls prog 56 [iV Az].toArray w (Ret w [] fun _ v _=>v = bV r):=by
 refine Fe func56 rfl ntmps56 rfl fun a S=>?_
 unfold Qz at h
 replace S:=S.k1 0 rfl
 refine Fr (Vk S rfl rfl fun a S=>Dz (Vm S rfl rfl fun a S=>Ec S (fun _=>Dv (vs:=[iV Az,iV 1,iV 360000]) ⟨(S.tm rfl),rfl,rfl,trivial⟩ call48) (Fk _ Az 1 360000 _ rfl) rfl ?_));clear S;intro v1 a w1 hv1 hk1 hn1 S
 subst hv1
 refine Va S rfl rfl fun a S=>Dl (wp_ret ?_)
 subst h
 exact Eo S results56 rfl rfl
set_option maxRecDepth 20000 in
theorem CJ (w : World) (Ac : Value) (Ag : List Rd) (Ae : Slc (view w []) 2 Ac (Ag.map Rd.enc)) (r : Int) (h : Vx Ag = some r) :
    Calls prog 54 [Ac].toArray w (Ret w [] fun _ v _=>v = iV r):=by
 refine Fe func54 rfl ntmps54 rfl fun a S=>?_
 unfold Vx at h
 replace S:=S.k1 0 rfl
 refine Fr (Vk S rfl rfl fun a S=>Dl (Fs (Fr (Vm S rfl rfl fun a S=>lv S (Fz JI (S.tm rfl) (Fl Ae)) rfl fun a S=>Vq S Jh rfl rfl rfl ?_))));clear S;intro a S
 refine Dl (Fc h (S.tm rfl) (fun hb1 h=>?_) (fun hb1 h=>?_))
 ·refine Fr (Vk S rfl rfl fun a S=>Dl (wp_ret (Dy ?_)))
  obtain rfl:=Option.some.inj h
  exact Eo S results54 rfl rfl
 ·refine wp_skip (Tn (Fs (Fr (Vm S rfl rfl fun a S=>lv S (Fz JI (S.tm rfl) (Fl Ae)) rfl fun a S=>lv S (Rm rfl) rfl fun a S=>Dl ?_))))
  replace S:=S.k4 0 8 9 10 rfl
  obtain ⟨j1,hj1,h⟩:=Eu h
  refine En (fun a w'=>j1 = some r ∧ Sx w [] nov [] [] 40 a w') ?_ ?_
  ·refine wp_block (Hb (fun (ys1 : List Rd) a w'=>∃ i1 : Nat,(∃ dn,Ag = dn ++ ys1 ∧ dn.length = i1) ∧ Mg Ag j1 ys1 i1 = some r ∧ Sx w [] nov [] [(0,Ac),(8,Ac),(9,iV (Ag.length : Int)),(10,iV (i1 : Int))] 40 a w') List.length Ag ⟨0,⟨[],rfl,rfl⟩,h,S.nf [] rfl (subR rfl)⟩ ?_)
   clear S h;rintro ys1 a w1 ⟨i1,⟨dn,hd1,hi1⟩,h,S⟩
   cases ys1 with
   | nil =>
    rw [Mg.eq_1] at h
    refine Fr (Vb S Ex rfl rfl rfl fun a S=>Ld ?_)
    replace S:=S.k5 0 8 9 10 11 rfl
    exact Tn (Fs (wp_cond_false ((S.tm rfl).trans (congrArg Value.bool (Io hd1 hi1))) (wp_exit (Ei (Ei (Gp (Tn (⟨h,S.nf [] rfl trivial⟩))))))))
   | cons y1 ys1 =>
    rw [Mg.eq_2] at h
    refine Fr (Vb S Ex rfl rfl rfl fun a S=>Ld ?_)
    replace S:=S.k5 0 8 9 10 11 rfl
    refine Tn (Fs (wp_cond_true ((S.tm rfl).trans (congrArg Value.bool (Hv hd1 hi1))) (wp_skip (Tn (Fs (wp_block (Fr (Vm S rfl rfl ?_))))))));clear S;intro a S
    obtain ⟨b1,o1,hm1,hr1⟩:=Fd (a:=a) (x:=.tmp 8) (y:=.tmp 10) (ty:=0) JI Ae (Iq hd1 hi1) rfl (S.tm rfl) (S.tm rfl)
    refine lv S (hr1 _) rfl ?_;clear S;intro a S
    clear hr1
    refine lv S (Fx isAgg78 sizeOf78 (off:=o1) (o:=0) (part:=(Rd.enc y1)) rfl rfl (S.tm rfl) (hm1.at S.emb0)) rfl fun a S=>Hz S zeroValue78 (cs:=[sV An,iV 0]) rfl rfl ?_;clear S;intro a w3 b2 hz1 hk1 S
    refine Va S rfl rfl fun a S=>Fh S (S.tm rfl) (S.tm rfl) (i:=0) (off:=0) rfl sizeOf78 (vs:=(Rd.enc y1)) rfl rfl rfl rfl ?_;clear S;intro w4 hk2 S
    refine Dl (wp_block (Fr (Vf GN S rfl rfl fun a S=>Vl isAgg9 0 S rfl rfl rfl rfl ?_)));clear S;intro a S
    obtain ⟨r1,hr2,h⟩:=Fb h
    refine Ec S (fun _=>Dv (vs:=[sV y1.Race]) ⟨(S.tm rfl),trivial⟩ call89) (Ie _ y1.Race _ hr2) rfl ?_;clear S;intro v1 a w5 hv1 hk3 hn1 S
    subst hv1
    refine Vu S Hh rfl rfl fun a S=>Va S rfl rfl fun a S=>Ld ?_
    replace S:=(S.nl [.blk b2 (Rd.enc y1) 78] [true] rfl).k7 0 3 4 8 9 10 15 rfl
    refine Tn (Fc h (S.tm rfl) (fun hb2 h=>?_) (fun hb2 h=>?_))
    ·refine Fr (Vk S rfl rfl fun a S=>Dl (wp_ret (Fq (Fq (Dy (Dy (Fq ?_)))))))
     refine Dy (Dy ?_)
     obtain rfl:=Option.some.inj h
     exact Eo S results54 rfl rfl
    ·refine Fs (Hd [] ([]) Tryz.mixed S rfl (by kernel_rfl) ?_);clear S;intro w6 hk4 hsel S
     refine Kz [0,1,2,3,4,5,6,7,8,9,10,11,12,13] hsel (by kernel_rfl) rfl ?_
     clear hsel
     refine Gk S rfl (Rm (S.tm rfl)) rfl fun a S=>Gk S rfl (Jh (S.tm rfl) rfl) rfl fun a S=>Gk S rfl (Rm (S.tm rfl)) rfl ?_;clear S;intro a S
     obtain ⟨j2,hj2,h⟩:=Eu h
     refine Yl 10 (fun a w'=>∃ c1,j2 c1 = some r ∧ Keep [] w6 w' ∧ Sx w [] nov [.blk b2 (Rd.enc y1) 78] [(0,Ac),(4,.pointer (some ⟨b2,0,none⟩)),(8,Ac),(9,iV (Ag.length : Int)),(10,iV (i1 : Int)),(33,bV c1)] 40 a w') ?_ ?_
     ·rcases Bool.eq_false_or_eq_true (decide (0 < (i1 : Int))) with hb3 | hb3
      ·replace h:=Qw h hb3
       refine Fm S rfl rfl rfl rfl hb3 (Gv S (Ge GN (S.tm rfl)) rfl fun a S=>Fm S rfl rfl rfl rfl hb3 (Gv S (Mi isAgg9 (S.tm rfl) (S.cell (i:=0) rfl rfl)) rfl fun a S=>Fm S rfl rfl rfl rfl hb3 (Gv S (Rm (S.tm rfl)) rfl fun a S=>Fm S rfl rfl rfl rfl hb3 (Gv S (Rm (S.tm rfl)) rfl fun a S=>Fm S rfl rfl rfl rfl hb3 (Gv S (Ja (S.tm rfl) rfl) rfl fun a S=>Fm S rfl rfl rfl rfl hb3 ?_)))))
       obtain ⟨hc1,h⟩:=Ia h
       obtain ⟨b3,o2,hm2,hr3⟩:=Fd (a:=a) (x:=.tmp 26) (y:=.tmp 28) (ty:=0) JI Ae (Ed hc1).1 (Ed hc1).2 (S.tm rfl) (S.tm rfl)
       refine Gv S (hr3 _) rfl ?_;clear S;intro a S
       clear hr3
       exact Fm S rfl rfl rfl rfl hb3 (Gv S (Ge GN (S.tm rfl)) rfl fun a S=>Fm S rfl rfl rfl rfl hb3 (Gv S (Hp isAgg9 (off:=o2) (o:=0) (S.tm rfl) (hm2.at S.emb0) rfl) rfl fun a S=>Fm S rfl rfl rfl rfl hb3 (Gv S (GH (S.tm rfl) (S.tm rfl)) rfl fun a S=>Gk S rfl (Hm hb3 (S.tm rfl) (S.tm rfl)) rfl fun a S=>Ig (⟨_,h,Keep.refl _ _,S.nf [true] rfl (subR rfl)⟩))))
      ·replace h:=Qx h hb3
       iterate 9 (refine Qe S rfl rfl rfl rfl (Jq hb3) rfl ?_ rfl;clear S;intro a S)
       exact Gk S rfl (Hn true hb3 (S.tm rfl) rfl) rfl fun a S=>Ig (⟨_,h,Keep.refl _ _,S.nf [true] rfl (subR rfl)⟩)
     clear S h;rintro a w7 ⟨c1,h,hk5,S⟩;rw [hj2] at h;clear hj2 j2
     refine Gk S rfl (Ra (S.tm rfl)) rfl fun a S=>Ig ?_
     replace S:=S.k6 0 4 8 9 10 20 rfl
     refine Tn (Fc h (S.tm rfl) (fun hb4 h=>?_) (fun hb4 h=>?_))
     ·refine Fr (Vk S rfl rfl fun a S=>Dl (wp_ret (Fq (Fq (Dy (Dy (Fq ?_)))))))
      refine Dy (Dy ?_)
      obtain rfl:=Option.some.inj h
      exact Eo S results54 rfl rfl
     ·refine Fr (Vf PK S rfl rfl fun a S=>Vl isAgg3 0 S rfl rfl rfl rfl fun a S=>Ec S (fun _=>Dv (vs:=[iV y1.Time]) ⟨(S.tm rfl),trivial⟩ call56) (Wa _ y1.Time _ rfl) rfl ?_);clear S;intro v2 a w8 hv2 hk6 hn2 S
      subst hv2
      refine Vu S Hh rfl rfl fun a S=>Va S rfl rfl fun a S=>Dl (Fc h (S.tm rfl) (fun hb5 h=>?_) (fun hb5 h=>?_))
      ·refine Fr (Vk S rfl rfl fun a S=>Dl (wp_ret (Fq (Fq (Dy (Dy (Fq ?_)))))))
       refine Dy (Dy ?_)
       obtain rfl:=Option.some.inj h
       exact Eo S results54 rfl rfl
      ·exact wp_skip (Ho (Ho (Tn (Fg (Vq S Gf rfl rfl rfl fun a S=>Vm S rfl rfl fun a S=>Dl (⟨ys1,⟨i1 + 1,⟨_,(hd1).trans (List.append_cons _ _ _),by simp [hi1]⟩,h,S.nf [false] rfl ⟨rfl,rfl,rfl,(congrArg (fun z=>some (Value.int .i64 z)) (Hw hd1 hi1 (Jn Ae))),trivial⟩⟩,Nat.lt_succ_self _⟩))))))
  clear S h;rintro a w2 ⟨h,S⟩;rw [hj1] at h;clear hj1 j1
  refine Tn (Fr (Vk S rfl rfl fun a S=>Dl (wp_ret ?_)))
  obtain rfl:=Option.some.inj h
  exact Eo S results54 rfl rfl
theorem FF (w : World) (Ac : Value) (Ag : List Rd) (Ae : Slc (view w []) 2 Ac (Ag.map Rd.enc)) (Ax : ByteArray) (r : Int) (h : Sj Ag Ax = r) :
    Calls prog 55 [Ac,sV Ax].toArray w (Ret w [] fun _ v _=>v = iV r):=by
 refine Fe func55 rfl ntmps55 rfl fun a S=>?_
 unfold Sj at h
 replace S:=S.k2 0 1 rfl
 refine Fr (Vk S rfl rfl fun a S=>Dl (Fs (Fr (Vm S rfl rfl fun a S=>lv S (Fz JI (S.tm rfl) (Fl Ae)) rfl fun a S=>lv S (Rm rfl) rfl ?_))));clear S;intro a S
 refine Dl ?_
 replace S:=S.k4 1 7 8 9 rfl
 obtain ⟨j1,hj1,h⟩:=Eu h
 refine En (fun a w'=>j1 = r ∧ Sx w [] nov [] [] 20 a w') ?_ ?_
 ·refine wp_block (Hb (fun (ys1 : List Rd) a w'=>∃ i1 : Nat,(∃ dn,Ag = dn ++ ys1 ∧ dn.length = i1) ∧ Nw Ax j1 ys1 i1 = r ∧ Sx w [] nov [] [(1,sV Ax),(7,Ac),(8,iV (Ag.length : Int)),(9,iV (i1 : Int))] 20 a w') List.length Ag ⟨0,⟨[],rfl,rfl⟩,h,S.nf [] rfl (subR rfl)⟩ ?_)
  clear S h;rintro ys1 a w1 ⟨i1,⟨dn,hd1,hi1⟩,h,S⟩
  cases ys1 with
  | nil =>
   rw [Nw.eq_1] at h
   refine Fr (Vb S Ex rfl rfl rfl fun a S=>Ld ?_)
   replace S:=S.k5 1 7 8 9 10 rfl
   exact Tn (Fs (wp_cond_false ((S.tm rfl).trans (congrArg Value.bool (Io hd1 hi1))) (wp_exit (Ei (Ei (Gp (Tn (⟨h,S.nf [] rfl trivial⟩))))))))
  | cons y1 ys1 =>
   rw [Nw.eq_2] at h
   refine Fr (Vb S Ex rfl rfl rfl fun a S=>Ld ?_)
   replace S:=S.k5 1 7 8 9 10 rfl
   refine Tn (Fs (wp_cond_true ((S.tm rfl).trans (congrArg Value.bool (Hv hd1 hi1))) (wp_skip (Tn (Fs (wp_block (Fs (Fg ?_))))))))
   obtain ⟨b1,o1,hm1,hr1⟩:=Fd (a:=a) (x:=.tmp 7) (y:=.tmp 9) (ty:=0) JI Ae (Iq hd1 hi1) rfl (S.tm rfl) (S.tm rfl)
   refine lv S (hr1 _) rfl ?_;clear S;intro a S
   clear hr1
   refine lv S (Fx isAgg78 sizeOf78 (off:=o1) (o:=0) (part:=(Rd.enc y1)) rfl rfl (S.tm rfl) (hm1.at S.emb0)) rfl fun a S=>Hz S zeroValue78 (cs:=[sV An,iV 0]) rfl rfl ?_;clear S;intro a w3 b2 hz1 hk1 S
   refine Fh S (S.tm rfl) (S.tm rfl) (i:=0) (off:=0) rfl sizeOf78 (vs:=(Rd.enc y1)) rfl rfl rfl rfl ?_;clear S;intro w4 hk2 S
   refine Dz (Vf GN S rfl rfl fun a S=>Vl isAgg9 0 S rfl rfl rfl rfl fun a S=>Vm S rfl rfl fun a S=>Vb S Wb rfl rfl rfl fun a S=>Dl (Fc h (S.tm rfl) (fun hb1 h=>?_) (fun hb1 h=>?_)))
   ·refine Fr (Vf PK S rfl rfl fun a S=>Vl isAgg3 0 S rfl rfl rfl rfl fun a S=>Va S rfl rfl fun a S=>Ld ?_)
    replace S:=S.n0.k1 4 rfl
    refine Tn (wp_ret (Fq (Dy (Dy (Fq (Dy (Dy ?_)))))))
    subst h
    exact Eo S results55 rfl rfl
   ·exact wp_skip (Ho (Tn (Fg (Vq S Gf rfl rfl rfl fun a S=>Vm S rfl rfl fun a S=>Dl (⟨ys1,⟨i1 + 1,⟨_,(hd1).trans (List.append_cons _ _ _),by simp [hi1]⟩,h,S.nf [false] rfl ⟨rfl,rfl,rfl,(congrArg (fun z=>some (Value.int .i64 z)) (Hw hd1 hi1 (Jn Ae))),trivial⟩⟩,Nat.lt_succ_self _⟩)))))
 clear S h;rintro a w2 ⟨h,S⟩;rw [hj1] at h;clear hj1 j1
 refine Tn (Fr (Vk S rfl rfl fun a S=>Dl (wp_ret ?_)))
 subst h
 exact Eo S results55 rfl rfl
theorem IK (w : World) (Ab : Int) (Bh : Int) (r : Int × Int) (h : Rz Ab Bh = r) :
    Calls prog 90 [.int .u64 Ab,.int .u64 Bh].toArray w (Ret w [] fun _ v _=>v = .tuple #[.int .u64 r.1,.int .u64 r.2]):=by
 refine Fe func90 rfl ntmps90 rfl fun a S=>?_
 unfold Rz at h
 replace S:=S.k2 0 1 rfl
 refine Fr (Vk S rfl rfl fun a S=>Vk S rfl rfl fun a S=>Dz (Vm S rfl rfl fun a S=>Vq S DM rfl rfl rfl fun a S=>Va S rfl rfl ?_));clear S;intro a S
 refine Dz (Vm S rfl rfl fun a S=>lv S (Uu (S.tm rfl) rfl (by decide)) rfl fun a S=>Va S rfl rfl fun a S=>Dl (Fs (Fg ?_)))
 refine Vm S rfl rfl fun a S=>Vq S DM rfl rfl rfl fun a S=>Va S rfl rfl fun a S=>Dz (Vm S rfl rfl fun a S=>lv S (Uu (S.tm rfl) rfl (by decide)) rfl fun a S=>Va S rfl rfl fun a S=>Ld ?_)
 replace S:=S.k6 0 1 6 7 8 9 rfl
 refine Tn (Fr (Vm S rfl rfl fun a S=>Vm S rfl rfl fun a S=>Vb S Pa rfl rfl rfl fun a S=>Va S rfl rfl fun a S=>Dl (Fs (Fg ?_))))
 refine Vm S rfl rfl fun a S=>Vm S rfl rfl fun a S=>Vb S Pa rfl rfl rfl fun a S=>Vm S rfl rfl fun a S=>lv S (Uu (S.tm rfl) rfl (by decide)) rfl fun a S=>Vb S Ut rfl rfl rfl fun a S=>Va S rfl rfl fun a S=>Ld ?_
 replace S:=S.k6 0 1 6 7 9 11 rfl
 refine Tn (Fr (Vm S rfl rfl fun a S=>Vq S DM rfl rfl rfl fun a S=>Va S rfl rfl fun a S=>Dz (Vm S rfl rfl ?_)));clear S;intro a S
 refine lv S (Uu (S.tm rfl) rfl (by decide)) rfl fun a S=>Va S rfl rfl fun a S=>Dl (Fs (Fg ?_))
 iterate 3 (refine Vm S rfl rfl ?_;clear S;intro a S)
 refine Vb S Pa rfl rfl rfl fun a S=>Vb S Ut rfl rfl rfl fun a S=>Va S rfl rfl fun a S=>Ld ?_
 replace S:=S.k6 0 1 7 9 12 13 rfl
 refine Tn (Fr (Vm S rfl rfl fun a S=>Vm S rfl rfl fun a S=>Vb S Pa rfl rfl rfl fun a S=>Vm S rfl rfl fun a S=>Vb S Ut rfl rfl rfl fun a S=>Vm S rfl rfl fun a S=>lv S (Uu (S.tm rfl) rfl (by decide)) rfl fun a S=>Vb S Ut rfl rfl rfl ?_));clear S;intro a S
 refine Va S rfl rfl fun a S=>Ld ?_
 replace S:=S.k3 0 1 4 rfl
 refine Tn (Fr (Vm S rfl rfl fun a S=>Vm S rfl rfl fun a S=>Vb S Pa rfl rfl rfl fun a S=>Va S rfl rfl fun a S=>Dl (wp_ret ?_)))
 subst h
 exact Lq S results90 rfl rfl rfl
theorem Zu (w : World) (Ab : Int) (r : Int) (h : Tt Ab = some r) :
    Calls prog 111 [.int .u64 Ab].toArray w (Ret w [] fun _ v _=>v = iV r):=by
 refine Fe func111 rfl ntmps111 rfl fun a S=>?_
 unfold Tt at h
 replace S:=S.k1 0 rfl
 refine Fr (Vk S rfl rfl fun a S=>Dz (Vm S rfl rfl ?_));clear S;intro a S
 obtain ⟨r1,hr1,h⟩:=Fb h
 refine Ec S (fun _=>Dv (vs:=[.int .u64 Ab]) ⟨(S.tm rfl),trivial⟩ call134) (CP _ Ab _ hr1) rfl ?_;clear S;intro v1 a w1 hv1 hk1 hn1 S
 subst hv1
 refine Vu S (Ja rfl) rfl rfl fun a S=>Va S rfl rfl fun a S=>Dl (wp_ret ?_)
 obtain rfl:=Option.some.inj h
 exact Eo S results111 rfl rfl
end Go.Proofs.YtjlcjcabljbolaaGreatDoor
