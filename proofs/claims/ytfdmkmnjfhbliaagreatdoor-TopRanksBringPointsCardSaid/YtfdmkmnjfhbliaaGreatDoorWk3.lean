/- Each Go function computes its plain twin,by program. -/
import Derived.Test.YtfdmkmnjfhbliaaGreatDoorWk2
namespace Go.Proofs.YtfdmkmnjfhbliaaGreatDoor
open Go
open Go.Proofs.Tryz
theorem IQ (w : World) (U : Nat) (Ae : Jr) (Bn : R32) (Bv : Tt (view w []) Ae Bn) (Aq : Value) (Al : List Di) (Bd : Slc (view w []) 11 Aq (Al.map Di.enc)) (As : (view w []) U = some (.cells (R32.enc Bn ++ [Aq]).toArray 133 (0,0))) (Av : ByteArray) (r : (List Ds) × (List (ByteArray × ByteArray)) × Int) (h : Xa Ae Al Av = some r) :
    Calls prog 59 [.pointer (some ⟨U,0,none⟩),sV Av].toArray w (Ret w [] fun τ v _=>∃ u1 : Value,∃ u2 : Value,v = .tuple #[u1,u2,iV r.2.2] ∧ Uq τ 128 4 u1 r.1.length (r.1.flatMap Ds.enc) ∧ (∃ b : Nat,u2 = .map (some b) ∧ τ b = some (.map (Fi Value.string Value.string r.2.1) r.2.1.length))):=by
 obtain ⟨u1,u2,rfl,hs1,⟨u3,rfl,hs2⟩⟩:=Bv
 replace As : (view w []) U = some (.cells [u1.val,u3.val,iV Ae.Table.Relay,iV Ae.Table.Most,iV Ae.Final.Size,iV Ae.Final.Many,iV Ae.Final.Reserves,Aq].toArray 133 (0,0)):=As
 refine Fe func59 rfl ntmps59 rfl fun a S=>?_
 unfold Xa at h
 replace S:=S.k2 0 1 rfl
 refine Fs (Fg ?_)
 iterate 3 (refine Vk S rfl rfl ?_;clear S;intro a S)
 refine Dz (Vm S rfl rfl fun a S=>Vm S rfl rfl ?_);clear S;intro a S
 have hz1:=S.keep.size
 refine Eb S (fun _=>Dq (vs:=[.pointer (some ⟨U,0,none⟩),sV Av]) ⟨(S.tm rfl),(S.tm rfl),trivial⟩ call102) (LH _ U Ae (R32.mk u1 (R28.mk u3 Ae.Table.Relay Ae.Table.Most) Ae.Final) ⟨u1,(R28.mk u3 Ae.Table.Relay Ae.Table.Most),rfl,(hs1.mono (S.le_arg Eg)),⟨u3,rfl,(hs2.mono (S.le_arg Eg))⟩⟩ Aq Al (Bd.mono (S.le_arg Eg)) ((S.le_arg Eg) _ _ As) Av _ rfl) rfl ?_;clear S;intro v1 a w1 hv1 hk1 hn1 S
 obtain ⟨φ1,hl1,hm1,S⟩:=S.see' hn1 hz1
 obtain ⟨b1,rfl,hq1⟩:=hv1
 replace hq1:=hm1 _ _ hq1
 refine Va S rfl rfl fun a S=>Dz (Rg (κ:=ByteArray) (ν:=ByteArray) S rfl Value.string Value.string ?_);clear S;intro a w2 b2 hz2 hk2 S
 refine Va S rfl rfl fun a S=>Dz (Vk S rfl rfl ?_);clear S;intro a S
 replace S:=S.nil 173 2
 refine Dz (Vk S rfl rfl ?_);clear S;intro a S
 replace S:=S.nil 175 3
 refine Dl (Fs (Fr (Vm S rfl rfl fun a S=>Vm S rfl rfl ?_)));clear S;intro a S
 obtain ⟨r1,hr1,h⟩:=Fa h
 have hz3:=S.keep.size
 refine Eb S (fun _=>Dq (vs:=[.pointer (some ⟨U,0,none⟩),sV Av]) ⟨(S.tm rfl),(S.tm rfl),trivial⟩ call76) (Xu _ U Ae (R32.mk u1 (R28.mk u3 Ae.Table.Relay Ae.Table.Most) Ae.Final) ⟨u1,(R28.mk u3 Ae.Table.Relay Ae.Table.Most),rfl,(hs1.mono (S.le_arg Eg)),⟨u3,rfl,(hs2.mono (S.le_arg Eg))⟩⟩ Aq Al (Bd.mono (S.le_arg Eg)) ((S.le_arg Eg) _ _ As) Av _ hr1) rfl ?_;clear S;intro v2 a w3 hv2 hk3 hn2 S
 obtain ⟨φ2,hl2,hm2,S⟩:=S.see' hn2 hz3
 have hs3:=hv2.mono hm2
 refine lv S (Gi Oo (S.tm rfl) (Gf (Ge Di.enc_ok hs3))) rfl fun a S=>lv S (Rm rfl) rfl fun a S=>Ld ?_
 replace S:=(S.nl [.own (.slice none 0 0) 175 3 ([] : List Ub).length (([] : List Ub).flatMap Ub.enc),.own (.slice none 0 0) 173 2 ([] : List Kj).length (([] : List Kj).flatMap Kj.enc),.map b2 (Fi Value.string Value.string ([] : List (ByteArray × ByteArray))) ([] : List (ByteArray × ByteArray)).length] [true,true,true] rfl).k7 7 8 9 10 23 24 25 rfl
 refine Tn ?_
 obtain ⟨j1,hj1,h⟩:=Eu h
 refine Eh (fun a w'=>∃ x1 : List Iz,∃ x2 : List Kj,∃ x3 : List (ByteArray × ByteArray),∃ v3 : Value,∃ rs1 : List Ub,∃ v4 : Value,j1 x1 x2 x3 = some r ∧ Ng (Wk φ2) x1 rs1 ∧ Sx w [] φ2 [.own v3 175 3 rs1.length (rs1.flatMap Ub.enc),.own v4 173 2 x2.length (x2.flatMap Kj.enc),.map b2 (Fi Value.string Value.string x3) x3.length] [(8,.map (some b2)),(9,v4),(10,v3)] 72 a w') ?_ ?_
 ·refine wp_block (Gr (fun (ys1 : List Di) a w'=>∃ i1 : Nat,∃ x1 : List Iz,∃ x2 : List Kj,∃ x3 : List (ByteArray × ByteArray),∃ v3 : Value,∃ rs1 : List Ub,∃ v4 : Value,(∃ dn,r1 = dn ++ ys1 ∧ dn.length = i1) ∧ Mt Ae Al Av j1 ys1 i1 x1 x2 x3 = some r ∧ Ng (Wk φ2) x1 rs1 ∧ Sx w [] φ2 [.own v3 175 3 rs1.length (rs1.flatMap Ub.enc),.own v4 173 2 x2.length (x2.flatMap Kj.enc),.map b2 (Fi Value.string Value.string x3) x3.length] [(7,.map (some b1)),(8,.map (some b2)),(9,v4),(10,v3),(23,v2),(24,iV (r1.length : Int)),(25,iV (i1 : Int))] 72 a w') List.length r1 ⟨0,([] : List Iz),([] : List Kj),([] : List (ByteArray × ByteArray)),(.slice none 0 0),([] : List Ub),(.slice none 0 0),⟨[],rfl,rfl⟩,h,.nil,S.nf [true,true,true] rfl (subR rfl)⟩ ?_)
  clear S h;rintro ys1 a w4 ⟨i1,x1,x2,x3,v3,rs1,v4,⟨dn,hd1,hi1⟩,h,hr2,S⟩
  cases ys1 with
  | nil =>
   rw [Mt.eq_1] at h
   refine Fr (Vb S Es rfl rfl rfl fun a S=>Ld ?_)
   replace S:=S.k8 7 8 9 10 23 24 25 26 rfl
   exact Tn (Fs (wp_cond_false ((S.tm rfl).trans (congrArg Value.bool (Jd hd1 hi1))) (wp_exit (Ed (Ed (Gn (Tn (⟨x1,x2,x3,v3,rs1,v4,h,hr2,S.nf [true,true,true] rfl (subR rfl)⟩))))))))
  | cons y1 ys1 =>
   rw [Mt.eq_2] at h
   refine Fr (Vb S Es rfl rfl rfl fun a S=>Ld ?_)
   replace S:=S.k8 7 8 9 10 23 24 25 26 rfl
   refine Tn (Fs (wp_cond_true ((S.tm rfl).trans (congrArg Value.bool (Ia hd1 hi1))) (wp_skip (Tn (Fs ?_)))))
   obtain ⟨j2,hj2,h⟩:=Eu h
   refine Eh (fun a w'=>∃ x4 : List Iz,∃ x5 : List Kj,∃ x6 : List (ByteArray × ByteArray),∃ v5 : Value,∃ rs2 : List Ub,∃ v6 : Value,j2 x4 x5 x6 = some r ∧ Ng (Wk φ2) x4 rs2 ∧ Sx w [] φ2 [.own v5 175 3 rs2.length (rs2.flatMap Ub.enc),.own v6 173 2 x5.length (x5.flatMap Kj.enc),.map b2 (Fi Value.string Value.string x6) x6.length] [(7,.map (some b1)),(8,.map (some b2)),(9,v6),(10,v5),(23,v2),(24,iV (r1.length : Int)),(25,iV (i1 : Int))] 72 a w') ?_ ?_
   ·refine wp_block (Fs (Fg ?_))
    obtain ⟨b3,o1,hm3,hr4⟩:=Fk (a:=a) (x:=.tmp 23) (y:=.tmp 25) (ty:=0) Oo (Ge Di.enc_ok hs3) (Jc hd1 hi1) rfl (S.tm rfl) (S.tm rfl)
    refine lv S (hr4 _) rfl ?_;clear S;intro a S
    clear hr4
    refine lv S (Fb isAgg102 sizeOf102 (off:=o1) (o:=0) (part:=(Di.enc y1)) rfl rfl (S.tm rfl) (hm3.at S.emb)) rfl fun a S=>Hq S zeroValue102 (cs:=[sV An,iV 0,iV 0,iV 0,sV An,sV An,sV An,iV 0,iV 0,sV An,iV 0]) rfl rfl ?_;clear S;intro a w7 b4 hz4 hk4 S
    refine Ex S (S.tm rfl) (S.tm rfl) (i:=0) (off:=0) rfl sizeOf102 (vs:=(Di.enc y1)) rfl rfl rfl rfl ?_;clear S;intro w8 hk5 S
    refine Dz (Vm S rfl rfl fun a S=>Vf Oh S rfl rfl fun a S=>Vl isAgg9 0 S rfl rfl rfl rfl fun a S=>lv S (FA (kv:=Value.string) (vv:=(fun x=>Value.agg (Di.enc x).toArray)) (m:=(Ic Ae Al Av)) (key:=y1.Who) (z:=(Di.mk An 0 0 0 An An An 0 0 An 0)) (S.emb _ _ (hl2 _ _ hq1)) underlying167 (Lm underlying9) zeroValue102 (S.tm rfl) (S.tm rfl)) rfl fun a S=>Vm S rfl rfl fun a S=>Vq S Fu rfl rfl rfl fun a S=>Vq S Fu rfl rfl rfl ?_);clear S;intro a S
    refine Hq S zeroValue102 (cs:=[sV An,iV 0,iV 0,iV 0,sV An,sV An,sV An,iV 0,iV 0,sV An,iV 0]) rfl rfl ?_;clear S;intro a w9 b5 hz5 hk6 S
    refine Ex S (S.tm rfl) (S.tm rfl) (i:=0) (off:=0) rfl sizeOf102 (vs:=(Di.enc (Ec (Ic Ae Al Av) y1.Who (Di.mk An 0 0 0 An An An 0 0 An 0)))) rfl rfl rfl rfl ?_;clear S;intro w10 hk7 S
    refine Va S rfl rfl fun a S=>Ld ?_
    replace S:=(S.nl [.blk b5 (Di.enc (Ec (Ic Ae Al Av) y1.Who (Di.mk An 0 0 0 An An An 0 0 An 0))) 102,.blk b4 (Di.enc y1) 102,.own v3 175 3 rs1.length (rs1.flatMap Ub.enc),.own v4 173 2 x2.length (x2.flatMap Kj.enc),.map b2 (Fi Value.string Value.string x3) x3.length] [true,true,true,true,true] rfl).k10 7 8 9 10 12 13 14 23 24 25 rfl
    refine Tn (Fs (Fr (Vm S rfl rfl fun a S=>Vu S Ih rfl rfl fun a S=>Dl (Fc h (S.tm rfl) (fun hb1 h=>?_) (fun hb1 h=>?_)))))
    ·exact wp_exit (Ed (Gn (Tn (⟨x1,x2,x3,v3,rs1,v4,h,hr2,S.nf [false,false,true,true,true] rfl (subR rfl)⟩))))
    ·refine wp_skip (Tn (Fr (Vm S rfl rfl fun a S=>Vf Oh S rfl rfl fun a S=>Vl isAgg9 1 S rfl rfl rfl rfl fun a S=>Vf Si S rfl rfl fun a S=>Vl isAgg9 1 S rfl rfl rfl rfl fun a S=>Nm (kv:=Value.string) (vv:=Value.string) (m:=x3) (key:=y1.Who) (val:=y1.Club) S (i:=4) rfl underlying124 (Lm underlying9) (S.tm rfl) (S.tm rfl) (S.tm rfl) ?_)));clear S;intro w11 hk8 S
     refine Ld ?_
     replace S:=(S.nl [.blk b5 (Di.enc (Ec (Ic Ae Al Av) y1.Who (Di.mk An 0 0 0 An An An 0 0 An 0))) 102,.blk b4 (Di.enc y1) 102,.own v3 175 3 rs1.length (rs1.flatMap Ub.enc),.own v4 173 2 x2.length (x2.flatMap Kj.enc),.map b2 (Fi Value.string Value.string (Gk x3 y1.Who y1.Club)) (Gk x3 y1.Who y1.Club).length] [true,true,true,true,true] rfl).k9 7 8 9 10 12 13 23 24 25 rfl
     refine Tn (Fr (Vm S rfl rfl fun a S=>Vf Oh S rfl rfl fun a S=>Vl isAgg9 1 S rfl rfl rfl rfl fun a S=>Vf Ud S rfl rfl fun a S=>Vl isAgg3 0 S rfl rfl rfl rfl fun a S=>lv S (Nl bt_173 (pv:=[(0,sV y1.Who),(1,iV ((Ec (Ic Ae Al Av) y1.Who (Di.mk An 0 0 0 An An An 0 0 An 0)).Time))]) ⟨rfl,(S.tm rfl),rfl,(S.tm rfl),trivial⟩ (cs:=[sV y1.Who,iV ((Ec (Ic Ae Al Av) y1.Who (Di.mk An 0 0 0 An An An 0 0 An 0)).Time)]) (by kernel_rfl)) rfl fun a S=>Ey S underlying169 sizeOf173 zeroValue173 rfl rfl (pv:=[(0,.agg #[sV y1.Who,iV ((Ec (Ic Ae Al Av) y1.Who (Di.mk An 0 0 0 An An An 0 0 An 0)).Time)])]) ⟨rfl,(S.tm rfl),trivial⟩ (cs:=[sV y1.Who,iV ((Ec (Ic Ae Al Av) y1.Who (Di.mk An 0 0 0 An An An 0 0 An 0)).Time)]) (by kernel_rfl) rfl ?_));clear S;intro a w12 b6 hz6 hk9 S
     obtain ⟨hc1,h⟩:=Ig h
     refine Ni HJ Kj.enc_ok S (S.tm rfl) (i:=4) rfl (S.tm rfl) (j:=0) rfl (ys:=[(Kj.mk y1.Who ((Ec (Ic Ae Al Av) y1.Who (Di.mk An 0 0 0 An An An 0 0 An 0)).Time))]) rfl rfl rfl rfl (by have:=Nu hc1;omega) rfl ?_;clear S;intro v7 a w13 hk10 S
     refine Va S rfl rfl fun a S=>Ld ?_
     replace S:=(S.nl [.blk b5 (Di.enc (Ec (Ic Ae Al Av) y1.Who (Di.mk An 0 0 0 An An An 0 0 An 0))) 102,.blk b4 (Di.enc y1) 102,.own v3 175 3 rs1.length (rs1.flatMap Ub.enc),.own v7 173 2 (x2 ++ [(Kj.mk y1.Who ((Ec (Ic Ae Al Av) y1.Who (Di.mk An 0 0 0 An An An 0 0 An 0)).Time))]).length ((x2 ++ [(Kj.mk y1.Who ((Ec (Ic Ae Al Av) y1.Who (Di.mk An 0 0 0 An An An 0 0 An 0)).Time))]).flatMap Kj.enc),.map b2 (Fi Value.string Value.string (Gk x3 y1.Who y1.Club)) (Gk x3 y1.Who y1.Club).length] [false,true,true,true,true,true] rfl).k9 7 8 9 10 12 13 23 24 25 rfl
     refine Tn (Fr (Vf We S rfl rfl fun a S=>Vl isAgg3 0 S rfl rfl rfl rfl fun a S=>Vq S Kb rfl rfl rfl fun a S=>Dl ?_))
     obtain ⟨j3,hj3,h⟩:=Eu h
     refine Eh (fun a w'=>∃ x7 : List Iz,∃ v8 : Value,∃ rs3 : List Ub,j3 x7 = some r ∧ Ng (Wk φ2) x7 rs3 ∧ Sx w [] φ2 [.own v8 175 3 rs3.length (rs3.flatMap Ub.enc),.own v7 173 2 (x2 ++ [(Kj.mk y1.Who ((Ec (Ic Ae Al Av) y1.Who (Di.mk An 0 0 0 An An An 0 0 An 0)).Time))]).length ((x2 ++ [(Kj.mk y1.Who ((Ec (Ic Ae Al Av) y1.Who (Di.mk An 0 0 0 An An An 0 0 An 0)).Time))]).flatMap Kj.enc),.map b2 (Fi Value.string Value.string (Gk x3 y1.Who y1.Club)) (Gk x3 y1.Who y1.Club).length] [(7,.map (some b1)),(8,.map (some b2)),(9,v7),(10,v8),(23,v2),(24,iV (r1.length : Int)),(25,iV (i1 : Int))] 72 a w') ?_ ?_
     ·refine Fc h (S.tm rfl) (fun hb2 h=>?_) (fun hb2 h=>?_)
      ·refine Fg (Vm S rfl rfl fun a S=>Vf Oh S rfl rfl fun a S=>Vl isAgg9 1 S rfl rfl rfl rfl fun a S=>Vf We S rfl rfl fun a S=>Vl isAgg3 0 S rfl rfl rfl rfl fun a S=>lv S (Nl bt_175 (pv:=[(0,sV y1.Who),(1,iV ((Ec (Ic Ae Al Av) y1.Who (Di.mk An 0 0 0 An An An 0 0 An 0)).Fault))]) ⟨rfl,(S.tm rfl),rfl,(S.tm rfl),trivial⟩ (cs:=[sV y1.Who,iV ((Ec (Ic Ae Al Av) y1.Who (Di.mk An 0 0 0 An An An 0 0 An 0)).Fault),.slice none 0 0]) (by kernel_rfl)) rfl fun a S=>Ey S underlying170 sizeOf175 zeroValue175 rfl rfl (pv:=[(0,.agg #[sV y1.Who,iV ((Ec (Ic Ae Al Av) y1.Who (Di.mk An 0 0 0 An An An 0 0 An 0)).Fault),.slice none 0 0])]) ⟨rfl,(S.tm rfl),trivial⟩ (cs:=[sV y1.Who,iV ((Ec (Ic Ae Al Av) y1.Who (Di.mk An 0 0 0 An An An 0 0 An 0)).Fault),.slice none 0 0]) (by kernel_rfl) rfl ?_);clear S;intro a w15 b7 hz7 hk11 S
       obtain ⟨hc2,h⟩:=Ig h
       have hr6 : Ng (Wk φ2) (x1 ++ [(Iz.mk y1.Who ((Ec (Ic Ae Al Av) y1.Who (Di.mk An 0 0 0 An An An 0 0 An 0)).Fault) ([] : List ByteArray))]) (rs1 ++ [(Ub.mk y1.Who ((Ec (Ic Ae Al Av) y1.Who (Di.mk An 0 0 0 An An An 0 0 An 0)).Fault) ⟨.slice none 0 0,rfl⟩)]):=Ng.app hr2 (Ng.cons ⟨⟨.slice none 0 0,rfl⟩,rfl,(NC _ _)⟩ Ng.nil)
       refine Ni FD Ub.enc_ok S (S.tm rfl) (i:=3) rfl (S.tm rfl) (j:=0) rfl (ys:=[(Ub.mk y1.Who ((Ec (Ic Ae Al Av) y1.Who (Di.mk An 0 0 0 An An An 0 0 An 0)).Fault) ⟨.slice none 0 0,rfl⟩)]) rfl rfl rfl rfl (by have:=Nu hc2;have:=Ng.len hr2;simp at this ⊢;omega) rfl ?_;clear S;intro v9 a w16 hk12 S
       refine Va S rfl rfl fun a S=>Ld ?_
       replace S:=(S.nl [.own v9 175 3 (rs1 ++ [(Ub.mk y1.Who ((Ec (Ic Ae Al Av) y1.Who (Di.mk An 0 0 0 An An An 0 0 An 0)).Fault) ⟨.slice none 0 0,rfl⟩)]).length ((rs1 ++ [(Ub.mk y1.Who ((Ec (Ic Ae Al Av) y1.Who (Di.mk An 0 0 0 An An An 0 0 An 0)).Fault) ⟨.slice none 0 0,rfl⟩)]).flatMap Ub.enc),.own v7 173 2 (x2 ++ [(Kj.mk y1.Who ((Ec (Ic Ae Al Av) y1.Who (Di.mk An 0 0 0 An An An 0 0 An 0)).Time))]).length ((x2 ++ [(Kj.mk y1.Who ((Ec (Ic Ae Al Av) y1.Who (Di.mk An 0 0 0 An An An 0 0 An 0)).Time))]).flatMap Kj.enc),.map b2 (Fi Value.string Value.string (Gk x3 y1.Who y1.Club)) (Gk x3 y1.Who y1.Club).length] [false,false,false,true,true,true] rfl).k7 7 8 9 10 23 24 25 rfl
       exact Tn (⟨(x1 ++ [(Iz.mk y1.Who ((Ec (Ic Ae Al Av) y1.Who (Di.mk An 0 0 0 An An An 0 0 An 0)).Fault) ([] : List ByteArray))]),v9,(rs1 ++ [(Ub.mk y1.Who ((Ec (Ic Ae Al Av) y1.Who (Di.mk An 0 0 0 An An An 0 0 An 0)).Fault) ⟨.slice none 0 0,rfl⟩)]),h,hr6,S.nf [true,true,true] rfl (subR rfl)⟩)
      ·exact wp_skip (Tn (⟨x1,v3,rs1,h,hr2,S.nf [false,false,true,true,true] rfl (subR rfl)⟩))
     clear S h;rintro a w14 ⟨x7,v8,rs3,h,hr5,S⟩;rw [hj3] at h;clear hj3 j3
     exact Hp (Tn (⟨x7,(x2 ++ [(Kj.mk y1.Who ((Ec (Ic Ae Al Av) y1.Who (Di.mk An 0 0 0 An An An 0 0 An 0)).Time))]),(Gk x3 y1.Who y1.Club),v8,rs3,v7,h,hr5,S.nf [true,true,true] rfl (subR rfl)⟩))
   clear S h;rintro a w6 ⟨x4,x5,x6,v5,rs2,v6,h,hr3,S⟩;rw [hj2] at h;clear hj2 j2
   exact Tn (Fg (Vq S Gc rfl rfl rfl fun a S=>Vm S rfl rfl fun a S=>Dl (⟨ys1,⟨i1 + 1,x4,x5,x6,v5,rs2,v6,⟨_,(hd1).trans (List.append_cons _ _ _),by simp [hi1]⟩,h,hr3,S.nf [true,true,true] rfl ⟨rfl,rfl,rfl,rfl,rfl,rfl,(congrArg (fun z=>some (Value.int .i64 z)) (Ib hd1 hi1 (Jp (Ge Di.enc_ok hs3)))),trivial⟩⟩,Nat.lt_succ_self _⟩)))
 clear S h;rintro a w5 ⟨x1,x2,x3,v3,rs1,v4,h,hr2,S⟩;rw [hj1] at h;clear hj1 j1
 refine Tn (Fr (Vm S rfl rfl fun a S=>Vm S rfl rfl ?_));clear S;intro a S
 obtain ⟨r2,hr7,h⟩:=Fa h
 have hz8:=S.keep.size
 refine Eb S (fun _=>Dq (vs:=[v4,v3]) ⟨(S.tm rfl),(S.tm rfl),trivial⟩ call103) (LJ _ v4 x2 (CQ Kj.enc_ok S (i:=1) rfl (Hg (e':=.own v4 173 2 x2.length (x2.flatMap Kj.enc)))) v3 x1 rs1 (CQ Ub.enc_ok S (i:=0) rfl (Hg (e':=.own v3 175 3 rs1.length (rs1.flatMap Ub.enc)))) (JR (S.le_new Eg) hr2) _ hr7) rfl ?_;clear S;intro v10 a w17 hv3 hk13 hn3 S
 obtain ⟨u6,rfl,ho3⟩:=hv3
 obtain ⟨φ3,hl3,hm4,S⟩:=S.see' hn3 hz8
 have hs4:=ho3.mono hm4
 refine Vm S rfl rfl fun a S=>Vq S Fu rfl rfl rfl fun a S=>Vq S Fu rfl rfl rfl fun a S=>Va S rfl rfl fun a S=>Va S rfl rfl fun a S=>Dl (Fs (Fg ?_))
 iterate 3 (refine Vm S rfl rfl ?_;clear S;intro a S)
 iterate 3 (refine Va S rfl rfl ?_;clear S;intro a S)
 refine Ld ?_
 replace S:=S.d1.d0.k3 4 5 6 rfl
 refine Tn (wp_ret ?_)
 obtain rfl:=Option.some.inj h
 exact f_ret3 S results59 rfl rfl rfl ⟨_,_,rfl,((hs4).mono S.le_newer),⟨_,rfl,S.map_ret (i:=0) rfl rfl⟩⟩
theorem EL (w : World) (Ah : Dj) (Ak : Dj) (r : Int) (h : Nx Ah Ak = r) :
    Calls prog 61 [.agg (Dj.enc Ah).toArray,.agg (Dj.enc Ak).toArray].toArray w (Ret w [] fun _ v _=>v = iV r):=by
 refine Fe func61 rfl ntmps61 rfl fun a S=>?_
 unfold Nx at h
 replace S:=S.k2 0 1 rfl
 refine Fr (Lw S (S.tm rfl) (cs:=(Dj.enc Ah)) rfl rfl ?_);clear S;intro a w1 b1 hz1 hk1 S
 refine Lw S (S.tm rfl) (cs:=(Dj.enc Ak)) rfl rfl ?_;clear S;intro a w2 b2 hz2 hk2 S
 refine Vk S rfl rfl fun a S=>Dl (Fs (Fr (Vf Qa S rfl rfl fun a S=>Vl isAgg3 1 S rfl rfl rfl rfl fun a S=>Vq S Jk rfl rfl rfl fun a S=>Vf Qa S rfl rfl fun a S=>Vl isAgg3 0 S rfl rfl rfl rfl ?_)));clear S;intro a S
 refine Vq S Jk rfl rfl rfl fun a S=>lv S (SO underlying4 (S.tm rfl) (S.tm rfl)) rfl fun a S=>Dl (Fc h (S.tm rfl) (fun hb1 h=>?_) (fun hb1 h=>?_))
 ·refine Fr (Vf Qa S rfl rfl fun a S=>Vl isAgg3 0 S rfl rfl rfl rfl fun a S=>Vf Qa S rfl rfl fun a S=>Vl isAgg3 1 S rfl rfl rfl rfl fun a S=>Vb S Iw rfl rfl rfl fun a S=>Va S rfl rfl fun a S=>Ld ?_)
  replace S:=S.n0.k1 4 rfl
  refine Tn (wp_ret (Dv ?_))
  subst h
  exact Et S results61 rfl rfl
 ·refine wp_skip (Tn (Fs (Fr (Vf Qa S rfl rfl fun a S=>Vl isAgg3 1 S rfl rfl rfl rfl fun a S=>Vf Qa S rfl rfl fun a S=>Vl isAgg3 0 S rfl rfl rfl rfl fun a S=>Vb S Mn rfl rfl rfl fun a S=>Ld ?_))))
  replace S:=(S.nl [.blk b2 (Dj.enc Ak) 52,.blk b1 (Dj.enc Ah) 52] [true,true] rfl).k3 2 3 21 rfl
  refine Tn (Fc h (S.tm rfl) (fun hb2 h=>?_) (fun hb2 h=>?_))
  ·refine Fr (Vf Qa S rfl rfl fun a S=>Vl isAgg3 1 S rfl rfl rfl rfl fun a S=>Vf Qa S rfl rfl fun a S=>Vl isAgg3 0 S rfl rfl rfl rfl fun a S=>Vb S Iw rfl rfl rfl fun a S=>Va S rfl rfl fun a S=>Dl (wp_ret ?_))
   refine Dv ?_
   subst h
   exact Et S results61 rfl rfl
  ·refine wp_skip (Tn (Fr (Vf AD S rfl rfl fun a S=>Vl isAgg9 1 S rfl rfl rfl rfl fun a S=>Vf AD S rfl rfl fun a S=>Vl isAgg9 0 S rfl rfl rfl rfl fun a S=>Eb S (fun _=>Dq (vs:=[sV Ah.Who,sV Ak.Who]) ⟨(S.tm rfl),(S.tm rfl),trivial⟩ call62) (Nr _ Ah.Who Ak.Who _ rfl) rfl ?_)));clear S;intro v1 a w3 hv1 hk3 hn1 S
   subst hv1
   refine Va S rfl rfl fun a S=>Dl (wp_ret ?_)
   subst h
   exact Et S results61 rfl rfl
set_option maxRecDepth 20000 in
theorem My (w : World) (O : Value) (Af : List Dj) (Bc : (LEnt.own O 52 5 Af.length (Af.flatMap Dj.enc)).holds w) (Ah : Int) (Ak : Int) (r : (List Dj)) (h : Hj Af Ah Ak = some r) :
    Calls prog 133 [O,iV Ah,iV Ak,.func (.func 61) #[] #[]].toArray w (Ret w (O.ownBlock.toList) fun _ v w'=>(LEnt.own O 52 5 r.length (r.flatMap Dj.enc)).holds w' ∧ v = .tuple #[]):=by
 refine Lb (O.ownBlock.toList) [.own O 52 5 Af.length (Af.flatMap Dj.enc)] func133 rfl ntmps133 rfl (fun e he=>by simp only [List.mem_singleton] at he;subst he;exact Bc) (Ix _) (Jw _) fun a S=>?_
 unfold Hj at h
 replace S:=(S.nl [.own O 52 5 Af.length (Af.flatMap Dj.enc)] [true] rfl).k4 0 1 2 3 rfl
 refine Fr (Vm S rfl rfl fun a S=>Vq S Gc rfl rfl rfl fun a S=>Va S rfl rfl fun a S=>Dl ?_)
 replace S:=S.k5 0 1 2 3 8 rfl
 obtain ⟨j1,hj1,h⟩:=Eu h
 refine Eh (fun a w'=>∃ x1 : List Dj,j1 x1 = some r ∧ Sx w (O.ownBlock.toList) nov [.own O 52 5 x1.length (x1.flatMap Dj.enc)] [] 53 a w') ?_ ?_
 ·refine wp_block (Gr (fun (m1 : Nat) a w'=>∃ x1 : List Dj,∃ x2 : Int,Fh Ak Ah j1 m1 x1 x2 = some r ∧ Sx w (O.ownBlock.toList) nov [.own O 52 5 x1.length (x1.flatMap Dj.enc)] [(0,O),(1,iV Ah),(2,iV Ak),(3,.func (.func 61) #[] #[]),(8,iV x2)] 53 a w') id ((Ak - (W (Ah + 1))).toNat + 2) ⟨Af,W (Ah + 1),h,S.nf [true] rfl (subR rfl)⟩ ?_)
  clear S h;rintro m1 a w1 ⟨x1,x2,h,S⟩
  cases m1 with
  | zero=>rw [Fh.eq_1] at h;cases h
  | succ m1 =>
   rw [Fh.eq_2] at h
   refine Fs (Fr (Vm S rfl rfl fun a S=>Vm S rfl rfl fun a S=>Vb S Es rfl rfl rfl fun a S=>Dl (Fc h (S.tm rfl) (fun hb1 h=>?_) (fun hb1 h=>?_))))
   ·refine wp_skip (Tn (Fs (wp_block (Fr (Vm S rfl rfl fun a S=>Va S rfl rfl fun a S=>Dl ?_)))))
    replace S:=S.k6 0 1 2 3 8 9 rfl
    obtain ⟨j2,hj2,h⟩:=Eu h
    refine Eh (fun a w'=>∃ x3 : List Dj,j2 x3 = some r ∧ Sx w (O.ownBlock.toList) nov [.own O 52 5 x3.length (x3.flatMap Dj.enc)] [(0,O),(1,iV Ah),(2,iV Ak),(3,.func (.func 61) #[] #[]),(8,iV x2)] 53 a w') ?_ ?_
    ·refine wp_block (Gr (fun (m2 : Nat) a w'=>∃ x3 : List Dj,∃ x4 : Int,El Ah j2 m2 x3 x4 = some r ∧ Sx w (O.ownBlock.toList) nov [.own O 52 5 x3.length (x3.flatMap Dj.enc)] [(0,O),(1,iV Ah),(2,iV Ak),(3,.func (.func 61) #[] #[]),(8,iV x2),(9,iV x4)] 53 a w') id ((x2 - Ah).toNat + 2) ⟨x1,x2,h,S.nf [true] rfl (subR rfl)⟩ ?_)
     clear S h;rintro m2 a w3 ⟨x3,x4,h,S⟩
     cases m2 with
     | zero=>rw [El.eq_1] at h;cases h
     | succ m2 =>
      rw [El.eq_2] at h
      refine Fs (Fs ?_)
      obtain ⟨j3,hj3,h⟩:=Eu h
      refine Eh (fun a w'=>∃ x5 : Bool,j3 x5 = some r ∧ Sx w (O.ownBlock.toList) nov [.own O 52 5 x3.length (x3.flatMap Dj.enc)] [(0,O),(1,iV Ah),(2,iV Ak),(3,.func (.func 61) #[] #[]),(8,iV x2),(9,iV x4),(34,bV x5)] 53 a w') ?_ ?_
      ·rcases Bool.eq_false_or_eq_true (decide (Ah < x4)) with hb2 | hb2
       ·replace h:=Ti h hb2
        obtain ⟨hc1,h⟩:=Ig h
        obtain ⟨hc2,h⟩:=Ig h
        refine Gt [] ([]) Tryz.mixed S rfl (by kernel_rfl) ?_;clear S;intro w7 hk2 hsel S
        refine Ea 0 S hsel rfl rfl rfl (by kernel_rfl) (by kernel_rfl) rfl (fun _ hw=>(Rm (S.tm rfl))) fun a S=>Ea 1 S hsel rfl rfl rfl (by kernel_rfl) (by kernel_rfl) rfl (fun _ hw=>(Rm (S.tm rfl))) fun a S=>Ea 2 S hsel rfl rfl rfl (by kernel_rfl) (by kernel_rfl) rfl (fun _ hw=>(Kb (S.tm rfl) (S.tm rfl))) fun a S=>Ea 3 S hsel rfl rfl rfl (by kernel_rfl) (by kernel_rfl) rfl (fun _ hw=>(Rm (S.tm rfl))) fun a S=>Ef 4 S hsel rfl rfl rfl rfl hb2 rfl rfl (by kernel_rfl) (by kernel_rfl) rfl (fun _ hw=>(Rm (S.tm rfl))) fun a S=>Ef 5 S hsel rfl rfl rfl rfl hb2 rfl rfl (by kernel_rfl) (by kernel_rfl) rfl (fun _ hw=>(Rm (S.tm rfl))) fun a S=>Ef 6 S hsel rfl rfl rfl rfl hb2 rfl rfl (by kernel_rfl) (by kernel_rfl) rfl (fun _ hw=>(Rm (S.tm rfl))) ?_;clear S;intro a S
        obtain ⟨b3,hg3,hr3⟩:=Gh (a:=a) (x:=.tmp 23) (y:=.tmp 24) (ty:=0) Qh Dj.enc_ok S (i:=0) rfl (Dw hc1).1 (Dw hc1).2 (S.tm rfl) (S.tm rfl)
        refine Ef 7 S hsel rfl rfl rfl rfl hb2 rfl rfl (by kernel_rfl) (by kernel_rfl) rfl (fun _ hw=>(hr3 _)) ?_;clear S;intro a S
        clear hr3
        refine Ef 8 S hsel rfl rfl rfl rfl hb2 rfl rfl (by kernel_rfl) (by kernel_rfl) rfl (fun _ hw=>(Fb isAgg52 sizeOf52 (off:=x4.toNat * 5) (o:=0) (part:=(Dj.enc (nth x3 x4))) rfl rfl (S.tm rfl) ((Mg Dj.enc_ok S (i:=0) rfl hg3 (Dw hc1).1 (Hg (e':=.own O 52 5 x3.length (x3.flatMap Dj.enc)))).kept hw))) fun a S=>Ef 9 S hsel rfl rfl rfl rfl hb2 rfl rfl (by kernel_rfl) (by kernel_rfl) rfl (fun _ hw=>(Rm (S.tm rfl))) fun a S=>Ef 10 S hsel rfl rfl rfl rfl hb2 rfl rfl (by kernel_rfl) (by kernel_rfl) rfl (fun _ hw=>(Rm (S.tm rfl))) fun a S=>Ef 11 S hsel rfl rfl rfl rfl hb2 rfl rfl (by kernel_rfl) (by kernel_rfl) rfl (fun _ hw=>(Iw (S.tm rfl) rfl)) ?_;clear S;intro a S
        obtain ⟨b4,hg4,hr4⟩:=Gh (a:=a) (x:=.tmp 27) (y:=.tmp 29) (ty:=0) Qh Dj.enc_ok S (i:=0) rfl (Dw hc2).1 (Dw hc2).2 (S.tm rfl) (S.tm rfl)
        refine Ef 12 S hsel rfl rfl rfl rfl hb2 rfl rfl (by kernel_rfl) (by kernel_rfl) rfl (fun _ hw=>(hr4 _)) ?_;clear S;intro a S
        clear hr4
        refine Ef 13 S hsel rfl rfl rfl rfl hb2 rfl rfl (by kernel_rfl) (by kernel_rfl) rfl (fun _ hw=>(Fb isAgg52 sizeOf52 (off:=((W (x4 - 1)).toNat) * 5) (o:=0) (part:=(Dj.enc (nth x3 (W (x4 - 1))))) rfl rfl (S.tm rfl) ((Mg Dj.enc_ok S (i:=0) rfl hg4 (Dw hc2).1 (Hg (e':=.own O 52 5 x3.length (x3.flatMap Dj.enc)))).kept hw))) fun a S=>Hb 14 (by kernel_rfl) rfl (Dy S rfl rfl rfl hb2 (Eb S (fun _=>Rf (cap:=[]) (S.tm rfl) (vs:=[.agg (Dj.enc (nth x3 x4)).toArray,.agg (Dj.enc (nth x3 (W (x4 - 1)))).toArray]) ⟨(S.tm rfl),(S.tm rfl),trivial⟩ call61) (EL _ (nth x3 x4) (nth x3 (W (x4 - 1))) _ rfl) rfl ?_));clear S;intro v2 a w8 hv2 hk3 hn2 S
        subst hv2
        refine Ld (Hy hk3 (Li [15,16] hsel (by kernel_rfl) rfl ?_))
        clear hsel
        refine Fj S rfl rfl rfl rfl hb2 (Ha S (Es (S.tm rfl) rfl) rfl fun a S=>Gp S rfl (Pq hb2 (S.tm rfl) (S.tm rfl)) rfl fun a S=>Ij ?_)
        replace S:=S.nk [.own O 52 5 x3.length (x3.flatMap Dj.enc)] [(0,O),(1,iV Ah),(2,iV Ak),(3,.func (.func 61) #[] #[]),(8,iV x2),(9,iV x4),(22,.func (.func 61) #[] #[]),(23,O),(24,iV x4),(25,.pointer (some ⟨b3,x4.toNat * 5,none⟩)),(26,.agg (Dj.enc (nth x3 x4)).toArray),(27,O),(28,iV x4),(29,iV (W (x4 - 1))),(30,.pointer (some ⟨b4,((W (x4 - 1)).toNat) * 5,none⟩)),(31,.agg (Dj.enc (nth x3 (W (x4 - 1)))).toArray),(32,iV (Nx (nth x3 x4) (nth x3 (W (x4 - 1))))),(33,bV (decide ((Nx (nth x3 x4) (nth x3 (W (x4 - 1)))) < 0))),(34,bV (decide ((Nx (nth x3 x4) (nth x3 (W (x4 - 1)))) < 0)))] [true] rfl (subR rfl)
        exact Tn (⟨decide ((Nx (nth x3 x4) (nth x3 (W (x4 - 1)))) < 0),h,S.nf [true] rfl (subR rfl)⟩)
       ·replace h:=Tj h hb2
        refine Gt [] ([]) Tryz.mixed S rfl (by kernel_rfl) ?_;clear S;intro w9 hk4 hsel S
        refine Li [0,1,2,3,4,5,6,7,8,9,10,11,12,13,14,15,16] hsel (by kernel_rfl) rfl ?_
        clear hsel
        refine Gp S rfl (Rm (S.tm rfl)) rfl fun a S=>Gp S rfl (Rm (S.tm rfl)) rfl fun a S=>Gp S rfl (Kb (S.tm rfl) (S.tm rfl)) rfl fun a S=>Gp S rfl (Rm (S.tm rfl)) rfl ?_;clear S;intro a S
        iterate 12 (refine Pn S rfl rfl rfl rfl (Kp hb2) rfl ?_ rfl;clear S;intro a S)
        refine Gp S rfl (Ps hb2 (S.tm rfl) rfl) rfl fun a S=>Ij ?_
        replace S:=S.k7 0 1 2 3 8 9 34 rfl
        exact Tn (⟨false,h,S.nf [true] rfl (subR rfl)⟩)
      clear S h;rintro a w5 ⟨x5,h,S⟩;rw [hj3] at h;clear hj3 j3
      refine Tn (Fc h (S.tm rfl) (fun hb3 h=>?_) (fun hb3 h=>?_))
      ·refine wp_skip (Tn (Fs (wp_block ?_)))
       obtain ⟨hc3,h⟩:=Ig h
       obtain ⟨hc4,h⟩:=Ig h
       obtain ⟨hc5,h⟩:=Ig h
       obtain ⟨hc6,h⟩:=Ig h
       refine Gt [15,17] ([]) Tryz.mixed S rfl (by kernel_rfl) ?_;clear S;intro w14 hk9 hsel S
       refine Ew 0 S hsel rfl rfl (by kernel_rfl) (by kernel_rfl) rfl (fun _=>(Rm (S.tm rfl))) fun a S=>Ew 1 S hsel rfl rfl (by kernel_rfl) (by kernel_rfl) rfl (fun _=>(Rm (S.tm rfl))) fun a S=>Ew 2 S hsel rfl rfl (by kernel_rfl) (by kernel_rfl) rfl (fun _=>(Rm (S.tm rfl))) fun a S=>Ew 3 S hsel rfl rfl (by kernel_rfl) (by kernel_rfl) rfl (fun _=>(Rm (S.tm rfl))) fun a S=>Ew 4 S hsel rfl rfl (by kernel_rfl) (by kernel_rfl) rfl (fun _=>(Iw (S.tm rfl) rfl)) fun a S=>Ew 5 S hsel rfl rfl (by kernel_rfl) (by kernel_rfl) rfl (fun _=>(Rm (S.tm rfl))) fun a S=>Ew 6 S hsel rfl rfl (by kernel_rfl) (by kernel_rfl) rfl (fun _=>(Rm (S.tm rfl))) fun a S=>Ew 7 S hsel rfl rfl (by kernel_rfl) (by kernel_rfl) rfl (fun _=>(Iw (S.tm rfl) rfl)) ?_;clear S;intro a S
       obtain ⟨b9,hg9,hr9⟩:=Gh (a:=a) (x:=.tmp 42) (y:=.tmp 44) (ty:=0) Qh Dj.enc_ok S (i:=0) rfl (Dw hc3).1 (Dw hc3).2 (S.tm rfl) (S.tm rfl)
       refine Ew 8 S hsel rfl rfl (by kernel_rfl) (by kernel_rfl) rfl (fun _=>(hr9 _)) ?_;clear S;intro a S
       clear hr9
       refine Ea 9 S hsel rfl (by kernel_rfl) (by kernel_rfl) (by kernel_rfl) (by kernel_rfl) rfl (fun _ hw=>(Fb isAgg52 sizeOf52 (off:=((W (x4 - 1)).toNat) * 5) (o:=0) (part:=(Dj.enc (nth x3 (W (x4 - 1))))) rfl rfl (S.tm rfl) ((Mg Dj.enc_ok S (i:=0) rfl hg9 (Dw hc3).1 (Hg (e':=.own O 52 5 x3.length (x3.flatMap Dj.enc)))).kept hw))) fun a S=>Ew 10 S hsel rfl rfl (by kernel_rfl) (by kernel_rfl) rfl (fun _=>(Rm (S.tm rfl))) fun a S=>Ew 11 S hsel rfl rfl (by kernel_rfl) (by kernel_rfl) rfl (fun _=>(Rm (S.tm rfl))) ?_;clear S;intro a S
       obtain ⟨b10,hg10,hr10⟩:=Gh (a:=a) (x:=.tmp 47) (y:=.tmp 48) (ty:=0) Qh Dj.enc_ok S (i:=0) rfl (Dw hc4).1 (Dw hc4).2 (S.tm rfl) (S.tm rfl)
       refine Ew 12 S hsel rfl rfl (by kernel_rfl) (by kernel_rfl) rfl (fun _=>(hr10 _)) ?_;clear S;intro a S
       clear hr10
       refine Ea 13 S hsel rfl (by kernel_rfl) (by kernel_rfl) (by kernel_rfl) (by kernel_rfl) rfl (fun _ hw=>(Fb isAgg52 sizeOf52 (off:=x4.toNat * 5) (o:=0) (part:=(Dj.enc (nth x3 x4))) rfl rfl (S.tm rfl) ((Mg Dj.enc_ok S (i:=0) rfl hg10 (Dw hc4).1 (Hg (e':=.own O 52 5 x3.length (x3.flatMap Dj.enc)))).kept hw))) ?_;clear S;intro a S
       obtain ⟨b11,hg11,hr11⟩:=Gh (a:=a) (x:=.tmp 37) (y:=.tmp 38) (ty:=0) Qh Dj.enc_ok S (i:=0) rfl (Dw hc5).1 (Dw hc5).2 (S.tm rfl) (S.tm rfl)
       refine Ew 14 S hsel rfl rfl (by kernel_rfl) (by kernel_rfl) rfl (fun _=>(hr11 _)) ?_;clear S;intro a S
       clear hr11
       refine Vg 15 (O.ownBlock.toList) rfl (by kernel_rfl) rfl (Ob (c:=0) (j:=x4.toNat) (nth x3 (W (x4 - 1))) Dj.enc_ok S (S.tm rfl) (S.tm rfl) (i:=0) rfl hg11 (Dw hc5).1 sizeOf52 (vs:=[sV ((nth x3 (W (x4 - 1))).Race),sV ((nth x3 (W (x4 - 1))).Who),sV ((nth x3 (W (x4 - 1))).Club),iV ((nth x3 (W (x4 - 1))).Rank),bV ((nth x3 (W (x4 - 1))).Relay)]) rfl rfl rfl rfl rfl ?_);clear S;intro w16 hk11 S
       refine Ld (Vh ?_)
       obtain ⟨b12,hg12,hr12⟩:=Gh (a:=a) (x:=.tmp 39) (y:=.tmp 41) (ty:=0) Qh Dj.enc_ok S (i:=0) rfl (Dw hc6).1 (Dw hc6).2 (S.tm rfl) (S.tm rfl)
       refine Ea 16 S hsel rfl rfl rfl (by kernel_rfl) (by kernel_rfl) rfl (fun _ hw=>(hr12 _)) ?_;clear S;intro a S
       clear hr12
       refine Hb 17 (by kernel_rfl) rfl (Ob (c:=0) (j:=(W (x4 - 1)).toNat) (nth x3 x4) Dj.enc_ok S (S.tm rfl) (S.tm rfl) (i:=0) rfl hg12 (Dw hc6).1 sizeOf52 (vs:=[sV ((nth x3 x4).Race),sV ((nth x3 x4).Who),sV ((nth x3 x4).Club),iV ((nth x3 x4).Rank),bV ((nth x3 x4).Relay)]) rfl rfl rfl rfl rfl ?_);clear S;intro w18 hk13 S
       refine Ld (Hy hk13 (Vt (by kernel_rfl) ?_))
       clear hsel
       replace S:=(S.nl [.own O 52 5 ((x3.set x4.toNat (nth x3 (W (x4 - 1)))).set ((W (x4 - 1)).toNat) (nth x3 x4)).length (((x3.set x4.toNat (nth x3 (W (x4 - 1)))).set ((W (x4 - 1)).toNat) (nth x3 x4)).flatMap Dj.enc)] [true] rfl).k6 0 1 2 3 8 9 rfl
       exact Hp (Tn (Fg (Vm S rfl rfl fun a S=>Vq S Iw rfl rfl rfl fun a S=>Va S rfl rfl fun a S=>Dl (⟨m2,⟨((x3.set x4.toNat (nth x3 (W (x4 - 1)))).set ((W (x4 - 1)).toNat) (nth x3 x4)),W (x4 - 1),h,S.nf [true] rfl ⟨rfl,rfl,rfl,rfl,rfl,rfl,trivial⟩⟩,Nat.lt_succ_self _⟩))))
      ·exact wp_exit (Ed (Ed (Gn (Tn (⟨x3,h,S.nf [true] rfl (subR rfl)⟩)))))
    clear S h;rintro a w4 ⟨x3,h,S⟩;rw [hj2] at h;clear hj2 j2
    exact Hp (Tn (Fg (Vm S rfl rfl fun a S=>Vq S Gc rfl rfl rfl fun a S=>Va S rfl rfl fun a S=>Dl (⟨m1,⟨x3,W (x2 + 1),h,S.nf [true] rfl ⟨rfl,rfl,rfl,rfl,rfl,trivial⟩⟩,Nat.lt_succ_self _⟩))))
   ·exact wp_exit (Ed (Ed (Gn (Tn (⟨x1,h,S.nf [true] rfl trivial⟩)))))
 clear S h;rintro a w2 ⟨x1,h,S⟩;rw [hj1] at h;clear hj1 j1
 obtain rfl:=Option.some.inj h
 exact Rp S results133 ⟨(S.holds _ (List.mem_of_getElem? (i:=0) rfl)),rfl⟩
theorem Sn (w : World) (O : Value) (Af : List Dj) (Bc : (LEnt.own O 52 5 Af.length (Af.flatMap Dj.enc)).holds w) (Bb : Int) (r : (List Dj)) (h : Ke Af Bb = some r) :
    Calls prog 104 [O,iV Bb,.func (.func 61) #[] #[]].toArray w (Ret w (O.ownBlock.toList) fun _ v w'=>(LEnt.own O 52 5 r.length (r.flatMap Dj.enc)).holds w' ∧ v = .tuple #[]):=by
 refine Lb (O.ownBlock.toList) [.own O 52 5 Af.length (Af.flatMap Dj.enc)] func104 rfl ntmps104 rfl (fun e he=>by simp only [List.mem_singleton] at he;subst he;exact Bc) (Ix _) (Jw _) fun a S=>?_
 unfold Ke at h
 replace S:=(S.nl [.own O 52 5 Af.length (Af.flatMap Dj.enc)] [true] rfl).k3 0 1 2 rfl
 refine Fr (Vk S rfl rfl fun a S=>Dz (Vm S rfl rfl fun a S=>Vk S rfl rfl fun a S=>Va S rfl rfl fun a S=>Ld ?_))
 refine Tn (Fs ?_)
 replace S:=S.k6 0 1 2 6 7 8 rfl
 obtain ⟨j1,hj1,h⟩:=Eu h
 refine Eh (fun a w'=>∃ x1 : List Dj,∃ x2 : Int,j1 x1 x2 = some r ∧ Sx w (O.ownBlock.toList) nov [.own O 52 5 x1.length (x1.flatMap Dj.enc)] [(0,O),(1,iV Bb),(2,.func (.func 61) #[] #[]),(6,iV 20),(7,iV x2)] 63 a w') ?_ ?_
 ·refine wp_block (Gr (fun (m1 : Nat) a w'=>∃ x1 : List Dj,∃ x2 : Int,∃ x3 : Int,Fz Bb j1 m1 x1 x2 x3 = some r ∧ Sx w (O.ownBlock.toList) nov [.own O 52 5 x1.length (x1.flatMap Dj.enc)] [(0,O),(1,iV Bb),(2,.func (.func 61) #[] #[]),(6,iV 20),(7,iV x2),(8,iV x3)] 63 a w') id ((Bb - 20).toNat + 2) ⟨Af,0,20,h,S.nf [true] rfl (subR rfl)⟩ ?_)
  clear S h;rintro m1 a w1 ⟨x1,x2,x3,h,S⟩
  cases m1 with
  | zero=>rw [Fz.eq_1] at h;cases h
  | succ m1 =>
   rw [Fz.eq_2] at h
   refine Fs (Fr (Vm S rfl rfl fun a S=>Vm S rfl rfl fun a S=>Vb S Uj rfl rfl rfl fun a S=>Dl (Fc h (S.tm rfl) (fun hb1 h=>?_) (fun hb1 h=>?_))))
   ·refine wp_skip (Tn (wp_block (Fs (Fg ?_))))
    iterate 4 (refine Vm S rfl rfl ?_;clear S;intro a S)
    obtain ⟨r1,hr1,h⟩:=Fa h
    refine Mj 0 S rfl (fun _=>.own O 52 5 r1.length (r1.flatMap Dj.enc)) (fun _=>Dq (vs:=[O,iV x2,iV x3,.func (.func 61) #[] #[]]) ⟨(S.tm rfl),(S.tm rfl),(S.tm rfl),(S.tm rfl),trivial⟩ call133) (My _ O x1 (S.holds _ (List.mem_of_getElem? (i:=0) rfl)) x2 x3 _ hr1) rfl (fun _ _ _ h=>⟨h.1,fun _ hc=>hc⟩) ?_;clear S;intro v1 a w3 hv1 hk1 hn1 S
    replace hv1:=hv1.2
    subst hv1
    refine Dz (Vm S rfl rfl fun a S=>Va S rfl rfl fun a S=>Ld ?_)
    replace S:=(S.nl [.own O 52 5 r1.length (r1.flatMap Dj.enc)] [true] rfl).k6 0 1 2 6 7 8 rfl
    exact Tn (Fg (Vm S rfl rfl fun a S=>Vm S rfl rfl fun a S=>Vb S Gc rfl rfl rfl fun a S=>Va S rfl rfl fun a S=>Ld (Hp (Tn (⟨m1,⟨r1,x3,W (x3 + 20),h,S.nf [true] rfl ⟨rfl,rfl,rfl,rfl,rfl,rfl,trivial⟩⟩,Nat.lt_succ_self _⟩)))))
   ·exact wp_exit (Ed (Ed (Gn (Tn (⟨x1,x2,h,S.nf [true] rfl (subR rfl)⟩)))))
 clear S h;rintro a w2 ⟨x1,x2,h,S⟩;rw [hj1] at h;clear hj1 j1
 refine Tn (Fs (Fg ?_))
 iterate 4 (refine Vm S rfl rfl ?_;clear S;intro a S)
 obtain ⟨r2,hr2,h⟩:=Fa h
 refine Mj 0 S rfl (fun _=>.own O 52 5 r2.length (r2.flatMap Dj.enc)) (fun _=>Dq (vs:=[O,iV x2,iV Bb,.func (.func 61) #[] #[]]) ⟨(S.tm rfl),(S.tm rfl),(S.tm rfl),(S.tm rfl),trivial⟩ call133) (My _ O x1 (S.holds _ (List.mem_of_getElem? (i:=0) rfl)) x2 Bb _ hr2) rfl (fun _ _ _ h=>⟨h.1,fun _ hc=>hc⟩) ?_;clear S;intro v2 a w4 hv2 hk2 hn2 S
 replace hv2:=hv2.2
 subst hv2
 refine Dl ?_
 replace S:=(S.nl [.own O 52 5 r2.length (r2.flatMap Dj.enc)] [true] rfl).k2 1 6 rfl
 obtain ⟨j2,hj2,h⟩:=Eu h
 refine Eh (fun a w'=>j2 = some r ∧ Sx w (O.ownBlock.toList) nov [.own O 52 5 r2.length (r2.flatMap Dj.enc)] [] 63 a w') ?_ ?_
 ·refine wp_block (Gr (fun (m2 : Nat) a w'=>∃ x4 : Int,Ga Bb j2 m2 x4 = some r ∧ Sx w (O.ownBlock.toList) nov [.own O 52 5 r2.length (r2.flatMap Dj.enc)] [(1,iV Bb),(6,iV x4)] 63 a w') id ((Bb - 20).toNat + 2) ⟨20,h,S.nf [true] rfl (subR rfl)⟩ ?_)
  clear S h;rintro m2 a w5 ⟨x4,h,S⟩
  cases m2 with
  | zero=>rw [Ga.eq_1] at h;cases h
  | succ m2 =>
   rw [Ga.eq_2] at h
   refine Fs (Fr (Vm S rfl rfl fun a S=>Vm S rfl rfl fun a S=>Vb S Es rfl rfl rfl fun a S=>Dl (Fc h (S.tm rfl) (fun hb2 h=>?_) (fun hb2 h=>?_))))
   ·refine wp_skip (Tn (wp_block (Fr (Vm S rfl rfl fun a S=>Vu S (Vx rfl) rfl rfl fun a S=>Vk S rfl rfl fun a S=>Va S rfl rfl fun a S=>Dl ?_))))
    refine Fs ?_
    replace S:=S.k4 1 6 7 8 rfl
    obtain ⟨j3,hj3,h⟩:=Eu h
    refine Eh (fun a w'=>∃ x5 : Int,j3 x5 = some r ∧ Sx w (O.ownBlock.toList) nov [.own O 52 5 r2.length (r2.flatMap Dj.enc)] [(1,iV Bb),(6,iV x4),(7,iV x5)] 63 a w') ?_ ?_
    ·refine wp_block (Gr (fun (m3 : Nat) a w'=>∃ x5 : Int,∃ x6 : Int,Hf Bb j3 m3 x5 x6 = some r ∧ Sx w (O.ownBlock.toList) nov [.own O 52 5 r2.length (r2.flatMap Dj.enc)] [(1,iV Bb),(6,iV x4),(7,iV x5),(8,iV x6)] 63 a w') id ((Bb - (W (2 * x4))).toNat + 2) ⟨0,W (2 * x4),h,S.nf [true] rfl (subR rfl)⟩ ?_)
     clear S h;rintro m3 a w7 ⟨x5,x6,h,S⟩
     cases m3 with
     | zero=>rw [Hf.eq_1] at h;cases h
     | succ m3 =>
      rw [Hf.eq_2] at h
      refine Fs (Fr (Vm S rfl rfl fun a S=>Vm S rfl rfl fun a S=>Vb S Uj rfl rfl rfl fun a S=>Dl (Fc h (S.tm rfl) (fun hb3 h=>?_) (fun hb3 h=>?_))))
      ·refine wp_skip (Tn (wp_block (Fs ?_)))
       cases h
      ·exact wp_exit (Ed (Ed (Gn (Tn (⟨x5,h,S.nf [true] rfl (subR rfl)⟩)))))
    clear S h;rintro a w8 ⟨x5,h,S⟩;rw [hj3] at h;clear hj3 j3
    refine Tn (Fs (Fr (Vm S rfl rfl fun a S=>Vm S rfl rfl fun a S=>Vb S Gc rfl rfl rfl fun a S=>Va S rfl rfl fun a S=>Dl (Fs ?_))))
    refine Fg (Vm S rfl rfl fun a S=>Vm S rfl rfl fun a S=>Vb S Es rfl rfl rfl fun a S=>Dl (Fc h (S.tm rfl) (fun hb4 h=>?_) (fun hb4 h=>?_)))
    ·cases h
    ·exact wp_skip (Tn (Fg (Vm S rfl rfl fun a S=>Vq S Vx rfl rfl rfl fun a S=>Va S rfl rfl fun a S=>Ld (Hp (Tn (⟨m2,⟨W (x4 * 2),h,S.nf [true] rfl ⟨rfl,rfl,trivial⟩⟩,Nat.lt_succ_self _⟩))))))
   ·exact wp_exit (Ed (Ed (Gn (Tn (⟨h,S.nf [true] rfl trivial⟩)))))
 clear S h;rintro a w6 ⟨h,S⟩;rw [hj2] at h;clear hj2 j2
 obtain rfl:=Option.some.inj h
 exact Rp S results104 ⟨(S.holds _ (List.mem_of_getElem? (i:=0) rfl)),rfl⟩
theorem Ry (w : World) (Ay : Value) (Ab : List Dj) (Ce : (LEnt.own Ay 52 5 Ab.length (Ab.flatMap Dj.enc)).holds w) (r : (List Dj)) (h : Hh Ab = some r) :
    Calls prog 60 [Ay,.func (.func 61) #[] #[]].toArray w (Ret w (Ay.ownBlock.toList) fun _ v w'=>(LEnt.own Ay 52 5 r.length (r.flatMap Dj.enc)).holds w' ∧ v = .tuple #[]):=by
 refine Lb (Ay.ownBlock.toList) [.own Ay 52 5 Ab.length (Ab.flatMap Dj.enc)] func60 rfl ntmps60 rfl (fun e he=>by simp only [List.mem_singleton] at he;subst he;exact Ce) (Ix _) (Jw _) fun a S=>?_
 unfold Hh at h
 replace S:=(S.nl [.own Ay 52 5 Ab.length (Ab.flatMap Dj.enc)] [true] rfl).k2 0 1 rfl
 refine Fg (Vm S rfl rfl fun a S=>Vm S rfl rfl fun a S=>lv S (Gi Qh (S.tm rfl) (Pb (S.own_at (i:=0) rfl))) rfl fun a S=>Vm S rfl rfl ?_);clear S;intro a S
 obtain ⟨r1,hr1,h⟩:=Fa h
 refine Mj 0 S rfl (fun _=>.own Ay 52 5 r1.length (r1.flatMap Dj.enc)) (fun _=>Dq (vs:=[Ay,iV (Ab.length : Int),.func (.func 61) #[] #[]]) ⟨(S.tm rfl),(S.tm rfl),(S.tm rfl),trivial⟩ call104) (Sn _ Ay Ab (S.holds _ (List.mem_of_getElem? (i:=0) rfl)) (Ab.length : Int) _ hr1) rfl (fun _ _ _ h=>⟨h.1,fun _ hc=>hc⟩) ?_;clear S;intro v1 a w1 hv1 hk1 hn1 S
 replace hv1:=hv1.2
 subst hv1
 refine Ld ?_
 obtain rfl:=Option.some.inj h
 exact Rp S results60 ⟨(S.holds _ (List.mem_of_getElem? (i:=0) rfl)),rfl⟩
theorem BX (w : World) (Ah : Int) (Ak : Int) (r : Int) (h : Ly Ah Ak = r) :
    Calls prog 138 [iV Ah,iV Ak].toArray w (Ret w [] fun _ v _=>v = iV r):=by
 refine Fe func138 rfl ntmps138 rfl fun a S=>?_
 unfold Ly at h
 replace S:=S.k2 0 1 rfl
 refine Fr (Vk S rfl rfl fun a S=>Dl (Fs (Fr (Vm S rfl rfl fun a S=>Vq S Jk rfl rfl rfl fun a S=>Ld ?_))))
 refine Tn ?_
 obtain ⟨j1,hj1,h⟩:=Eu h
 refine Eh (fun a w'=>∃ x1 : Int,j1 x1 = r ∧ Sx w [] nov [] [(0,iV x1),(1,iV Ak)] 12 a w') ?_ ?_
 ·refine Fc h (S.tm rfl) (fun hb1 h=>?_) (fun hb1 h=>?_)
  ·exact Fg (Vk S rfl rfl fun a S=>Dl (⟨301,h,S.nf [] rfl (subR rfl)⟩))
  ·exact wp_skip (Tn (⟨Ah,h,S.nf [] rfl (subR rfl)⟩))
 clear S h;rintro a w1 ⟨x1,h,S⟩;rw [hj1] at h;clear hj1 j1
 refine Tn (Fs (Fr (Vm S rfl rfl fun a S=>Vq S Jk rfl rfl rfl fun a S=>Dl ?_)))
 obtain ⟨j2,hj2,h⟩:=Eu h
 refine Eh (fun a w'=>∃ x2 : Int,j2 x2 = r ∧ Sx w [] nov [] [(0,iV x1),(1,iV x2)] 12 a w') ?_ ?_
 ·refine Fc h (S.tm rfl) (fun hb2 h=>?_) (fun hb2 h=>?_)
  ·exact Fg (Vk S rfl rfl fun a S=>Dl (⟨301,h,S.nf [] rfl (subR rfl)⟩))
  ·exact wp_skip (Tn (⟨Ak,h,S.nf [] rfl (subR rfl)⟩))
 clear S h;rintro a w2 ⟨x2,h,S⟩;rw [hj2] at h;clear hj2 j2
 refine Tn (Fr (Vm S rfl rfl fun a S=>Vm S rfl rfl fun a S=>Vb S Iw rfl rfl rfl fun a S=>Va S rfl rfl fun a S=>Dl (wp_ret ?_)))
 subst h
 exact Et S results138 rfl rfl
set_option maxRecDepth 20000 in
theorem GI (w : World) (Ah : Dj) (Ak : Dj) (r : Int) (h : Te Ah Ak = r) :
    Calls prog 107 [.agg (Dj.enc Ah).toArray,.agg (Dj.enc Ak).toArray].toArray w (Ret w [] fun _ v _=>v = iV r):=by
 refine Fe func107 rfl ntmps107 rfl fun a S=>?_
 unfold Te at h
 replace S:=S.k2 0 1 rfl
 refine Fr (Lw S (S.tm rfl) (cs:=(Dj.enc Ah)) rfl rfl ?_);clear S;intro a w1 b1 hz1 hk1 S
 refine Lw S (S.tm rfl) (cs:=(Dj.enc Ak)) rfl rfl ?_;clear S;intro a w2 b2 hz2 hk2 S
 refine Vk S rfl rfl fun a S=>Dl (Fs (Gt [] ([]) Tryz.mixed S rfl (by kernel_rfl) ?_));clear S;intro w8 hk8 hsel S
 refine Ea 0 S hsel rfl rfl rfl (by kernel_rfl) (by kernel_rfl) rfl (fun _ hw=>(Gd AC (S.tm rfl))) fun a S=>Ea 1 S hsel rfl rfl rfl (by kernel_rfl) (by kernel_rfl) rfl (fun _ hw=>(Hx isAgg9 (off:=0) (o:=0) (S.tm rfl) ((S.blk_mem (i:=1) (cells:=(Dj.enc Ah)) (b:=b1) (T:=52) rfl (Hg (e':=.blk b1 (Dj.enc Ah) 52))).kept hw) rfl)) fun a S=>Ea 2 S hsel rfl rfl rfl (by kernel_rfl) (by kernel_rfl) rfl (fun _ hw=>(Gd AC (S.tm rfl))) fun a S=>Ea 3 S hsel rfl rfl rfl (by kernel_rfl) (by kernel_rfl) rfl (fun _ hw=>(Hx isAgg9 (off:=0) (o:=0) (S.tm rfl) ((S.blk_mem (i:=0) (cells:=(Dj.enc Ak)) (b:=b2) (T:=52) rfl (Hg (e':=.blk b2 (Dj.enc Ak) 52))).kept hw) rfl)) fun a S=>Ea 5 S hsel rfl rfl rfl (by kernel_rfl) (by kernel_rfl) rfl (fun _ hw=>(Gd Qa (S.tm rfl))) fun a S=>Ea 6 S hsel rfl rfl rfl (by kernel_rfl) (by kernel_rfl) rfl (fun _ hw=>(Hx isAgg3 (off:=0) (o:=3) (S.tm rfl) ((S.blk_mem (i:=1) (cells:=(Dj.enc Ah)) (b:=b1) (T:=52) rfl (Hg (e':=.blk b1 (Dj.enc Ah) 52))).kept hw) rfl)) fun a S=>Ea 7 S hsel rfl rfl rfl (by kernel_rfl) (by kernel_rfl) rfl (fun _ hw=>(Gd Qa (S.tm rfl))) fun a S=>Ea 8 S hsel rfl rfl rfl (by kernel_rfl) (by kernel_rfl) rfl (fun _ hw=>(Hx isAgg3 (off:=0) (o:=3) (S.tm rfl) ((S.blk_mem (i:=0) (cells:=(Dj.enc Ak)) (b:=b2) (T:=52) rfl (Hg (e':=.blk b2 (Dj.enc Ak) 52))).kept hw) rfl)) fun a S=>Ea 10 S hsel rfl rfl rfl (by kernel_rfl) (by kernel_rfl) rfl (fun _ hw=>(Gd AD (S.tm rfl))) fun a S=>Ea 11 S hsel rfl rfl rfl (by kernel_rfl) (by kernel_rfl) rfl (fun _ hw=>(Hx isAgg9 (off:=0) (o:=1) (S.tm rfl) ((S.blk_mem (i:=1) (cells:=(Dj.enc Ah)) (b:=b1) (T:=52) rfl (Hg (e':=.blk b1 (Dj.enc Ah) 52))).kept hw) rfl)) ?_;clear S;intro a S
 refine Ea 12 S hsel rfl rfl rfl (by kernel_rfl) (by kernel_rfl) rfl (fun _ hw=>(Gd AD (S.tm rfl))) fun a S=>Ea 13 S hsel rfl rfl rfl (by kernel_rfl) (by kernel_rfl) rfl (fun _ hw=>(Hx isAgg9 (off:=0) (o:=1) (S.tm rfl) ((S.blk_mem (i:=0) (cells:=(Dj.enc Ak)) (b:=b2) (T:=52) rfl (Hg (e':=.blk b2 (Dj.enc Ak) 52))).kept hw) rfl)) fun a S=>Hb 4 (by kernel_rfl) rfl (Eb S (fun _=>Dq (vs:=[sV Ah.Race,sV Ak.Race]) ⟨(S.tm rfl),(S.tm rfl),trivial⟩ call62) (Nr _ Ah.Race Ak.Race _ rfl) rfl ?_);clear S;intro v5 a w9 hv5 hk9 hn5 S
 subst hv5
 refine Ld (Hy hk9 (Hb 9 (by kernel_rfl) rfl (Eb S (fun _=>Dq (vs:=[iV Ah.Rank,iV Ak.Rank]) ⟨(S.tm rfl),(S.tm rfl),trivial⟩ call138) (BX _ Ah.Rank Ak.Rank _ rfl) rfl ?_)));clear S;intro v6 a w10 hv6 hk10 hn6 S
 subst hv6
 refine Ld (Hy hk10 (Hb 14 (by kernel_rfl) rfl (Eb S (fun _=>Dq (vs:=[sV Ah.Who,sV Ak.Who]) ⟨(S.tm rfl),(S.tm rfl),trivial⟩ call62) (Nr _ Ah.Who Ak.Who _ rfl) rfl ?_)));clear S;intro v7 a w11 hv7 hk11 hn7 S
 subst hv7
 refine Ld (Hy hk11 (Hb 15 (by kernel_rfl) rfl (Ey S underlying22 sizeOf3 zeroValue3 rfl rfl (pv:=[(0,iV (Hl Ah.Race Ak.Race)),(1,iV (Ly Ah.Rank Ak.Rank)),(2,iV (Hl Ah.Who Ak.Who))]) ⟨rfl,(S.tm rfl),rfl,(S.tm rfl),rfl,(S.tm rfl),trivial⟩ (cs:=[iV (Hl Ah.Race Ak.Race),iV (Ly Ah.Rank Ak.Rank),iV (Hl Ah.Who Ak.Who)]) (by kernel_rfl) rfl ?_)));clear S;intro a w12 b4 hz4 hk12 S
 refine Ld (Hy hk12 (Hb 16 (by kernel_rfl) rfl (Eb S (fun _=>Dq (vs:=[.slice (some ⟨b4,0,none⟩) 3 3]) ⟨(S.tm rfl),trivial⟩ call137) (EU _ (.slice (some ⟨b4,0,none⟩) 3 3) [(Hl Ah.Race Ak.Race),(Ly Ah.Rank Ak.Rank),(Hl Ah.Who Ak.Who)] (Lg Jf S (i:=0) rfl rfl rfl rfl ((Hg (e':=.blk b4 [iV (Hl Ah.Race Ak.Race),iV (Ly Ah.Rank Ak.Rank),iV (Hl Ah.Who Ak.Who)] 3)) _ rfl)) _ rfl) rfl ?_)));clear S;intro v8 a w13 hv8 hk13 hn8 S
 subst hv8
 refine Ld (Hy hk13 (Li [17] hsel (by kernel_rfl) rfl ?_))
 clear hsel
 refine Gp S rfl (Ra (S.tm rfl)) rfl fun a S=>Ij ?_
 replace S:=S.n0.k1 4 rfl
 refine Tn (wp_ret ?_)
 subst h
 exact Et S results107 rfl rfl
set_option maxRecDepth 20000 in
theorem CD (w : World) (ψ : View) (hψ : View.le ψ (view w [])) (Ac : Value) (Aj : List Dj) (Ai : Slc ψ 5 Ac (Aj.map Dj.enc)) (r : (List (List Dj))) (h : Tq Aj = some r) :
    Calls prog 110 [Ac].toArray w (Ret w [] fun τ v _=>SlcD (join ψ τ) 1 RS.enc CZ v r):=by
 refine Fe func110 rfl ntmps110 rfl fun a S=>?_
 unfold Tq at h
 replace S:=S.k1 0 rfl
 refine Fr (Vk S rfl rfl fun a S=>Dz (Vk S rfl rfl ?_));clear S;intro a S
 replace S:=S.nil 37 1
 refine Dl (Fs (Fr (Vk S rfl rfl fun a S=>Dl ?_)))
 replace S:=(S.nl [.own (.slice none 0 0) 37 1 ([] : List RS).length (([] : List RS).flatMap RS.enc)] [true] rfl).k3 0 3 4 rfl
 obtain ⟨j1,hj1,h⟩:=Eu h
 refine Eh (fun a w'=>∃ x1 : List (List Dj),∃ v1 : Value,∃ rs1 : List RS,j1 x1 = some r ∧ Ng (CZ (join ψ nov)) x1 rs1 ∧ Sx w [] nov [.own v1 37 1 rs1.length (rs1.flatMap RS.enc)] [(3,v1)] 41 a w') ?_ ?_
 ·refine wp_block (Gr (fun (m1 : Nat) a w'=>∃ x1 : List (List Dj),∃ x2 : Int,∃ v1 : Value,∃ rs1 : List RS,Lz Aj j1 m1 x1 x2 = some r ∧ Ng (CZ (join ψ nov)) x1 rs1 ∧ Sx w [] nov [.own v1 37 1 rs1.length (rs1.flatMap RS.enc)] [(0,Ac),(3,v1),(4,iV x2)] 41 a w') id (((Aj.length : Int) - 0).toNat + 2) ⟨([] : List (List Dj)),0,(.slice none 0 0),([] : List RS),h,.nil,S.nf [true] rfl (subR rfl)⟩ ?_)
  clear S h;rintro m1 a w1 ⟨x1,x2,v1,rs1,h,hr1,S⟩
  cases m1 with
  | zero=>rw [Lz.eq_1] at h;cases h
  | succ m1 =>
   rw [Lz.eq_2] at h
   refine Fs (Fr (Vm S rfl rfl fun a S=>Vm S rfl rfl fun a S=>lv S (Gi Qh (S.tm rfl) (Gf Ai)) rfl fun a S=>Vb S Es rfl rfl rfl fun a S=>Dl (Fc h (S.tm rfl) (fun hb1 h=>?_) (fun hb1 h=>?_))))
   ·refine wp_skip (Tn (wp_block (Fr (Vm S rfl rfl fun a S=>Vq S Gc rfl rfl rfl fun a S=>Va S rfl rfl fun a S=>Dl (Fs ?_)))))
    replace S:=S.k4 0 3 4 5 rfl
    obtain ⟨j2,hj2,h⟩:=Eu h
    refine Eh (fun a w'=>∃ x3 : Int,j2 x3 = some r ∧ Sx w [] nov [.own v1 37 1 rs1.length (rs1.flatMap RS.enc)] [(0,Ac),(3,v1),(4,iV x2),(5,iV x3)] 41 a w') ?_ ?_
    ·refine wp_block (Gr (fun (m2 : Nat) a w'=>∃ x3 : Int,Nt Aj x2 j2 m2 x3 = some r ∧ Sx w [] nov [.own v1 37 1 rs1.length (rs1.flatMap RS.enc)] [(0,Ac),(3,v1),(4,iV x2),(5,iV x3)] 41 a w') id (((Aj.length : Int) - (W (x2 + 1))).toNat + 2) ⟨W (x2 + 1),h,S.nf [true] rfl (subR rfl)⟩ ?_)
     clear S h;rintro m2 a w3 ⟨x3,h,S⟩
     cases m2 with
     | zero=>rw [Nt.eq_1] at h;cases h
     | succ m2 =>
      rw [Nt.eq_2] at h
      refine Fs (Fs (Gt [] ([]) Tryz.mixed S rfl (by kernel_rfl) ?_));clear S;intro w5 hk1 hsel S
      refine Li [0,1,2,3,4,5,6,7,8,9,10,11,12,13,14,15,16] hsel (by kernel_rfl) rfl ?_
      clear hsel
      refine Gp S rfl (Rm (S.tm rfl)) rfl fun a S=>Gp S rfl (Rm (S.tm rfl)) rfl fun a S=>Gp S rfl (Gi Qh (S.tm rfl) (Gf Ai)) rfl fun a S=>Gp S rfl (Es (S.tm rfl) (S.tm rfl)) rfl fun a S=>Gp S rfl (Rm (S.tm rfl)) rfl ?_;clear S;intro a S
      obtain ⟨j3,hj3,h⟩:=Eu h
      refine Ym 12 (fun a w'=>∃ c1,j3 c1 = some r ∧ Keep [] w5 w' ∧ Sx w [] nov [.own v1 37 1 rs1.length (rs1.flatMap RS.enc)] [(0,Ac),(3,v1),(4,iV x2),(5,iV x3),(28,bV c1)] 41 a w') ?_ ?_
      ·rcases Bool.eq_false_or_eq_true (decide (x3 < (Aj.length : Int))) with hb2 | hb2
       ·replace h:=Ti h hb2
        refine Fj S rfl rfl rfl rfl hb2 (Ha S (Rm (S.tm rfl)) rfl fun a S=>Fj S rfl rfl rfl rfl hb2 (Ha S (Rm (S.tm rfl)) rfl fun a S=>Fj S rfl rfl rfl rfl hb2 ?_))
        obtain ⟨hc1,h⟩:=Ig h
        obtain ⟨b1,o1,hm1,hr2⟩:=Fk (a:=a) (x:=.tmp 17) (y:=.tmp 18) (ty:=0) Qh Ai (Dw hc1).1 (Dw hc1).2 (S.tm rfl) (S.tm rfl)
        refine Ha S (hr2 _) rfl ?_;clear S;intro a S
        clear hr2
        refine Fj S rfl rfl rfl rfl hb2 (Ha S (Gd AC (S.tm rfl)) rfl fun a S=>Fj S rfl rfl rfl rfl hb2 (Ha S (Hx isAgg9 (off:=o1) (o:=0) (S.tm rfl) (hm1.at (RD hψ S.emb0)) rfl) rfl fun a S=>Fj S rfl rfl rfl rfl hb2 (Ha S (Rm (S.tm rfl)) rfl fun a S=>Fj S rfl rfl rfl rfl hb2 (Ha S (Rm (S.tm rfl)) rfl fun a S=>Fj S rfl rfl rfl rfl hb2 ?_))))
        obtain ⟨hc2,h⟩:=Ig h
        obtain ⟨b2,o2,hm2,hr3⟩:=Fk (a:=a) (x:=.tmp 22) (y:=.tmp 23) (ty:=0) Qh Ai (Dw hc2).1 (Dw hc2).2 (S.tm rfl) (S.tm rfl)
        refine Ha S (hr3 _) rfl ?_;clear S;intro a S
        clear hr3
        exact Fj S rfl rfl rfl rfl hb2 (Ha S (Gd AC (S.tm rfl)) rfl fun a S=>Fj S rfl rfl rfl rfl hb2 (Ha S (Hx isAgg9 (off:=o2) (o:=0) (S.tm rfl) (hm2.at (RD hψ S.emb0)) rfl) rfl fun a S=>Fj S rfl rfl rfl rfl hb2 (Ha S (Xy (S.tm rfl) (S.tm rfl)) rfl fun a S=>Gp S rfl (Io hb2 (S.tm rfl) (S.tm rfl)) rfl fun a S=>Ij (⟨_,h,Keep.refl _ _,S.nf [true] rfl (subR rfl)⟩))))
       ·replace h:=Tj h hb2
        iterate 11 (refine Pn S rfl rfl rfl rfl (Kp hb2) rfl ?_ rfl;clear S;intro a S)
        exact Gp S rfl (Ip true hb2 (S.tm rfl) rfl) rfl fun a S=>Ij (⟨_,h,Keep.refl _ _,S.nf [true] rfl (subR rfl)⟩)
      clear S h;rintro a w6 ⟨c1,h,hk2,S⟩;rw [hj3] at h;clear hj3 j3
      refine Ij ?_
      replace S:=S.k5 0 3 4 5 28 rfl
      refine Tn (Fc h (S.tm rfl) (fun hb3 h=>?_) (fun hb3 h=>?_))
      ·exact wp_skip (Tn (wp_block (Fg (Vm S rfl rfl fun a S=>Vq S Gc rfl rfl rfl fun a S=>Va S rfl rfl fun a S=>Ld (Hp (Tn (⟨m2,⟨W (x3 + 1),h,S.nf [true] rfl ⟨rfl,rfl,rfl,rfl,trivial⟩⟩,Nat.lt_succ_self _⟩)))))))
      ·exact wp_exit (Ed (Ed (Gn (Tn (⟨x3,h,S.nf [true] rfl (subR rfl)⟩)))))
    clear S h;rintro a w4 ⟨x3,h,S⟩;rw [hj2] at h;clear hj2 j2
    refine Tn (Fs (Fg ?_))
    iterate 5 (refine Vm S rfl rfl ?_;clear S;intro a S)
    obtain ⟨hc3,h⟩:=Ig h
    obtain ⟨v2,hs1,hr4⟩:=WV (y2:=.tmp 35) (a:=a) (x:=.tmp 32) (y:=.tmp 33) (y':=.tmp 34) (ty:=37) Qh Ai (S.tm rfl) (S.tm rfl) (S.tm rfl) (S.tm rfl) hc3
    refine lv S (hr4 _) rfl ?_;clear S;intro a S
    clear hr4
    refine Ey S underlying180 sizeOf37 zeroValue37 rfl rfl (pv:=[(0,v2)]) ⟨rfl,(S.tm rfl),trivial⟩ (cs:=[v2]) (WU hs1) rfl ?_;clear S;intro a w7 b3 hz1 hk3 S
    obtain ⟨hc4,h⟩:=Ig h
    have hr5 : Ng (CZ (join ψ nov)) (x1 ++ [cut Aj x2 x3]) (rs1 ++ [⟨v2,Lp.one (Gf hs1)⟩]):=Ng.app hr1 (Ng.cons (hs1.mono (le_join_left _ _)) Ng.nil)
    refine Ni BS RS.enc_ok S (S.tm rfl) (i:=1) rfl (S.tm rfl) (j:=0) rfl (ys:=[⟨v2,Lp.one (Gf hs1)⟩]) rfl rfl rfl rfl (by have:=Nu hc4;have:=Ng.len hr1;simp at this ⊢;omega) rfl ?_;clear S;intro v3 a w8 hk4 S
    exact Va S rfl rfl fun a S=>Dl (Fg (Vm S rfl rfl fun a S=>Va S rfl rfl fun a S=>Ld (Hp (Tn (⟨m1,⟨(x1 ++ [cut Aj x2 x3]),x3,v3,(rs1 ++ [⟨v2,Lp.one (Gf hs1)⟩]),h,hr5,S.nf [false,true] rfl ⟨rfl,rfl,rfl,trivial⟩⟩,Nat.lt_succ_self _⟩)))))
   ·exact wp_exit (Ed (Ed (Gn (Tn (⟨x1,v1,rs1,h,hr1,S.nf [true] rfl ⟨rfl,trivial⟩⟩)))))
 clear S h;rintro a w2 ⟨x1,v1,rs1,h,hr1,S⟩;rw [hj1] at h;clear hj1 j1
 refine Tn (Fr (Vm S rfl rfl fun a S=>Va S rfl rfl fun a S=>Dl (wp_ret ?_)))
 obtain ⟨φ1,hl1,hs2,S⟩:=S.freezeT (xs:=rs1) (enc:=RS.enc) (i:=0) rfl (fun _ h=>by cases h)
 have hr6:=(JA (JQ hl1) hr1)
 have hs3:=(Ge RS.enc_ok hs2).mono (S.all_right hψ)
 replace S:=S.nk [] [(2,v1),(3,v1),(40,v1)] [] rfl (subR rfl)
 obtain rfl:=Option.some.inj h
 exact Et S results110 rfl ⟨_,(hs3.mono (Zx hψ S.le_newer)),JA (Zx hψ S.le_newer) hr6⟩
set_option maxRecDepth 20000 in
theorem CI (w : World) (Ab : Dj) (By : Nat) (Df : Value) (Bj : List Dj) (Dg : Slc (view w []) 5 Df (Bj.map Dj.enc)) (Bz : (view w []) By = some (.cells [Df].toArray 37 (0,0))) (r : Bool) (h : Tr Ab Bj = some r) :
    Calls prog 140 [.agg (Dj.enc Ab).toArray,.pointer (some ⟨By,0,none⟩)].toArray w (Ret w [] fun _ v _=>v = bV r):=by
 refine Fe func140 rfl ntmps140 rfl fun a S=>?_
 unfold Tr at h
 replace S:=S.k2 0 1 rfl
 refine Fr (Lw S (S.tm rfl) (cs:=(Dj.enc Ab)) rfl rfl ?_);clear S;intro a w1 b1 hz1 hk1 S
 refine Vk S rfl rfl fun a S=>Dl (Fs (Gt [] ([]) Tryz.mixed S rfl (by kernel_rfl) ?_));clear S;intro w2 hk2 hsel S
 refine Li [0,1,2,3,4,5,6,7] hsel (by kernel_rfl) rfl ?_
 clear hsel
 refine Gp S rfl (Gd NT (S.tm rfl)) rfl fun a S=>Gp S rfl (Nf isAgg4 (S.tm rfl) (S.cell (i:=0) rfl rfl)) rfl fun a S=>Gp S rfl (Hx isAgg37 (off:=0) (o:=0) (S.tm rfl) ((Sc Bz).at S.emb0) rfl) rfl ?_;clear S;intro a S
 obtain ⟨hc1,h⟩:=Ig h
 obtain ⟨b2,o1,hm1,hr1⟩:=Fk (a:=a) (x:=.tmp 6) (y:=.const (iV 0)) (ty:=0) Qh Dg (Dw hc1).1 (Dw hc1).2 (S.tm rfl) rfl
 refine Gp S rfl (hr1 _) rfl ?_;clear S;intro a S
 clear hr1
 refine Gp S rfl (Gd NT (S.tm rfl)) rfl fun a S=>Gp S rfl (Hx isAgg4 (off:=o1) (o:=4) (S.tm rfl) (hm1.at S.emb0) rfl) rfl fun a S=>Gp S rfl (SO underlying4 (S.tm rfl) (S.tm rfl)) rfl fun a S=>Gp S rfl (Ra (S.tm rfl)) rfl fun a S=>Ij ?_
 replace S:=S.n0.k1 3 rfl
 refine Tn (wp_ret ?_)
 obtain rfl:=Option.some.inj h
 exact Et S results140 rfl rfl
theorem Sw (w : World) (Ax : Value) (Ba : List Dj) (Bf : Slc (view w []) 5 Ax (Ba.map Dj.enc)) (Az : Nat) (Co : Value) (Aw : List Dj) (Cx : Slc (view w []) 5 Co (Aw.map Dj.enc)) (Bh : (view w []) Az = some (.cells [Co].toArray 37 (0,0))) (r : Int) (h : Kq Ba Aw = some r) :
    Calls prog 169 [Ax,.func (.func 140) #[] #[.pointer (some ⟨Az,0,none⟩)]].toArray w (Ret w [] fun _ v _=>v = iV r):=by
 refine Fe func169 rfl ntmps169 rfl fun a S=>?_
 unfold Kq at h
 replace S:=S.k2 0 1 rfl
 refine Fr (Vk S rfl rfl fun a S=>Dl (Fs (Fr (Vm S rfl rfl fun a S=>lv S (Gi Qh (S.tm rfl) (Gf Bf)) rfl fun a S=>lv S (Rm rfl) rfl ?_))));clear S;intro a S
 refine Dl ?_
 replace S:=S.k4 0 1 7 8 rfl
 obtain ⟨j1,hj1,h⟩:=Eu h
 refine Eh (fun a w'=>j1 = some r ∧ Sx w [] nov [] [] 19 a w') ?_ ?_
 ·refine wp_block (Gr (fun (ys1 : List Dj) a w'=>∃ i1 : Nat,(∃ dn,Ba = dn ++ ys1 ∧ dn.length = i1) ∧ Fv Aw j1 ys1 i1 = some r ∧ Sx w [] nov [] [(0,Ax),(1,.func (.func 140) #[] #[.pointer (some ⟨Az,0,none⟩)]),(7,iV (Ba.length : Int)),(8,iV (i1 : Int))] 19 a w') List.length Ba ⟨0,⟨[],rfl,rfl⟩,h,S.nf [] rfl (subR rfl)⟩ ?_)
  clear S h;rintro ys1 a w1 ⟨i1,⟨dn,hd1,hi1⟩,h,S⟩
  cases ys1 with
  | nil =>
   rw [Fv.eq_1] at h
   refine Fr (Vb S Es rfl rfl rfl fun a S=>Ld ?_)
   replace S:=S.k5 0 1 7 8 9 rfl
   exact Tn (Fs (wp_cond_false ((S.tm rfl).trans (congrArg Value.bool (Jd hd1 hi1))) (wp_exit (Ed (Ed (Gn (Tn (⟨h,S.nf [] rfl trivial⟩))))))))
  | cons y1 ys1 =>
   rw [Fv.eq_2] at h
   refine Fr (Vb S Es rfl rfl rfl fun a S=>Ld ?_)
   replace S:=S.k5 0 1 7 8 9 rfl
   refine Tn (Fs (wp_cond_true ((S.tm rfl).trans (congrArg Value.bool (Ia hd1 hi1))) (wp_skip (Tn (Fs (wp_block (Fr (Vm S rfl rfl fun a S=>Va S rfl rfl ?_))))))));clear S;intro a S
   refine Dl (Fs (Fg ?_))
   iterate 3 (refine Vm S rfl rfl ?_;clear S;intro a S)
   obtain ⟨b1,o1,hm1,hr1⟩:=Fk (a:=a) (x:=.tmp 12) (y:=.tmp 13) (ty:=0) Qh Bf (Jc hd1 hi1) rfl (S.tm rfl) (S.tm rfl)
   refine lv S (hr1 _) rfl ?_;clear S;intro a S
   clear hr1
   refine lv S (Fb isAgg52 sizeOf52 (off:=o1) (o:=0) (part:=(Dj.enc y1)) rfl rfl (S.tm rfl) (hm1.at S.emb0)) rfl ?_;clear S;intro a S
   obtain ⟨r1,hr2,h⟩:=Fa h
   refine Eb S (fun _=>Rf (cap:=[.pointer (some ⟨Az,0,none⟩)]) (S.tm rfl) (vs:=[.agg (Dj.enc y1).toArray]) ⟨(S.tm rfl),trivial⟩ call140) (CI _ y1 Az Co Aw (Cx.mono (S.le_arg Eg)) ((S.le_arg Eg) _ _ Bh) _ hr2) rfl ?_;clear S;intro v1 a w3 hv1 hk1 hn1 S
   subst hv1
   refine Dl (Fc h (S.tm rfl) (fun hb1 h=>?_) (fun hb1 h=>?_))
   ·refine Fr (Vm S rfl rfl fun a S=>Va S rfl rfl fun a S=>Ld ?_)
    replace S:=S.k1 4 rfl
    refine Tn (wp_ret (Gq (Dv (Dv (Gq (Dv (Dv ?_)))))))
    obtain rfl:=Option.some.inj h
    exact Et S results169 rfl rfl
   ·exact wp_skip (Hp (Tn (Fg (Vq S Gc rfl rfl rfl fun a S=>Vm S rfl rfl fun a S=>Dl (⟨ys1,⟨i1 + 1,⟨_,(hd1).trans (List.append_cons _ _ _),by simp [hi1]⟩,h,S.nf [] rfl ⟨rfl,rfl,rfl,(congrArg (fun z=>some (Value.int .i64 z)) (Ib hd1 hi1 (Jp Bf))),trivial⟩⟩,Nat.lt_succ_self _⟩)))))
 clear S h;rintro a w2 ⟨h,S⟩;rw [hj1] at h;clear hj1 j1
 refine Tn (Fr (Vk S rfl rfl fun a S=>Dl (wp_ret ?_)))
 obtain rfl:=Option.some.inj h
 exact Et S results169 rfl rfl
theorem Rz (w : World) (Ax : Value) (Ba : List Dj) (Bf : Slc (view w []) 5 Ax (Ba.map Dj.enc)) (Az : Nat) (Co : Value) (Aw : List Dj) (Cx : Slc (view w []) 5 Co (Aw.map Dj.enc)) (Bh : (view w []) Az = some (.cells [Co].toArray 37 (0,0))) (r : Bool) (h : Ka Ba Aw = some r) :
    Calls prog 139 [Ax,.func (.func 140) #[] #[.pointer (some ⟨Az,0,none⟩)]].toArray w (Ret w [] fun _ v _=>v = bV r):=by
 refine Fe func139 rfl ntmps139 rfl fun a S=>?_
 unfold Ka at h
 replace S:=S.k2 0 1 rfl
 refine Fr (Vk S rfl rfl fun a S=>Dz (Vm S rfl rfl fun a S=>Vm S rfl rfl ?_));clear S;intro a S
 obtain ⟨r1,hr1,h⟩:=Fa h
 refine Eb S (fun _=>Dq (vs:=[Ax,.func (.func 140) #[] #[.pointer (some ⟨Az,0,none⟩)]]) ⟨(S.tm rfl),(S.tm rfl),trivial⟩ call169) (Sw _ Ax Ba (Bf.mono (S.le_arg Eg)) Az Co Aw (Cx.mono (S.le_arg Eg)) ((S.le_arg Eg) _ _ Bh) _ hr1) rfl ?_;clear S;intro v1 a w1 hv1 hk1 hn1 S
 subst hv1
 refine Vq S Rl rfl rfl rfl fun a S=>Va S rfl rfl fun a S=>Dl (wp_ret ?_)
 obtain rfl:=Option.some.inj h
 exact Et S results139 rfl rfl
set_option maxRecDepth 20000 in
theorem FL (w : World) (Ac : Value) (Aj : List Dj) (Ai : Slc (view w []) 5 Ac (Aj.map Dj.enc)) (r : Int) (h : Sb Aj = some r) :
    Calls prog 108 [Ac].toArray w (Ret w [] fun _ v _=>v = iV r):=by
 refine Fe func108 rfl ntmps108 rfl fun a S=>?_
 unfold Sb at h
 replace S:=S.k1 0 rfl
 refine Fr (Vk S rfl rfl fun a S=>Dz (Rg (κ:=Fo) (ν:=Bool) S rfl (fun x=>Value.agg (Fo.enc x).toArray) Value.bool ?_));clear S;intro a w1 b1 hz1 hk1 S
 refine Va S rfl rfl fun a S=>Dl (Fs (Fr (Vm S rfl rfl fun a S=>lv S (Gi Qh (S.tm rfl) (Gf Ai)) rfl fun a S=>lv S (Rm rfl) rfl fun a S=>Dl ?_)))
 replace S:=(S.nl [.map b1 (Fi (fun x=>Value.agg (Fo.enc x).toArray) Value.bool ([] : List (Fo × Bool))) ([] : List (Fo × Bool)).length] [true] rfl).k5 0 3 17 18 19 rfl
 obtain ⟨j1,hj1,h⟩:=Eu h
 refine Eh (fun a w'=>∃ x1 : List (Fo × Bool),j1 x1 = some r ∧ Sx w [] nov [.map b1 (Fi (fun x=>Value.agg (Fo.enc x).toArray) Value.bool x1) x1.length] [(0,Ac)] 122 a w') ?_ ?_
 ·refine wp_block (Gr (fun (ys1 : List Dj) a w'=>∃ i1 : Nat,∃ x1 : List (Fo × Bool),(∃ dn,Aj = dn ++ ys1 ∧ dn.length = i1) ∧ Lt j1 ys1 i1 x1 = some r ∧ Sx w [] nov [.map b1 (Fi (fun x=>Value.agg (Fo.enc x).toArray) Value.bool x1) x1.length] [(0,Ac),(3,.map (some b1)),(17,Ac),(18,iV (Aj.length : Int)),(19,iV (i1 : Int))] 122 a w') List.length Aj ⟨0,([] : List (Fo × Bool)),⟨[],rfl,rfl⟩,h,S.nf [true] rfl (subR rfl)⟩ ?_)
  clear S h;rintro ys1 a w2 ⟨i1,x1,⟨dn,hd1,hi1⟩,h,S⟩
  cases ys1 with
  | nil =>
   rw [Lt.eq_1] at h
   refine Fr (Vb S Es rfl rfl rfl fun a S=>Ld ?_)
   replace S:=S.k6 0 3 17 18 19 20 rfl
   exact Tn (Fs (wp_cond_false ((S.tm rfl).trans (congrArg Value.bool (Jd hd1 hi1))) (wp_exit (Ed (Ed (Gn (Tn (⟨x1,h,S.nf [true] rfl ⟨rfl,trivial⟩⟩))))))))
  | cons y1 ys1 =>
   rw [Lt.eq_2] at h
   refine Fr (Vb S Es rfl rfl rfl fun a S=>Ld ?_)
   replace S:=S.k6 0 3 17 18 19 20 rfl
   refine Tn (Fs (wp_cond_true ((S.tm rfl).trans (congrArg Value.bool (Ia hd1 hi1))) (wp_skip (Tn (Fs (wp_block (Fs (Fg ?_))))))))
   obtain ⟨b2,o1,hm1,hr1⟩:=Fk (a:=a) (x:=.tmp 17) (y:=.tmp 19) (ty:=0) Qh Ai (Jc hd1 hi1) rfl (S.tm rfl) (S.tm rfl)
   refine lv S (hr1 _) rfl ?_;clear S;intro a S
   clear hr1
   refine lv S (Fb isAgg52 sizeOf52 (off:=o1) (o:=0) (part:=(Dj.enc y1)) rfl rfl (S.tm rfl) (hm1.at S.emb0)) rfl fun a S=>Hq S zeroValue52 (cs:=[sV An,sV An,sV An,iV 0,bV false]) rfl rfl ?_;clear S;intro a w4 b3 hz2 hk2 S
   refine Ex S (S.tm rfl) (S.tm rfl) (i:=0) (off:=0) rfl sizeOf52 (vs:=(Dj.enc y1)) rfl rfl rfl rfl ?_;clear S;intro w5 hk3 S
   refine Dl (Fs (Fr (Vm S rfl rfl fun a S=>Vf AC S rfl rfl fun a S=>Vl isAgg9 0 S rfl rfl rfl rfl fun a S=>Vf AD S rfl rfl fun a S=>Vl isAgg9 0 S rfl rfl rfl rfl fun a S=>lv S (Nl XL (pv:=[(0,sV y1.Race),(1,sV y1.Who)]) ⟨rfl,(S.tm rfl),rfl,(S.tm rfl),trivial⟩ (cs:=[sV y1.Race,sV y1.Who]) (by kernel_rfl)) rfl ?_)));clear S;intro a S
   refine lv S (Pt (kv:=(fun x=>Value.agg (Fo.enc x).toArray)) (vv:=Value.bool) (m:=x1) (key:=(Fo.mk y1.Race y1.Who)) (z:=false) (S.map_at (i:=1) rfl) underlying209 PJ zeroValue4 (S.tm rfl) (S.tm rfl)) rfl fun a S=>Ld ?_
   replace S:=(S.nl [.blk b3 (Dj.enc y1) 52,.map b1 (Fi (fun x=>Value.agg (Fo.enc x).toArray) Value.bool x1) x1.length] [true,true] rfl).k7 0 3 5 17 18 19 29 rfl
   refine Tn (Fc h (S.tm rfl) (fun hb1 h=>?_) (fun hb1 h=>?_))
   ·refine Fr (Vk S rfl rfl fun a S=>Dl (wp_ret (Dv (Gq (Dv (Dv (Gq ?_)))))))
    refine Dv (Dv ?_)
    obtain rfl:=Option.some.inj h
    exact Et S results108 rfl rfl
   ·refine wp_skip (Tn (Fg (Vm S rfl rfl fun a S=>Vf AC S rfl rfl fun a S=>Vl isAgg9 0 S rfl rfl rfl rfl fun a S=>Vf AD S rfl rfl fun a S=>Vl isAgg9 0 S rfl rfl rfl rfl fun a S=>lv S (Nl XL (pv:=[(0,sV y1.Race),(1,sV y1.Who)]) ⟨rfl,(S.tm rfl),rfl,(S.tm rfl),trivial⟩ (cs:=[sV y1.Race,sV y1.Who]) (by kernel_rfl)) rfl fun a S=>Nm (kv:=(fun x=>Value.agg (Fo.enc x).toArray)) (vv:=Value.bool) (m:=x1) (key:=(Fo.mk y1.Race y1.Who)) (val:=true) S (i:=1) rfl underlying209 PJ (S.tm rfl) (S.tm rfl) rfl ?_)));clear S;intro w6 hk4 S
    exact Ld (Hp (Tn (Fg (Vq S Gc rfl rfl rfl fun a S=>Vm S rfl rfl fun a S=>Dl (⟨ys1,⟨i1 + 1,(Gk x1 (Fo.mk y1.Race y1.Who) true),⟨_,(hd1).trans (List.append_cons _ _ _),by simp [hi1]⟩,h,S.nf [false,true] rfl ⟨rfl,rfl,rfl,rfl,(congrArg (fun z=>some (Value.int .i64 z)) (Ib hd1 hi1 (Jp Ai))),trivial⟩⟩,Nat.lt_succ_self _⟩)))))
 clear S h;rintro a w3 ⟨x1,h,S⟩;rw [hj1] at h;clear hj1 j1
 refine Tn (Fr (Vm S rfl rfl ?_));clear S;intro a S
 obtain ⟨r1,hr2,h⟩:=Fa h
 have hz3:=S.keep.size
 refine Eb S (fun _=>Dq (vs:=[Ac]) ⟨(S.tm rfl),trivial⟩ call110) (CD _ (join (view w []) nov) (Pw (S.le_arg Eg) (S.le_new Eg)) Ac Aj (Ai.mono (le_join_left _ _)) _ hr2) rfl ?_;clear S;intro v1 a w7 hv1 hk5 hn1 S
 obtain ⟨φ1,hl1,hm2,S⟩:=S.see' hn1 hz3
 obtain ⟨rs1,ho2,hr3⟩:=hv1
 have hs1:=ho2.mono (Tx hl1 hm2)
 have hr4:=JA (Tx hl1 hm2) hr3
 refine Va S rfl rfl fun a S=>Dl (Fs (Fr (Vm S rfl rfl fun a S=>lv S (Gi BS (S.tm rfl) (Zf hs1 hr4)) rfl fun a S=>lv S (Rm rfl) rfl fun a S=>Dl ?_)))
 replace S:=S.n0.k4 6 39 40 41 rfl
 obtain ⟨j2,hj2,h⟩:=Eu h
 refine Eh (fun a w'=>j2 = some r ∧ Sx w [] φ1 [] [(6,v1)] 122 a w') ?_ ?_
 ·refine wp_block (Gr (fun (ys2 : List (List Dj)) a w'=>∃ i2 : Nat,(∃ dn,r1 = dn ++ ys2 ∧ dn.length = i2) ∧ Ky j2 ys2 i2 = some r ∧ Sx w [] φ1 [] [(6,v1),(39,v1),(40,iV (r1.length : Int)),(41,iV (i2 : Int))] 122 a w') List.length r1 ⟨0,⟨[],rfl,rfl⟩,h,S.nf [] rfl (subR rfl)⟩ ?_)
  clear S h;rintro ys2 a w8 ⟨i2,⟨dn,hd2,hi2⟩,h,S⟩
  cases ys2 with
  | nil =>
   rw [Ky.eq_1] at h
   refine Fr (Vb S Es rfl rfl rfl fun a S=>Ld ?_)
   replace S:=S.k5 6 39 40 41 42 rfl
   exact Tn (Fs (wp_cond_false ((S.tm rfl).trans (congrArg Value.bool (Jd hd2 hi2))) (wp_exit (Ed (Ed (Gn (Tn (⟨h,S.nf [] rfl ⟨rfl,trivial⟩⟩))))))))
  | cons y2 ys2 =>
   rw [Ky.eq_2] at h
   refine Fr (Vb S Es rfl rfl rfl fun a S=>Ld ?_)
   replace S:=S.k5 6 39 40 41 42 rfl
   refine Tn (Fs (wp_cond_true ((S.tm rfl).trans (congrArg Value.bool (Ia hd2 hi2))) (wp_skip (Tn (Fs (wp_block (Fs (Fg ?_))))))))
   obtain ⟨r2,hg1,hl2⟩:=Ng.at hr4 (Jc hd2 hi2)
   have hs2:=hl2
   obtain ⟨b4,o2,hm3,hr5⟩:=Fk (a:=a) (x:=.tmp 39) (y:=.tmp 41) (ty:=0) BS hs1 hg1 rfl (S.tm rfl) (S.tm rfl)
   refine lv S (hr5 _) rfl ?_;clear S;intro a S
   clear hr5
   refine lv S (Hx isAgg37 (off:=o2) (o:=0) (S.tm rfl) (hm3.at (Ww S.emb0 S.emb)) rfl) rfl fun a S=>Hq S zeroValue37 (cs:=[.slice none 0 0]) rfl rfl ?_;clear S;intro a w10 b5 hz4 hk6 S
   refine Ex S (S.tm rfl) (S.tm rfl) (i:=0) (off:=0) rfl sizeOf37 (vs:=[r2.val]) (Lp.cells (Gf hs2)) rfl rfl (Vi (Lp.one (Gf hs2)) rfl) ?_;clear S;intro w11 hk7 S
   refine Dz (Vl isAgg37 0 S rfl rfl rfl rfl fun a S=>lv S (Tk (us:=#[]) (xs:=[].toArray) (ys:=[.tmp 8].toArray) (by simp) (evA ⟨(S.tm rfl),trivial⟩ (vs:=[.pointer (some ⟨b5,0,none⟩)]))) rfl ?_);clear S;intro a S
   obtain ⟨r3,hr6,h⟩:=Fa h
   refine Eb S (fun _=>Dq (vs:=[r2.val,.func (.func 140) #[] #[.pointer (some ⟨b5,0,none⟩)]]) ⟨(S.tm rfl),(S.tm rfl),trivial⟩ call139) (Rz _ r2.val y2 (hs2.mono (Pw (S.le_arg Eg) (S.le_new Eg))) b5 r2.val y2 (hs2.mono (Pw (S.le_arg Eg) (S.le_new Eg))) (S.blk_view (i:=0) rfl ((Hg (e':=.blk b5 [r2.val] 37)) _ rfl)) _ hr6) rfl ?_;clear S;intro v2 a w12 hv2 hk8 hn2 S
   subst hv2
   refine Dl (Fc h (S.tm rfl) (fun hb2 h=>?_) (fun hb2 h=>?_))
   ·refine Fr (Vk S rfl rfl fun a S=>Dl (wp_ret (Gq (Dv (Dv (Gq (Dv ?_)))))))
    refine Dv ?_
    obtain rfl:=Option.some.inj h
    exact Et S results108 rfl rfl
   ·exact wp_skip (Hp (Tn (Fg (Vq S Gc rfl rfl rfl fun a S=>Vm S rfl rfl fun a S=>Dl (⟨ys2,⟨i2 + 1,⟨_,(hd2).trans (List.append_cons _ _ _),by simp [hi2]⟩,h,S.nf [false] rfl ⟨rfl,rfl,rfl,(congrArg (fun z=>some (Value.int .i64 z)) (Ib hd2 hi2 (AO hs1 hr4))),trivial⟩⟩,Nat.lt_succ_self _⟩)))))
 clear S h;rintro a w9 ⟨h,S⟩;rw [hj2] at h;clear hj2 j2
 refine Tn (Fs (Fr (Vm S rfl rfl fun a S=>lv S (Gi BS (S.tm rfl) (Zf hs1 hr4)) rfl fun a S=>lv S (Rm rfl) rfl fun a S=>Dl ?_)))
 replace S:=S.k4 6 49 50 51 rfl
 obtain ⟨j3,hj3,h⟩:=Eu h
 refine Eh (fun a w'=>j3 = some r ∧ Sx w [] φ1 [] [(6,v1)] 122 a w') ?_ ?_
 ·refine wp_block (Gr (fun (ys3 : List (List Dj)) a w'=>∃ i3 : Nat,(∃ dn,r1 = dn ++ ys3 ∧ dn.length = i3) ∧ Ki j3 ys3 i3 = some r ∧ Sx w [] φ1 [] [(6,v1),(49,v1),(50,iV (r1.length : Int)),(51,iV (i3 : Int))] 122 a w') List.length r1 ⟨0,⟨[],rfl,rfl⟩,h,S.nf [] rfl (subR rfl)⟩ ?_)
  clear S h;rintro ys3 a w13 ⟨i3,⟨dn,hd3,hi3⟩,h,S⟩
  cases ys3 with
  | nil =>
   rw [Ki.eq_1] at h
   refine Fr (Vb S Es rfl rfl rfl fun a S=>Ld ?_)
   replace S:=S.k5 6 49 50 51 52 rfl
   exact Tn (Fs (wp_cond_false ((S.tm rfl).trans (congrArg Value.bool (Jd hd3 hi3))) (wp_exit (Ed (Ed (Gn (Tn (⟨h,S.nf [] rfl ⟨rfl,trivial⟩⟩))))))))
  | cons y3 ys3 =>
   rw [Ki.eq_2] at h
   refine Fr (Vb S Es rfl rfl rfl fun a S=>Ld ?_)
   replace S:=S.k5 6 49 50 51 52 rfl
   refine Tn (Fs (wp_cond_true ((S.tm rfl).trans (congrArg Value.bool (Ia hd3 hi3))) (wp_skip (Tn (Fs (wp_block (Fs (Fg ?_))))))))
   obtain ⟨r4,hg2,hl3⟩:=Ng.at hr4 (Jc hd3 hi3)
   have hs3:=hl3
   obtain ⟨b6,o3,hm4,hr7⟩:=Fk (a:=a) (x:=.tmp 49) (y:=.tmp 51) (ty:=0) BS hs1 hg2 rfl (S.tm rfl) (S.tm rfl)
   refine lv S (hr7 _) rfl ?_;clear S;intro a S
   clear hr7
   refine lv S (Hx isAgg37 (off:=o3) (o:=0) (S.tm rfl) (hm4.at (Ww S.emb0 S.emb)) rfl) rfl fun a S=>Va S rfl rfl fun a S=>Dz (Vm S rfl rfl fun a S=>lv S (Gi Qh (S.tm rfl) (Gf hs3)) rfl fun a S=>lv S (Rm rfl) rfl fun a S=>Dl ?_)
   replace S:=S.k8 6 10 49 50 51 55 56 57 rfl
   obtain ⟨j4,hj4,h⟩:=Eu h
   refine Eh (fun a w'=>j4 = some r ∧ Sx w [] φ1 [] [(6,v1),(49,v1),(50,iV (r1.length : Int)),(51,iV (i3 : Int))] 122 a w') ?_ ?_
   ·refine wp_block (Gr (fun (ys4 : List Dj) a w'=>∃ i4 : Nat,(∃ dn,y3 = dn ++ ys4 ∧ dn.length = i4) ∧ Lu y3 j4 ys4 i4 = some r ∧ Sx w [] φ1 [] [(6,v1),(10,r4.val),(49,v1),(50,iV (r1.length : Int)),(51,iV (i3 : Int)),(55,r4.val),(56,iV (y3.length : Int)),(57,iV (i4 : Int))] 122 a w') List.length y3 ⟨0,⟨[],rfl,rfl⟩,h,S.nf [] rfl (subR rfl)⟩ ?_)
    clear S h;rintro ys4 a w15 ⟨i4,⟨dn,hd4,hi4⟩,h,S⟩
    cases ys4 with
    | nil =>
     rw [Lu.eq_1] at h
     refine Fr (Vb S Es rfl rfl rfl fun a S=>Ld ?_)
     replace S:=S.k9 6 10 49 50 51 55 56 57 58 rfl
     exact Tn (Fs (wp_cond_false ((S.tm rfl).trans (congrArg Value.bool (Jd hd4 hi4))) (wp_exit (Ed (Ed (Gn (Tn (⟨h,S.nf [] rfl (subR rfl)⟩))))))))
    | cons y4 ys4 =>
     rw [Lu.eq_2] at h
     refine Fr (Vb S Es rfl rfl rfl fun a S=>Ld ?_)
     replace S:=S.k9 6 10 49 50 51 55 56 57 58 rfl
     refine Tn (Fs (wp_cond_true ((S.tm rfl).trans (congrArg Value.bool (Ia hd4 hi4))) (wp_skip (Tn (Fs (wp_block (Fr (Vm S rfl rfl ?_))))))));clear S;intro a S
     obtain ⟨b7,o4,hm5,hr8⟩:=Fk (a:=a) (x:=.tmp 55) (y:=.tmp 57) (ty:=0) Qh hs3 (Jc hd4 hi4) rfl (S.tm rfl) (S.tm rfl)
     refine lv S (hr8 _) rfl ?_;clear S;intro a S
     clear hr8
     refine lv S (Fb isAgg52 sizeOf52 (off:=o4) (o:=0) (part:=(Dj.enc y4)) rfl rfl (S.tm rfl) (hm5.at (Ww S.emb0 S.emb))) rfl fun a S=>Hq S zeroValue52 (cs:=[sV An,sV An,sV An,iV 0,bV false]) rfl rfl ?_;clear S;intro a w17 b8 hz5 hk9 S
     refine Va S rfl rfl fun a S=>Ex S (S.tm rfl) (S.tm rfl) (i:=0) (off:=0) rfl sizeOf52 (vs:=(Dj.enc y4)) rfl rfl rfl rfl ?_;clear S;intro w18 hk10 S
     refine Dl (Fs (Gt [] ([]) Tryz.mixed S rfl (by kernel_rfl) ?_));clear S;intro w19 hk11 hsel S
     refine Li [0,1,2,3,4,5,6,7,8,9,10,11,12,13,14,15,16,17,18,19,20,21,22,23,24] hsel (by kernel_rfl) rfl ?_
     clear hsel
     refine Gp S rfl (Gd Qa (S.tm rfl)) rfl fun a S=>Gp S rfl (Nf isAgg3 (S.tm rfl) (S.cell (i:=0) rfl rfl)) rfl fun a S=>Gp S rfl (Kb (S.tm rfl) rfl) rfl fun a S=>Gp S rfl (Rm (S.tm rfl)) rfl fun a S=>Ym 6 (fun a w'=>Keep [] w19 w' ∧ Sx w [] φ1 [.blk b8 (Dj.enc y4) 52] [(6,v1),(10,r4.val),(11,iV (i4 : Int)),(12,.pointer (some ⟨b8,0,none⟩)),(49,v1),(50,iV (r1.length : Int)),(51,iV (i3 : Int)),(55,r4.val),(56,iV (y3.length : Int)),(57,iV (i4 : Int)),(71,bV ((decide (0 < y4.Rank)) && (!decide (y4.Rank = (W ((i4 : Int) + 1))))))] 122 a w') ?_ ?_
     ·rcases Bool.eq_false_or_eq_true (decide (0 < y4.Rank)) with hb3 | hb3
      ·refine Fj S rfl rfl rfl rfl hb3 (Ha S (Gd Qa (S.tm rfl)) rfl fun a S=>Fj S rfl rfl rfl rfl hb3 (Ha S (Nf isAgg3 (S.tm rfl) (S.cell (i:=0) rfl rfl)) rfl fun a S=>Fj S rfl rfl rfl rfl hb3 (Ha S (Rm (S.tm rfl)) rfl fun a S=>Fj S rfl rfl rfl rfl hb3 (Ha S (Gc (S.tm rfl) rfl) rfl fun a S=>Fj S rfl rfl rfl rfl hb3 (Ha S (Mn (S.tm rfl) (S.tm rfl)) rfl fun a S=>Gp S rfl (Io hb3 (S.tm rfl) (S.tm rfl)) rfl ?_)))));clear S;intro a S
       exact Ij (⟨Keep.refl _ _,S.nf [true] rfl (subR rfl)⟩)
      ·iterate 5 (refine Pn S rfl rfl rfl rfl (Kp hb3) rfl ?_ rfl;clear S;intro a S)
       exact Gp S rfl (Ip (!decide (y4.Rank = (W ((i4 : Int) + 1)))) hb3 (S.tm rfl) rfl) rfl fun a S=>Ij (⟨Keep.refl _ _,S.nf [true] rfl (subR rfl)⟩)
     clear S;rintro a w20 ⟨hk12,S⟩
     refine Gp S rfl (Rm (S.tm rfl)) rfl ?_;clear S;intro a S
     obtain ⟨j5,hj5,h⟩:=Eu h
     refine Ym 14 (fun a w'=>∃ c1,j5 c1 = some r ∧ Keep [] w20 w' ∧ Sx w [] φ1 [.blk b8 (Dj.enc y4) 52] [(6,v1),(10,r4.val),(49,v1),(50,iV (r1.length : Int)),(51,iV (i3 : Int)),(55,r4.val),(56,iV (y3.length : Int)),(57,iV (i4 : Int)),(86,bV c1)] 122 a w') ?_ ?_
     ·rcases Bool.eq_false_or_eq_true ((decide (0 < y4.Rank)) && (!decide (y4.Rank = (W ((i4 : Int) + 1))))) with hb4 | hb4
      ·replace h:=Ti h hb4
       refine Fj S rfl rfl rfl rfl hb4 (Ha S (Rm (S.tm rfl)) rfl fun a S=>Fj S rfl rfl rfl rfl hb4 (Ha S (Jk (S.tm rfl) rfl) rfl fun a S=>Fj S rfl rfl rfl rfl hb4 (Ha S (Rm (S.tm rfl)) rfl ?_)));clear S;intro a S
       obtain ⟨j6,hj6,h⟩:=Eu h
       refine Ym 10 (fun a w'=>∃ c2,j6 c2 = some r ∧ Keep [] w20 w' ∧ Sx w [] φ1 [.blk b8 (Dj.enc y4) 52] [(6,v1),(10,r4.val),(49,v1),(50,iV (r1.length : Int)),(51,iV (i3 : Int)),(55,r4.val),(56,iV (y3.length : Int)),(57,iV (i4 : Int)),(72,bV ((decide (0 < y4.Rank)) && (!decide (y4.Rank = (W ((i4 : Int) + 1)))))),(73,iV (i4 : Int)),(74,bV (decide ((i4 : Int) = 0))),(75,bV (decide ((i4 : Int) = 0))),(85,bV c2)] 122 a w') ?_ ?_
       ·rcases Bool.eq_false_or_eq_true (decide ((i4 : Int) = 0)) with hb5 | hb5
        ·replace h:=Ti h hb5
         iterate 9 (refine Pn S rfl rfl rfl rfl (Oa hb5) rfl ?_ rfl;clear S;intro a S)
         exact Fj S rfl rfl rfl rfl hb4 (Ha S (Mo true hb5 (S.tm rfl) rfl) rfl fun a S=>Ij (⟨_,h,Keep.refl _ _,S.nf [true] rfl (subR rfl)⟩))
        ·replace h:=Tj h hb5
         refine Fj S rfl rfl rfl rfl hb5 (Ha S (Gd Qa (S.tm rfl)) rfl fun a S=>Fj S rfl rfl rfl rfl hb5 (Ha S (Nf isAgg3 (S.tm rfl) (S.cell (i:=0) rfl rfl)) rfl fun a S=>Fj S rfl rfl rfl rfl hb5 (Ha S (Rm (S.tm rfl)) rfl fun a S=>Fj S rfl rfl rfl rfl hb5 (Ha S (Rm (S.tm rfl)) rfl fun a S=>Fj S rfl rfl rfl rfl hb5 (Ha S (Iw (S.tm rfl) rfl) rfl fun a S=>Fj S rfl rfl rfl rfl hb5 ?_)))))
         obtain ⟨hc1,h⟩:=Ig h
         obtain ⟨b9,o5,hm6,hr9⟩:=Fk (a:=a) (x:=.tmp 78) (y:=.tmp 80) (ty:=0) Qh hs3 (Dw hc1).1 (Dw hc1).2 (S.tm rfl) (S.tm rfl)
         refine Ha S (hr9 _) rfl ?_;clear S;intro a S
         clear hr9
         exact Fj S rfl rfl rfl rfl hb5 (Ha S (Gd Qa (S.tm rfl)) rfl fun a S=>Fj S rfl rfl rfl rfl hb5 (Ha S (Hx isAgg3 (off:=o5) (o:=3) (S.tm rfl) (hm6.at (Ww S.emb0 S.emb)) rfl) rfl fun a S=>Fj S rfl rfl rfl rfl hb5 (Ha S (Mn (S.tm rfl) (S.tm rfl)) rfl fun a S=>Fj S rfl rfl rfl rfl hb4 (Ha S (Mp hb5 (S.tm rfl) (S.tm rfl)) rfl fun a S=>Ij (⟨_,h,Keep.refl _ _,S.nf [true] rfl (subR rfl)⟩)))))
       clear S h;rintro a w22 ⟨c2,h,hk13,S⟩;rw [hj6] at h;clear hj6 j6
       exact Gp S rfl (Io hb4 (S.tm rfl) (S.tm rfl)) rfl fun a S=>Ij (⟨_,h,hk13,S.nf [true] rfl (subR rfl)⟩)
      ·replace h:=Tj h hb4
       iterate 3 (refine Pn S rfl rfl rfl rfl (Kp hb4) rfl ?_ rfl;clear S;intro a S)
       iterate 9 (refine SX S rfl rfl rfl rfl rfl ?_;clear S;intro a S)
       exact Pn S rfl rfl rfl rfl (Kp hb4) rfl (fun a S=>Gp S rfl (Ip true hb4 (S.tm rfl) rfl) rfl fun a S=>Ij (⟨_,h,Keep.refl _ _,S.nf [true] rfl (subR rfl)⟩)) rfl
     clear S h;rintro a w21 ⟨c1,h,hk14,S⟩;rw [hj5] at h;clear hj5 j5
     refine Ij ?_
     replace S:=S.n0.k9 6 10 49 50 51 55 56 57 86 rfl
     refine Tn (Fc h (S.tm rfl) (fun hb6 h=>?_) (fun hb6 h=>?_))
     ·refine Fr (Vk S rfl rfl fun a S=>Dl (wp_ret (Gq (Dv (Dv (Gq (Dv ?_)))))))
      refine Gq (Dv (Dv (Gq (Dv (Dv ?_)))))
      obtain rfl:=Option.some.inj h
      exact Et S results108 rfl rfl
     ·exact wp_skip (Hp (Tn (Fg (Vq S Gc rfl rfl rfl fun a S=>Vm S rfl rfl fun a S=>Dl (⟨ys4,⟨i4 + 1,⟨_,(hd4).trans (List.append_cons _ _ _),by simp [hi4]⟩,h,S.nf [] rfl ⟨rfl,rfl,rfl,rfl,rfl,rfl,rfl,(congrArg (fun z=>some (Value.int .i64 z)) (Ib hd4 hi4 (Jp hs3))),trivial⟩⟩,Nat.lt_succ_self _⟩)))))
   clear S h;rintro a w16 ⟨h,S⟩;rw [hj4] at h;clear hj4 j4
   exact Hp (Tn (Fg (Vq S Gc rfl rfl rfl fun a S=>Vm S rfl rfl fun a S=>Dl (⟨ys3,⟨i3 + 1,⟨_,(hd3).trans (List.append_cons _ _ _),by simp [hi3]⟩,h,S.nf [] rfl ⟨rfl,rfl,rfl,(congrArg (fun z=>some (Value.int .i64 z)) (Ib hd3 hi3 (AO hs1 hr4))),trivial⟩⟩,Nat.lt_succ_self _⟩))))
 clear S h;rintro a w14 ⟨h,S⟩;rw [hj3] at h;clear hj3 j3
 refine Tn (Fs (Fr (Vm S rfl rfl fun a S=>lv S (Gi BS (S.tm rfl) (Zf hs1 hr4)) rfl fun a S=>lv S (Rm rfl) rfl fun a S=>Dl ?_)))
 replace S:=S.k3 89 90 91 rfl
 obtain ⟨j7,hj7,h⟩:=Eu h
 refine Eh (fun a w'=>j7 = some r ∧ Sx w [] φ1 [] [] 122 a w') ?_ ?_
 ·refine wp_block (Gr (fun (ys5 : List (List Dj)) a w'=>∃ i5 : Nat,(∃ dn,r1 = dn ++ ys5 ∧ dn.length = i5) ∧ Kz j7 ys5 i5 = some r ∧ Sx w [] φ1 [] [(89,v1),(90,iV (r1.length : Int)),(91,iV (i5 : Int))] 122 a w') List.length r1 ⟨0,⟨[],rfl,rfl⟩,h,S.nf [] rfl (subR rfl)⟩ ?_)
  clear S h;rintro ys5 a w23 ⟨i5,⟨dn,hd5,hi5⟩,h,S⟩
  cases ys5 with
  | nil =>
   rw [Kz.eq_1] at h
   refine Fr (Vb S Es rfl rfl rfl fun a S=>Ld ?_)
   replace S:=S.k4 89 90 91 92 rfl
   exact Tn (Fs (wp_cond_false ((S.tm rfl).trans (congrArg Value.bool (Jd hd5 hi5))) (wp_exit (Ed (Ed (Gn (Tn (⟨h,S.nf [] rfl trivial⟩))))))))
  | cons y5 ys5 =>
   rw [Kz.eq_2] at h
   refine Fr (Vb S Es rfl rfl rfl fun a S=>Ld ?_)
   replace S:=S.k4 89 90 91 92 rfl
   refine Tn (Fs (wp_cond_true ((S.tm rfl).trans (congrArg Value.bool (Ia hd5 hi5))) (wp_skip (Tn (Fs (wp_block (Fs (Fg ?_))))))))
   obtain ⟨r5,hg3,hl4⟩:=Ng.at hr4 (Jc hd5 hi5)
   have hs4:=hl4
   obtain ⟨b10,o6,hm7,hr10⟩:=Fk (a:=a) (x:=.tmp 89) (y:=.tmp 91) (ty:=0) BS hs1 hg3 rfl (S.tm rfl) (S.tm rfl)
   refine lv S (hr10 _) rfl ?_;clear S;intro a S
   clear hr10
   refine lv S (Hx isAgg37 (off:=o6) (o:=0) (S.tm rfl) (hm7.at (Ww S.emb0 S.emb)) rfl) rfl fun a S=>Va S rfl rfl fun a S=>Dz (Vk S rfl rfl fun a S=>Dl ?_)
   replace S:=S.k5 14 15 89 90 91 rfl
   obtain ⟨j8,hj8,h⟩:=Eu h
   refine Eh (fun a w'=>j8 = some r ∧ Sx w [] φ1 [] [(89,v1),(90,iV (r1.length : Int)),(91,iV (i5 : Int))] 122 a w') ?_ ?_
   ·refine wp_block (Gr (fun (m1 : Nat) a w'=>∃ x2 : Int,Mr y5 j8 m1 x2 = some r ∧ Sx w [] φ1 [] [(14,r5.val),(15,iV x2),(89,v1),(90,iV (r1.length : Int)),(91,iV (i5 : Int))] 122 a w') id (((y5.length : Int) - 10).toNat + 2) ⟨10,h,S.nf [] rfl (subR rfl)⟩ ?_)
    clear S h;rintro m1 a w25 ⟨x2,h,S⟩
    cases m1 with
    | zero=>rw [Mr.eq_1] at h;cases h
    | succ m1 =>
     rw [Mr.eq_2] at h
     refine Fs (Fr (Vm S rfl rfl fun a S=>Vm S rfl rfl fun a S=>lv S (Gi Qh (S.tm rfl) (Gf hs4)) rfl fun a S=>Vb S Es rfl rfl rfl fun a S=>Dl (Fc h (S.tm rfl) (fun hb7 h=>?_) (fun hb7 h=>?_))))
     ·refine wp_skip (Tn (Fs (wp_block (Fs (Gt [] ([]) Tryz.mixed S rfl (by kernel_rfl) ?_)))));clear S;intro w27 hk15 hsel S
      refine Li [0,1,2,3,4,5,6,7,8,9,10,11,12,13,14,15,16,17,18,19] hsel (by kernel_rfl) rfl ?_
      clear hsel
      refine Gp S rfl (Rm (S.tm rfl)) rfl fun a S=>Gp S rfl (Rm (S.tm rfl)) rfl ?_;clear S;intro a S
      obtain ⟨hc2,h⟩:=Ig h
      obtain ⟨b11,o7,hm8,hr11⟩:=Fk (a:=a) (x:=.tmp 101) (y:=.tmp 102) (ty:=0) Qh hs4 (Dw hc2).1 (Dw hc2).2 (S.tm rfl) (S.tm rfl)
      refine Gp S rfl (hr11 _) rfl ?_;clear S;intro a S
      clear hr11
      refine Gp S rfl (Gd Qa (S.tm rfl)) rfl fun a S=>Gp S rfl (Hx isAgg3 (off:=o7) (o:=3) (S.tm rfl) (hm8.at (Ww S.emb0 S.emb)) rfl) rfl fun a S=>Gp S rfl (Kb (S.tm rfl) rfl) rfl fun a S=>Gp S rfl (Rm (S.tm rfl)) rfl ?_;clear S;intro a S
      obtain ⟨j9,hj9,h⟩:=Eu h
      refine Ym 13 (fun a w'=>∃ c3,j9 c3 = some r ∧ Keep [] w27 w' ∧ Sx w [] φ1 [] [(14,r5.val),(15,iV x2),(89,v1),(90,iV (r1.length : Int)),(91,iV (i5 : Int)),(120,bV c3)] 122 a w') ?_ ?_
      ·rcases Bool.eq_false_or_eq_true (decide (0 < ((nth y5 x2).Rank))) with hb8 | hb8
       ·replace h:=Ti h hb8
        refine Fj S rfl rfl rfl rfl hb8 (Ha S (Rm (S.tm rfl)) rfl fun a S=>Fj S rfl rfl rfl rfl hb8 (Ha S (Rm (S.tm rfl)) rfl fun a S=>Fj S rfl rfl rfl rfl hb8 ?_))
        obtain ⟨hc3,h⟩:=Ig h
        obtain ⟨b12,o8,hm9,hr12⟩:=Fk (a:=a) (x:=.tmp 108) (y:=.tmp 109) (ty:=0) Qh hs4 (Dw hc3).1 (Dw hc3).2 (S.tm rfl) (S.tm rfl)
        refine Ha S (hr12 _) rfl ?_;clear S;intro a S
        clear hr12
        refine Fj S rfl rfl rfl rfl hb8 (Ha S (Gd Qa (S.tm rfl)) rfl fun a S=>Fj S rfl rfl rfl rfl hb8 (Ha S (Hx isAgg3 (off:=o8) (o:=3) (S.tm rfl) (hm9.at (Ww S.emb0 S.emb)) rfl) rfl fun a S=>Fj S rfl rfl rfl rfl hb8 (Ha S (Rm (S.tm rfl)) rfl fun a S=>Fj S rfl rfl rfl rfl hb8 (Ha S (Rm (S.tm rfl)) rfl fun a S=>Fj S rfl rfl rfl rfl hb8 (Ha S (Iw (S.tm rfl) rfl) rfl fun a S=>Fj S rfl rfl rfl rfl hb8 ?_)))))
        obtain ⟨hc4,h⟩:=Ig h
        obtain ⟨b13,o9,hm10,hr13⟩:=Fk (a:=a) (x:=.tmp 113) (y:=.tmp 115) (ty:=0) Qh hs4 (Dw hc4).1 (Dw hc4).2 (S.tm rfl) (S.tm rfl)
        refine Ha S (hr13 _) rfl ?_;clear S;intro a S
        clear hr13
        exact Fj S rfl rfl rfl rfl hb8 (Ha S (Gd Qa (S.tm rfl)) rfl fun a S=>Fj S rfl rfl rfl rfl hb8 (Ha S (Hx isAgg3 (off:=o9) (o:=3) (S.tm rfl) (hm10.at (Ww S.emb0 S.emb)) rfl) rfl fun a S=>Fj S rfl rfl rfl rfl hb8 (Ha S (Jk (S.tm rfl) (S.tm rfl)) rfl fun a S=>Gp S rfl (Io hb8 (S.tm rfl) (S.tm rfl)) rfl fun a S=>Ij (⟨_,h,Keep.refl _ _,S.nf [] rfl (subR rfl)⟩))))
       ·replace h:=Tj h hb8
        iterate 12 (refine Pn S rfl rfl rfl rfl (Kp hb8) rfl ?_ rfl;clear S;intro a S)
        exact Gp S rfl (Ip true hb8 (S.tm rfl) rfl) rfl fun a S=>Ij (⟨_,h,Keep.refl _ _,S.nf [] rfl (subR rfl)⟩)
      clear S h;rintro a w28 ⟨c3,h,hk16,S⟩;rw [hj9] at h;clear hj9 j9
      refine Ij ?_
      replace S:=S.k6 14 15 89 90 91 120 rfl
      refine Tn (Fc h (S.tm rfl) (fun hb9 h=>?_) (fun hb9 h=>?_))
      ·refine Fr (Vk S rfl rfl fun a S=>Dl (wp_ret (Gq (Dv (Dv (Gq (Dv ?_)))))))
       refine Gq (Dv (Dv (Gq (Dv (Dv ?_)))))
       obtain rfl:=Option.some.inj h
       exact Et S results108 rfl rfl
      ·exact wp_skip (Hp (Tn (Fg (Vm S rfl rfl fun a S=>Vq S Gc rfl rfl rfl fun a S=>Va S rfl rfl fun a S=>Dl (⟨m1,⟨W (x2 + 1),h,S.nf [] rfl ⟨rfl,rfl,rfl,rfl,rfl,trivial⟩⟩,Nat.lt_succ_self _⟩)))))
     ·exact wp_exit (Ed (Ed (Gn (Tn (⟨h,S.nf [] rfl (subR rfl)⟩)))))
   clear S h;rintro a w26 ⟨h,S⟩;rw [hj8] at h;clear hj8 j8
   exact Hp (Tn (Fg (Vq S Gc rfl rfl rfl fun a S=>Vm S rfl rfl fun a S=>Dl (⟨ys5,⟨i5 + 1,⟨_,(hd5).trans (List.append_cons _ _ _),by simp [hi5]⟩,h,S.nf [] rfl ⟨rfl,rfl,(congrArg (fun z=>some (Value.int .i64 z)) (Ib hd5 hi5 (AO hs1 hr4))),trivial⟩⟩,Nat.lt_succ_self _⟩))))
 clear S h;rintro a w24 ⟨h,S⟩;rw [hj7] at h;clear hj7 j7
 refine Tn (Fr (Vk S rfl rfl fun a S=>Dl (wp_ret ?_)))
 obtain rfl:=Option.some.inj h
 exact Et S results108 rfl rfl
set_option maxRecDepth 20000 in
theorem CJ (w : World) (Ac : Value) (Aj : List Dj) (Ai : Slc (view w []) 5 Ac (Aj.map Dj.enc)) (r : Int) (h : Ru Aj = some r) :
    Calls prog 65 [Ac].toArray w (Ret w [] fun _ v _=>v = iV r):=by
 refine Fe func65 rfl ntmps65 rfl fun a S=>?_
 unfold Ru at h
 replace S:=S.k1 0 rfl
 refine Fr (Vk S rfl rfl fun a S=>Dl (Fs (Fr (Vm S rfl rfl fun a S=>lv S (Gi Qh (S.tm rfl) (Gf Ai)) rfl fun a S=>Vq S Kb rfl rfl rfl ?_))));clear S;intro a S
 refine Dl (Fc h (S.tm rfl) (fun hb1 h=>?_) (fun hb1 h=>?_))
 ·refine Fr (Vk S rfl rfl fun a S=>Dl (wp_ret (Dv ?_)))
  obtain rfl:=Option.some.inj h
  exact Et S results65 rfl rfl
 ·refine wp_skip (Tn (Fs (Fr (Vm S rfl rfl fun a S=>lv S (Gi Qh (S.tm rfl) (Gf Ai)) rfl fun a S=>lv S (Rm rfl) rfl fun a S=>Dl ?_))))
  replace S:=S.k4 0 8 9 10 rfl
  obtain ⟨j1,hj1,h⟩:=Eu h
  refine Eh (fun a w'=>j1 = some r ∧ Sx w [] nov [] [(0,Ac)] 58 a w') ?_ ?_
  ·refine wp_block (Gr (fun (ys1 : List Dj) a w'=>∃ i1 : Nat,(∃ dn,Aj = dn ++ ys1 ∧ dn.length = i1) ∧ Kg Aj j1 ys1 i1 = some r ∧ Sx w [] nov [] [(0,Ac),(8,Ac),(9,iV (Aj.length : Int)),(10,iV (i1 : Int))] 58 a w') List.length Aj ⟨0,⟨[],rfl,rfl⟩,h,S.nf [] rfl (subR rfl)⟩ ?_)
   clear S h;rintro ys1 a w1 ⟨i1,⟨dn,hd1,hi1⟩,h,S⟩
   cases ys1 with
   | nil =>
    rw [Kg.eq_1] at h
    refine Fr (Vb S Es rfl rfl rfl fun a S=>Ld ?_)
    replace S:=S.k5 0 8 9 10 11 rfl
    exact Tn (Fs (wp_cond_false ((S.tm rfl).trans (congrArg Value.bool (Jd hd1 hi1))) (wp_exit (Ed (Ed (Gn (Tn (⟨h,S.nf [] rfl ⟨rfl,trivial⟩⟩))))))))
   | cons y1 ys1 =>
    rw [Kg.eq_2] at h
    refine Fr (Vb S Es rfl rfl rfl fun a S=>Ld ?_)
    replace S:=S.k5 0 8 9 10 11 rfl
    refine Tn (Fs (wp_cond_true ((S.tm rfl).trans (congrArg Value.bool (Ia hd1 hi1))) (wp_skip (Tn (Fs (wp_block (Fr (Vm S rfl rfl ?_))))))));clear S;intro a S
    obtain ⟨b1,o1,hm1,hr1⟩:=Fk (a:=a) (x:=.tmp 8) (y:=.tmp 10) (ty:=0) Qh Ai (Jc hd1 hi1) rfl (S.tm rfl) (S.tm rfl)
    refine lv S (hr1 _) rfl ?_;clear S;intro a S
    clear hr1
    refine lv S (Fb isAgg52 sizeOf52 (off:=o1) (o:=0) (part:=(Dj.enc y1)) rfl rfl (S.tm rfl) (hm1.at S.emb0)) rfl fun a S=>Hq S zeroValue52 (cs:=[sV An,sV An,sV An,iV 0,bV false]) rfl rfl ?_;clear S;intro a w3 b2 hz1 hk1 S
    refine Va S rfl rfl fun a S=>Ex S (S.tm rfl) (S.tm rfl) (i:=0) (off:=0) rfl sizeOf52 (vs:=(Dj.enc y1)) rfl rfl rfl rfl ?_;clear S;intro w4 hk2 S
    refine Dl (wp_block (Fr (Vf AC S rfl rfl fun a S=>Vl isAgg9 0 S rfl rfl rfl rfl ?_)));clear S;intro a S
    obtain ⟨r1,hr2,h⟩:=Fa h
    refine Eb S (fun _=>Dq (vs:=[sV y1.Race]) ⟨(S.tm rfl),trivial⟩ call106) (Mf _ y1.Race _ hr2) rfl ?_;clear S;intro v1 a w5 hv1 hk3 hn1 S
    subst hv1
    refine Vu S Ih rfl rfl fun a S=>Vm S rfl rfl ?_;clear S;intro a S
    obtain ⟨j2,hj2,h⟩:=Eu h
    refine Iy 5 (fun a w'=>∃ c1,j2 c1 = some r ∧ Keep [] w5 w' ∧ Sx w [] nov [.blk b2 (Dj.enc y1) 52] [(0,Ac),(3,iV (i1 : Int)),(4,.pointer (some ⟨b2,0,none⟩)),(8,Ac),(9,iV (Aj.length : Int)),(10,iV (i1 : Int)),(25,bV c1)] 58 a w') ?_ ?_
    ·rcases Bool.eq_false_or_eq_true (!r1) with hb2 | hb2
     ·replace h:=Ti h hb2
      iterate 4 (refine Ht S rfl rfl rfl (Oa hb2) rfl ?_ rfl;clear S;intro a S)
      exact Vq S (Mo true hb2) rfl rfl rfl fun a S=>Dl (⟨_,h,Keep.refl _ _,S.nf [true] rfl (subR rfl)⟩)
     ·replace h:=Tj h hb2
      refine Dy S rfl rfl rfl hb2 (Vf AD S rfl rfl fun a S=>Dy S rfl rfl rfl hb2 (Vl isAgg9 0 S rfl rfl rfl rfl fun a S=>Dy S rfl rfl rfl hb2 ?_))
      obtain ⟨r2,hr3,h⟩:=Fa h
      refine Eb S (fun _=>Dq (vs:=[sV y1.Who]) ⟨(S.tm rfl),trivial⟩ call106) (Mf _ y1.Who _ hr3) rfl ?_;clear S;intro v2 a w7 hv2 hk4 hn2 S
      subst hv2
      exact Dy S rfl rfl rfl hb2 (Vu S Ih rfl rfl fun a S=>lv S (Mp hb2 (S.tm rfl) (S.tm rfl)) rfl fun a S=>Dl (⟨_,h,hk4,S.nf [true] rfl (subR rfl)⟩))
    clear S h;rintro a w6 ⟨c1,h,hk5,S⟩;rw [hj2] at h;clear hj2 j2
    refine Vm S rfl rfl ?_;clear S;intro a S
    obtain ⟨j3,hj3,h⟩:=Eu h
    refine Iy 10 (fun a w'=>∃ c2,j3 c2 = some r ∧ Keep [] w6 w' ∧ Sx w [] nov [.blk b2 (Dj.enc y1) 52] [(0,Ac),(3,iV (i1 : Int)),(4,.pointer (some ⟨b2,0,none⟩)),(8,Ac),(9,iV (Aj.length : Int)),(10,iV (i1 : Int)),(36,bV c2)] 58 a w') ?_ ?_
    ·rcases Bool.eq_false_or_eq_true c1 with hb3 | hb3
     ·replace h:=Ti h hb3
      iterate 4 (refine Ht S rfl rfl rfl (Oa hb3) rfl ?_ rfl;clear S;intro a S)
      iterate 4 (refine FV S rfl rfl rfl rfl ?_;clear S;intro a S)
      exact Ht S rfl rfl rfl (Oa hb3) rfl (fun a S=>Vq S (Mo true hb3) rfl rfl rfl fun a S=>Dl (⟨_,h,Keep.refl _ _,S.nf [true] rfl (subR rfl)⟩)) rfl
     ·replace h:=Tj h hb3
      refine Dy S rfl rfl rfl hb3 (Vf Yv S rfl rfl fun a S=>Dy S rfl rfl rfl hb3 (Vl isAgg9 0 S rfl rfl rfl rfl fun a S=>Dy S rfl rfl rfl hb3 (Vq S Zv rfl rfl rfl fun a S=>Dy S rfl rfl rfl hb3 (Vm S rfl rfl ?_))));clear S;intro a S
      obtain ⟨j4,hj4,h⟩:=Eu h
      refine Iy 5 (fun a w'=>∃ c3,j4 c3 = some r ∧ Keep [] w6 w' ∧ Sx w [] nov [.blk b2 (Dj.enc y1) 52] [(0,Ac),(3,iV (i1 : Int)),(4,.pointer (some ⟨b2,0,none⟩)),(8,Ac),(9,iV (Aj.length : Int)),(10,iV (i1 : Int)),(26,bV c1),(27,.pointer (some ⟨b2,2,none⟩)),(28,sV y1.Club),(29,bV (!decide (y1.Club = An))),(30,bV (!decide (y1.Club = An))),(35,bV c3)] 58 a w') ?_ ?_
      ·rcases Bool.eq_false_or_eq_true (!decide (y1.Club = An)) with hb4 | hb4
       ·replace h:=Ti h hb4
        refine Dy S rfl rfl rfl hb4 (Vf Yv S rfl rfl fun a S=>Dy S rfl rfl rfl hb4 (Vl isAgg9 0 S rfl rfl rfl rfl fun a S=>Dy S rfl rfl rfl hb4 ?_))
        obtain ⟨r3,hr4,h⟩:=Fa h
        refine Eb S (fun _=>Dq (vs:=[sV y1.Club]) ⟨(S.tm rfl),trivial⟩ call106) (Mf _ y1.Club _ hr4) rfl ?_;clear S;intro v3 a w10 hv3 hk6 hn3 S
        subst hv3
        exact Dy S rfl rfl rfl hb4 (Vu S Ih rfl rfl fun a S=>Dy S rfl rfl rfl hb3 (lv S (Io hb4 (S.tm rfl) (S.tm rfl)) rfl fun a S=>Dl (⟨_,h,hk6,S.nf [true] rfl (subR rfl)⟩)))
       ·replace h:=Tj h hb4
        iterate 4 (refine Ht S rfl rfl rfl (Kp hb4) rfl ?_ rfl;clear S;intro a S)
        exact Dy S rfl rfl rfl hb3 (Vq S (Ip true hb4) rfl rfl rfl fun a S=>Dl (⟨_,h,Keep.refl _ _,S.nf [true] rfl (subR rfl)⟩))
      clear S h;rintro a w9 ⟨c3,h,hk7,S⟩;rw [hj4] at h;clear hj4 j4
      exact lv S (Mp hb3 (S.tm rfl) (S.tm rfl)) rfl fun a S=>Dl (⟨_,h,hk7,S.nf [true] rfl (subR rfl)⟩)
    clear S h;rintro a w8 ⟨c2,h,hk8,S⟩;rw [hj3] at h;clear hj3 j3
    refine Va S rfl rfl fun a S=>Dl (Fc h (S.tm rfl) (fun hb5 h=>?_) (fun hb5 h=>?_))
    ·refine Fr (Vk S rfl rfl fun a S=>Dl (wp_ret (Gq (Gq (Dv (Dv (Gq ?_)))))))
     refine Dv (Dv ?_)
     obtain rfl:=Option.some.inj h
     exact Et S results65 rfl rfl
    ·refine Fr (Vf Qa S rfl rfl fun a S=>Vl isAgg3 0 S rfl rfl rfl rfl fun a S=>Eb S (fun _=>Dq (vs:=[iV y1.Rank,iV 0,iV 300]) ⟨(S.tm rfl),rfl,rfl,trivial⟩ call79) (Gj _ y1.Rank 0 300 _ rfl) rfl ?_);clear S;intro v4 a w11 hv4 hk9 hn4 S
     subst hv4
     refine Vu S Ih rfl rfl fun a S=>Va S rfl rfl fun a S=>Dl (Fc h (S.tm rfl) (fun hb6 h=>?_) (fun hb6 h=>?_))
     ·refine Fr (Vk S rfl rfl fun a S=>Dl (wp_ret (Gq (Gq (Dv (Dv (Gq ?_)))))))
      refine Dv (Dv ?_)
      obtain rfl:=Option.some.inj h
      exact Et S results65 rfl rfl
     ·refine Fs ?_
      obtain ⟨j5,hj5,h⟩:=Eu h
      refine Eh (fun a w'=>∃ x1 : Bool,j5 x1 = some r ∧ Sx w [] nov [] [(0,Ac),(8,Ac),(9,iV (Aj.length : Int)),(10,iV (i1 : Int)),(42,bV x1)] 58 a w') ?_ ?_
      ·rcases Bool.eq_false_or_eq_true (decide (0 < (i1 : Int))) with hb7 | hb7
       ·replace h:=Ti h hb7
        obtain ⟨hc1,h⟩:=Ig h
        refine Gt [] ([]) Tryz.mixed S rfl (by kernel_rfl) ?_;clear S;intro w14 hk11 hsel S
        refine Ea 0 S hsel rfl rfl rfl (by kernel_rfl) (by kernel_rfl) rfl (fun _ hw=>(Rm (S.tm rfl))) fun a S=>Ea 1 S hsel rfl rfl rfl (by kernel_rfl) (by kernel_rfl) rfl (fun _ hw=>(Kb (S.tm rfl) rfl)) fun a S=>Ea 2 S hsel rfl rfl rfl (by kernel_rfl) (by kernel_rfl) rfl (fun _ hw=>(Rm (S.tm rfl))) fun a S=>Ef 3 S hsel rfl rfl rfl rfl hb7 rfl rfl (by kernel_rfl) (by kernel_rfl) rfl (fun _ hw=>(Rm (S.tm rfl))) fun a S=>Ef 4 S hsel rfl rfl rfl rfl hb7 rfl rfl (by kernel_rfl) (by kernel_rfl) rfl (fun _ hw=>(Rm (S.tm rfl))) fun a S=>Ef 5 S hsel rfl rfl rfl rfl hb7 rfl rfl (by kernel_rfl) (by kernel_rfl) rfl (fun _ hw=>(Iw (S.tm rfl) rfl)) ?_;clear S;intro a S
        obtain ⟨b4,o3,hm3,hr6⟩:=Fk (a:=a) (x:=.tmp 46) (y:=.tmp 48) (ty:=0) Qh (Ai.mono (S.le_arg Eg)) (Dw hc1).1 (Dw hc1).2 (S.tm rfl) (S.tm rfl)
        refine Ef 6 S hsel rfl rfl rfl rfl hb7 rfl rfl (by kernel_rfl) (by kernel_rfl) rfl (fun _ hw=>hr6 _) ?_;clear S;intro a S
        clear hr6
        refine Ef 7 S hsel rfl rfl rfl rfl hb7 rfl rfl (by kernel_rfl) (by kernel_rfl) rfl (fun _ hw=>(Fb isAgg52 sizeOf52 (off:=o3) (o:=0) (part:=(Dj.enc (nth Aj (W ((i1 : Int) - 1))))) rfl rfl (S.tm rfl) (hm3.kept hw))) fun a S=>Ef 8 S hsel rfl rfl rfl rfl hb7 rfl rfl (by kernel_rfl) (by kernel_rfl) rfl (fun _ hw=>(Fb isAgg52 sizeOf52 (off:=0) (o:=0) (part:=(Dj.enc y1)) rfl rfl (S.tm rfl) ((S.blk_mem (i:=0) (cells:=(Dj.enc y1)) (b:=b2) (T:=52) rfl (Hg (e':=.blk b2 (Dj.enc y1) 52))).kept hw))) fun a S=>Hb 9 (by kernel_rfl) rfl (Dy S rfl rfl rfl hb7 (Eb S (fun _=>Dq (vs:=[.agg (Dj.enc (nth Aj (W ((i1 : Int) - 1)))).toArray,.agg (Dj.enc y1).toArray]) ⟨(S.tm rfl),(S.tm rfl),trivial⟩ call107) (GI _ (nth Aj (W ((i1 : Int) - 1))) y1 _ rfl) rfl ?_));clear S;intro v6 a w15 hv6 hk12 hn6 S
        subst hv6
        refine Ld (Hy hk12 (Li [10,11,12] hsel (by kernel_rfl) rfl ?_))
        clear hsel
        refine Fj S rfl rfl rfl rfl hb7 (Ha S (Rl (S.tm rfl) rfl) rfl fun a S=>Gp S rfl (Pq hb7 (S.tm rfl) (S.tm rfl)) rfl fun a S=>Gp S rfl (Ra (S.tm rfl)) rfl fun a S=>Ij ?_)
        replace S:=S.n0.k13 0 8 9 10 42 46 47 48 49 50 51 52 53 rfl
        exact Tn (⟨decide (0 ≤ (Te (nth Aj (W ((i1 : Int) - 1))) y1)),h,S.nf [] rfl (subR rfl)⟩)
       ·replace h:=Tj h hb7
        refine Gt [] ([]) Tryz.mixed S rfl (by kernel_rfl) ?_;clear S;intro w16 hk13 hsel S
        refine Li [0,1,2,3,4,5,6,7,8,9,10,11,12] hsel (by kernel_rfl) rfl ?_
        clear hsel
        refine Gp S rfl (Rm (S.tm rfl)) rfl fun a S=>Gp S rfl (Kb (S.tm rfl) rfl) rfl fun a S=>Gp S rfl (Rm (S.tm rfl)) rfl ?_;clear S;intro a S
        iterate 8 (refine Pn S rfl rfl rfl rfl (Kp hb7) rfl ?_ rfl;clear S;intro a S)
        refine Gp S rfl (Ps hb7 (S.tm rfl) rfl) rfl fun a S=>Gp S rfl (Ra (S.tm rfl)) rfl fun a S=>Ij ?_
        replace S:=S.n0.k5 0 8 9 10 42 rfl
        exact Tn (⟨false,h,S.nf [] rfl (subR rfl)⟩)
      clear S h;rintro a w12 ⟨x1,h,S⟩;rw [hj5] at h;clear hj5 j5
      refine Tn (Fc h (S.tm rfl) (fun hb8 h=>?_) (fun hb8 h=>?_))
      ·refine Fr (Vk S rfl rfl fun a S=>Dl (wp_ret (Gq (Gq (Dv (Dv (Gq ?_)))))))
       refine Dv (Dv ?_)
       obtain rfl:=Option.some.inj h
       exact Et S results65 rfl rfl
      ·exact wp_skip (Hp (Hp (Tn (Fg (Vq S Gc rfl rfl rfl fun a S=>Vm S rfl rfl fun a S=>Dl (⟨ys1,⟨i1 + 1,⟨_,(hd1).trans (List.append_cons _ _ _),by simp [hi1]⟩,h,S.nf [] rfl ⟨rfl,rfl,rfl,(congrArg (fun z=>some (Value.int .i64 z)) (Ib hd1 hi1 (Jp Ai))),trivial⟩⟩,Nat.lt_succ_self _⟩))))))
  clear S h;rintro a w2 ⟨h,S⟩;rw [hj1] at h;clear hj1 j1
  refine Tn (Fr (Vm S rfl rfl ?_));clear S;intro a S
  obtain ⟨r4,hr7,h⟩:=Fa h
  refine Eb S (fun _=>Dq (vs:=[Ac]) ⟨(S.tm rfl),trivial⟩ call108) (FL _ Ac Aj (Ai.mono (S.le_arg Eg)) _ hr7) rfl ?_;clear S;intro v7 a w17 hv7 hk14 hn7 S
  subst hv7
  refine Va S rfl rfl fun a S=>Dl (wp_ret ?_)
  obtain rfl:=Option.some.inj h
  exact Et S results65 rfl rfl
theorem Yp (w : World) (Ao : Jx) (Ca : R28) (Cf : Xt (view w []) Ao Ca) (Ac : Value) (Aj : List Dj) (Ai : Slc (view w []) 5 Ac (Aj.map Dj.enc)) (r : Int) (h : Rh Ao Aj = some r) :
    Calls prog 28 [.agg (R28.enc Ca).toArray,Ac].toArray w (Ret w [] fun _ v _=>v = iV r):=by
 obtain ⟨u1,rfl,hs1⟩:=Cf
 refine Fe func28 rfl ntmps28 rfl fun a S=>?_
 unfold Rh at h
 replace S:=S.k2 0 1 rfl
 refine Fr (Lw S (S.tm rfl) (cs:=[u1.val,iV Ao.Relay,iV Ao.Most]) rfl rfl ?_);clear S;intro a w1 b1 hz1 hk1 S
 refine Vk S rfl rfl fun a S=>Dl (Fs (Fr (lv S (Fb isAgg28 sizeOf28 (off:=0) (o:=0) (part:=[u1.val,iV Ao.Relay,iV Ao.Most]) rfl rfl (S.tm rfl) (S.cellsAt (i:=0) rfl)) rfl ?_)));clear S;intro a S
 obtain ⟨r1,hr1,h⟩:=Fa h
 refine Eb S (fun _=>Dq (vs:=[.agg (R28.enc (R28.mk u1 Ao.Relay Ao.Most)).toArray]) ⟨(S.tm rfl),trivial⟩ call64) (Yk _ Ao (R28.mk u1 Ao.Relay Ao.Most) ⟨u1,rfl,(hs1.mono (S.le_arg Eg))⟩ _ hr1) rfl ?_;clear S;intro v1 a w2 hv1 hk2 hn1 S
 subst hv1
 refine Va S rfl rfl fun a S=>Dz (Vm S rfl rfl fun a S=>Vq S Mn rfl rfl rfl fun a S=>Dl (Fc h (S.tm rfl) (fun hb1 h=>?_) (fun hb1 h=>?_)))
 ·refine Fr (Vm S rfl rfl fun a S=>Va S rfl rfl fun a S=>Dl (wp_ret (Dv ?_)))
  obtain rfl:=Option.some.inj h
  exact Et S results28 rfl rfl
 ·refine wp_skip (Tn (Fr (Vm S rfl rfl ?_)));clear S;intro a S
  obtain ⟨r2,hr2,h⟩:=Fa h
  refine Eb S (fun _=>Dq (vs:=[Ac]) ⟨(S.tm rfl),trivial⟩ call65) (CJ _ Ac Aj (Ai.mono (S.le_arg Eg)) _ hr2) rfl ?_;clear S;intro v2 a w3 hv2 hk3 hn2 S
  subst hv2
  refine Va S rfl rfl fun a S=>Dl (wp_ret ?_)
  obtain rfl:=Option.some.inj h
  exact Et S results28 rfl rfl
theorem DL (w : World) (r : Dk) (h : Jm = r) :
    Calls prog 68 [].toArray w (Ret w [] fun _ v _=>v = .agg (Dk.enc r).toArray):=by
 refine Fe func68 rfl ntmps68 rfl fun a S=>?_
 unfold Jm at h
 replace S:=S.k0
 refine Fr (Hq S zeroValue48 (cs:=[iV 0,iV 0]) rfl rfl ?_);clear S;intro a w1 b1 hz1 hk1 S
 refine Dz (lv S (Nl TI (pv:=[(0,iV 0),(1,iV 1)]) ⟨rfl,rfl,rfl,rfl,trivial⟩ (cs:=[iV 0,iV 1]) (by kernel_rfl)) rfl fun a S=>Ex S (S.tm rfl) (S.tm rfl) (i:=0) (off:=0) rfl sizeOf48 (vs:=[iV 0,iV 1]) rfl rfl rfl rfl ?_);clear S;intro w2 hk2 S
 refine Dl (wp_ret ?_)
 subst h
 exact Xo S (rs:=[.cell 0 48]) (vs:=[.agg #[iV 0,iV 1]]) results68 ⟨(Tc (off:=0) S rfl isAgg48 sizeOf48 rfl (S.cellsAt (i:=0) rfl)),trivial⟩ rfl rfl
theorem Xi (w : World) (Ah : Int) (Ak : Int) (r : Dk) (h : Pk Ah Ak = some r) :
    Calls prog 112 [iV Ah,iV Ak].toArray w (Ret w [] fun _ v _=>v = .agg (Dk.enc r).toArray):=by
 refine Fe func112 rfl ntmps112 rfl fun a S=>?_
 unfold Pk at h
 replace S:=S.k2 0 1 rfl
 refine Fr (Hq S zeroValue48 (cs:=[iV 0,iV 0]) rfl rfl ?_);clear S;intro a w1 b1 hz1 hk1 S
 refine Dz (Vm S rfl rfl fun a S=>Vm S rfl rfl fun a S=>Va S rfl rfl fun a S=>Va S rfl rfl fun a S=>Dl (Fs ?_))
 replace S:=(S.nl [.blk b1 [iV 0,iV 0] 48] [true] rfl).k5 0 1 4 5 6 rfl
 obtain ⟨j1,hj1,h⟩:=Eu h
 refine Eh (fun a w'=>∃ x2 : Int,j1 x2 = some r ∧ Sx w [] nov [.blk b1 [iV 0,iV 0] 48] [(0,iV Ah),(1,iV Ak),(4,.pointer (some ⟨b1,0,none⟩)),(6,iV x2)] 22 a w') ?_ ?_
 ·refine wp_block (Gr (fun (m1 : Nat) a w'=>∃ x1 : Int,∃ x2 : Int,Mi j1 m1 x1 x2 = some r ∧ Sx w [] nov [.blk b1 [iV 0,iV 0] 48] [(0,iV Ah),(1,iV Ak),(4,.pointer (some ⟨b1,0,none⟩)),(5,iV x1),(6,iV x2)] 22 a w') id ((Ah - 0).toNat + 2) ⟨Ah,Ak,h,S.nf [true] rfl (subR rfl)⟩ ?_)
  clear S h;rintro m1 a w2 ⟨x1,x2,h,S⟩
  cases m1 with
  | zero=>rw [Mi.eq_1] at h;cases h
  | succ m1 =>
   rw [Mi.eq_2] at h
   refine Fs (Fr (Vm S rfl rfl fun a S=>Vq S Kb rfl rfl rfl fun a S=>Dl (Fc h (S.tm rfl) (fun hb1 h=>?_) (fun hb1 h=>?_))))
   ·refine wp_skip (Tn (wp_block (Fg (Vm S rfl rfl fun a S=>Vm S rfl rfl ?_))));clear S;intro a S
    obtain ⟨hc1,h⟩:=Ig h
    exact lv S (CM (S.tm rfl) (S.tm rfl) (Vy hc1)) rfl fun a S=>Vm S rfl rfl fun a S=>Va S rfl rfl fun a S=>Va S rfl rfl fun a S=>Ld (Hp (Tn (⟨m1,⟨Int.tmod x2 x1,x1,h,S.nf [true] rfl ⟨rfl,rfl,rfl,rfl,rfl,trivial⟩⟩,Nat.lt_succ_self _⟩)))
   ·exact wp_exit (Ed (Ed (Gn (Tn (⟨x2,h,S.nf [true] rfl (subR rfl)⟩)))))
 clear S h;rintro a w3 ⟨x2,h,S⟩;rw [hj1] at h;clear hj1 j1
 refine Tn (Fs ?_)
 obtain ⟨hc2,h⟩:=Ig h
 obtain ⟨hc3,h⟩:=Ig h
 refine Gt [] ([b1]) Tryz.mixed S rfl (by kernel_rfl) ?_;clear S;intro w5 hk3 hsel S
 refine Ea 0 S hsel rfl rfl rfl (by kernel_rfl) (by kernel_rfl) rfl (fun _ hw=>(Rm (S.tm rfl))) fun a S=>Ea 1 S hsel rfl rfl rfl (by kernel_rfl) (by kernel_rfl) rfl (fun _ hw=>(Rm (S.tm rfl))) fun a S=>Ea 2 S hsel rfl rfl rfl (by kernel_rfl) (by kernel_rfl) rfl (fun _ hw=>(EY (S.tm rfl) (S.tm rfl) (Vy hc2))) fun a S=>Ea 3 S hsel rfl rfl rfl (by kernel_rfl) (by kernel_rfl) rfl (fun _ hw=>(Rm (S.tm rfl))) fun a S=>Ea 4 S hsel rfl rfl rfl (by kernel_rfl) (by kernel_rfl) rfl (fun _ hw=>(Rm (S.tm rfl))) fun a S=>Ea 5 S hsel rfl rfl rfl (by kernel_rfl) (by kernel_rfl) rfl (fun _ hw=>(EY (S.tm rfl) (S.tm rfl) (Vy hc3))) fun a S=>Ea 6 S hsel rfl rfl rfl (by kernel_rfl) (by kernel_rfl) rfl (fun _ hw=>(Nl TI (pv:=[(0,iV (W (Int.tdiv Ah x2))),(1,iV (W (Int.tdiv Ak x2)))]) ⟨rfl,(S.tm rfl),rfl,(S.tm rfl),trivial⟩ (cs:=[iV (W (Int.tdiv Ah x2)),iV (W (Int.tdiv Ak x2))]) (by kernel_rfl))) fun a S=>Hb 7 (by kernel_rfl) rfl (Ex S (S.tm rfl) (S.tm rfl) (i:=0) (off:=0) rfl sizeOf48 (vs:=[iV (W (Int.tdiv Ah x2)),iV (W (Int.tdiv Ak x2))]) rfl rfl rfl rfl ?_);clear S;intro w6 hk4 S
 refine Ld (Hy hk4 (Vt (by kernel_rfl) ?_))
 clear hsel
 replace S:=(S.nl [.blk b1 [iV (W (Int.tdiv Ah x2)),iV (W (Int.tdiv Ak x2))] 48] [true] rfl).k1 4 rfl
 refine Tn (wp_ret ?_)
 obtain rfl:=Option.some.inj h
 exact Xo S (rs:=[.cell 4 48]) (vs:=[.agg #[iV (W (Int.tdiv Ah x2)),iV (W (Int.tdiv Ak x2))]]) results112 ⟨(Tc (off:=0) S rfl isAgg48 sizeOf48 rfl (S.cellsAt (i:=0) rfl)),trivial⟩ rfl rfl
set_option maxRecDepth 20000 in
theorem JW (w : World) (Ao : Jx) (Ca : R28) (Cf : Xt (view w []) Ao Ca) (Ac : Value) (Aj : List Dj) (Ai : Slc (view w []) 5 Ac (Aj.map Dj.enc)) (r : (List Dp)) (h : Qd Ao Aj = some r) :
    Calls prog 111 [.agg (R28.enc Ca).toArray,Ac].toArray w (Ret w [] fun τ v _=>Uq τ 143 7 v r.length (r.flatMap Dp.enc)):=by
 obtain ⟨u1,rfl,hs1⟩:=Cf
 refine Fe func111 rfl ntmps111 rfl fun a S=>?_
 unfold Qd at h
 replace S:=S.k2 0 1 rfl
 refine Fr (Lw S (S.tm rfl) (cs:=[u1.val,iV Ao.Relay,iV Ao.Most]) rfl rfl ?_);clear S;intro a w1 b1 hz1 hk1 S
 refine Vk S rfl rfl fun a S=>Dz (Vk S rfl rfl ?_);clear S;intro a S
 replace S:=S.nil 143 7
 refine Dz (Vk S rfl rfl ?_);clear S;intro a S
 replace S:=S.nil 3 1
 refine Dz (Rg (κ:=ByteArray) (ν:=Int) S rfl Value.string (Value.int .i64) ?_);clear S;intro a w2 b2 hz2 hk2 S
 refine Va S rfl rfl fun a S=>Dl (Fs (Fr (Vm S rfl rfl fun a S=>lv S (Gi Qh (S.tm rfl) (Gf Ai)) rfl fun a S=>lv S (Rm rfl) rfl fun a S=>Dl ?_)))
 replace S:=(S.nl [.map b2 (Fi Value.string (Value.int .i64) ([] : List (ByteArray × Int))) ([] : List (ByteArray × Int)).length,.own (.slice none 0 0) 3 1 ([] : List Int).length (([] : List Int).flatMap eInt),.own (.slice none 0 0) 143 7 ([] : List Dp).length (([] : List Dp).flatMap Dp.enc),.blk b1 [u1.val,iV Ao.Relay,iV Ao.Most] 28] [true,true,true,true] rfl).k8 1 2 5 6 7 16 17 18 rfl
 obtain ⟨j1,hj1,h⟩:=Eu h
 refine Eh (fun a w'=>∃ x1 : List (ByteArray × Int),∃ x2 : List Int,∃ x3 : List Dp,∃ v1 : Value,∃ v2 : Value,j1 x1 x2 x3 = some r ∧ Sx w [] nov [.map b2 (Fi Value.string (Value.int .i64) x1) x1.length,.own v1 3 1 x2.length (x2.flatMap eInt),.own v2 143 7 x3.length (x3.flatMap Dp.enc),.blk b1 [u1.val,iV Ao.Relay,iV Ao.Most] 28] [(1,Ac),(2,.pointer (some ⟨b1,0,none⟩)),(5,v2),(6,v1)] 132 a w') ?_ ?_
 ·refine wp_block (Gr (fun (ys1 : List Dj) a w'=>∃ i1 : Nat,∃ x1 : List (ByteArray × Int),∃ x2 : List Int,∃ x3 : List Dp,∃ v1 : Value,∃ v2 : Value,(∃ dn,Aj = dn ++ ys1 ∧ dn.length = i1) ∧ Lo Ao j1 ys1 i1 x1 x2 x3 = some r ∧ Sx w [] nov [.map b2 (Fi Value.string (Value.int .i64) x1) x1.length,.own v1 3 1 x2.length (x2.flatMap eInt),.own v2 143 7 x3.length (x3.flatMap Dp.enc),.blk b1 [u1.val,iV Ao.Relay,iV Ao.Most] 28] [(1,Ac),(2,.pointer (some ⟨b1,0,none⟩)),(5,v2),(6,v1),(7,.map (some b2)),(16,Ac),(17,iV (Aj.length : Int)),(18,iV (i1 : Int))] 132 a w') List.length Aj ⟨0,([] : List (ByteArray × Int)),([] : List Int),([] : List Dp),(.slice none 0 0),(.slice none 0 0),⟨[],rfl,rfl⟩,h,S.nf [true,true,true,true] rfl (subR rfl)⟩ ?_)
  clear S h;rintro ys1 a w3 ⟨i1,x1,x2,x3,v1,v2,⟨dn,hd1,hi1⟩,h,S⟩
  cases ys1 with
  | nil =>
   rw [Lo.eq_1] at h
   refine Fr (Vb S Es rfl rfl rfl fun a S=>Ld ?_)
   replace S:=S.k9 1 2 5 6 7 16 17 18 19 rfl
   exact Tn (Fs (wp_cond_false ((S.tm rfl).trans (congrArg Value.bool (Jd hd1 hi1))) (wp_exit (Ed (Ed (Gn (Tn (⟨x1,x2,x3,v1,v2,h,S.nf [true,true,true,true] rfl (subR rfl)⟩))))))))
  | cons y1 ys1 =>
   rw [Lo.eq_2] at h
   refine Fr (Vb S Es rfl rfl rfl fun a S=>Ld ?_)
   replace S:=S.k9 1 2 5 6 7 16 17 18 19 rfl
   refine Tn (Fs (wp_cond_true ((S.tm rfl).trans (congrArg Value.bool (Ia hd1 hi1))) (wp_skip (Tn (Fs ?_)))))
   obtain ⟨j2,hj2,h⟩:=Eu h
   refine Eh (fun a w'=>∃ x4 : List (ByteArray × Int),∃ x5 : List Int,∃ x6 : List Dp,∃ v3 : Value,∃ v4 : Value,j2 x4 x5 x6 = some r ∧ Sx w [] nov [.map b2 (Fi Value.string (Value.int .i64) x4) x4.length,.own v3 3 1 x5.length (x5.flatMap eInt),.own v4 143 7 x6.length (x6.flatMap Dp.enc),.blk b1 [u1.val,iV Ao.Relay,iV Ao.Most] 28] [(1,Ac),(2,.pointer (some ⟨b1,0,none⟩)),(5,v4),(6,v3),(7,.map (some b2)),(16,Ac),(17,iV (Aj.length : Int)),(18,iV (i1 : Int))] 132 a w') ?_ ?_
   ·refine wp_block (Fs (Fg ?_))
    obtain ⟨b3,o1,hm1,hr1⟩:=Fk (a:=a) (x:=.tmp 16) (y:=.tmp 18) (ty:=0) Qh Ai (Jc hd1 hi1) rfl (S.tm rfl) (S.tm rfl)
    refine lv S (hr1 _) rfl ?_;clear S;intro a S
    clear hr1
    refine lv S (Fb isAgg52 sizeOf52 (off:=o1) (o:=0) (part:=(Dj.enc y1)) rfl rfl (S.tm rfl) (hm1.at S.emb0)) rfl fun a S=>Hq S zeroValue52 (cs:=[sV An,sV An,sV An,iV 0,bV false]) rfl rfl ?_;clear S;intro a w6 b4 hz3 hk3 S
    refine Ex S (S.tm rfl) (S.tm rfl) (i:=0) (off:=0) rfl sizeOf52 (vs:=(Dj.enc y1)) rfl rfl rfl rfl ?_;clear S;intro w7 hk4 S
    refine Dl (Fs (Fr (Vf Qa S rfl rfl fun a S=>Vl isAgg3 0 S rfl rfl rfl rfl fun a S=>Vq S Jk rfl rfl rfl fun a S=>Vm S rfl rfl fun a S=>Iy 4 (fun a w'=>Keep [] w7 w' ∧ Sx w [] nov [.blk b4 (Dj.enc y1) 52,.map b2 (Fi Value.string (Value.int .i64) x1) x1.length,.own v1 3 1 x2.length (x2.flatMap eInt),.own v2 143 7 x3.length (x3.flatMap Dp.enc),.blk b1 [u1.val,iV Ao.Relay,iV Ao.Most] 28] [(1,Ac),(2,.pointer (some ⟨b1,0,none⟩)),(5,v2),(6,v1),(7,.map (some b2)),(9,.pointer (some ⟨b4,0,none⟩)),(16,Ac),(17,iV (Aj.length : Int)),(18,iV (i1 : Int)),(29,bV ((decide (y1.Rank = 0)) || (decide (y1.Club = An))))] 132 a w') ?_ ?_)))
    ·rcases Bool.eq_false_or_eq_true (decide (y1.Rank = 0)) with hb1 | hb1
     ·iterate 3 (refine Ht S rfl rfl rfl (Oa hb1) rfl ?_ rfl;clear S;intro a S)
      exact lv S (Mo (decide (y1.Club = An)) hb1 (S.tm rfl) rfl) rfl fun a S=>Dl (⟨Keep.refl _ _,S.nf [true,true,true,true,true] rfl (subR rfl)⟩)
     ·exact Dy S rfl rfl rfl hb1 (Vf Yv S rfl rfl fun a S=>Dy S rfl rfl rfl hb1 (Vl isAgg9 0 S rfl rfl rfl rfl fun a S=>Dy S rfl rfl rfl hb1 (Vq S Xy rfl rfl rfl fun a S=>lv S (Mp hb1 (S.tm rfl) (S.tm rfl)) rfl fun a S=>Dl (⟨Keep.refl _ _,S.nf [true,true,true,true,true] rfl (subR rfl)⟩))))
    clear S;rintro a w8 ⟨hk5,S⟩
    refine Dl (Fc h (S.tm rfl) (fun hb2 h=>?_) (fun hb2 h=>?_))
    ·exact wp_exit (Ed (Gn (Tn (⟨x1,x2,x3,v1,v2,h,S.nf [false,true,true,true,true] rfl (subR rfl)⟩))))
    ·refine wp_skip (Tn (Fs (Fr (Vm S rfl rfl fun a S=>Vf Yv S rfl rfl fun a S=>Vl isAgg9 0 S rfl rfl rfl rfl fun a S=>lv S (Pt (kv:=Value.string) (vv:=(Value.int .i64)) (m:=x1) (key:=y1.Club) (z:=0) (S.map_at (i:=1) rfl) underlying99 (Lm underlying9) zeroValue3 (S.tm rfl) (S.tm rfl)) rfl fun a S=>Vq S Gc rfl rfl rfl fun a S=>Nm (kv:=Value.string) (vv:=(Value.int .i64)) (m:=x1) (key:=y1.Club) (val:=W ((Ec x1 y1.Club 0) + 1)) S (i:=1) rfl underlying99 (Lm underlying9) (S.tm rfl) (S.tm rfl) (S.tm rfl) ?_))));clear S;intro w9 hk6 S
     refine Ld ?_
     replace S:=(S.nl [.blk b4 (Dj.enc y1) 52,.map b2 (Fi Value.string (Value.int .i64) (Gk x1 y1.Club (W ((Ec x1 y1.Club 0) + 1)))) (Gk x1 y1.Club (W ((Ec x1 y1.Club 0) + 1))).length,.own v1 3 1 x2.length (x2.flatMap eInt),.own v2 143 7 x3.length (x3.flatMap Dp.enc),.blk b1 [u1.val,iV Ao.Relay,iV Ao.Most] 28] [true,true,true,true,true] rfl).k9 1 2 5 6 7 9 16 17 18 rfl
     refine Tn (Fr (Vf NN S rfl rfl fun a S=>Vl isAgg3 4 S rfl rfl rfl rfl fun a S=>Vq S Jk rfl rfl rfl fun a S=>Vm S rfl rfl fun a S=>Iy 8 (fun a w'=>Keep [] w9 w' ∧ Sx w [] nov [.blk b4 (Dj.enc y1) 52,.map b2 (Fi Value.string (Value.int .i64) (Gk x1 y1.Club (W ((Ec x1 y1.Club 0) + 1)))) (Gk x1 y1.Club (W ((Ec x1 y1.Club 0) + 1))).length,.own v1 3 1 x2.length (x2.flatMap eInt),.own v2 143 7 x3.length (x3.flatMap Dp.enc),.blk b1 [u1.val,iV Ao.Relay,iV Ao.Most] 28] [(1,Ac),(2,.pointer (some ⟨b1,0,none⟩)),(5,v2),(6,v1),(7,.map (some b2)),(9,.pointer (some ⟨b4,0,none⟩)),(16,Ac),(17,iV (Aj.length : Int)),(18,iV (i1 : Int)),(46,bV ((decide (Ao.Most = 0)) || (decide ((Ec (Gk x1 y1.Club (W ((Ec x1 y1.Club 0) + 1))) y1.Club 0) ≤ Ao.Most))))] 132 a w') ?_ ?_))
     ·rcases Bool.eq_false_or_eq_true (decide (Ao.Most = 0)) with hb3 | hb3
      ·iterate 7 (refine Ht S rfl rfl rfl (Oa hb3) rfl ?_ rfl;clear S;intro a S)
       exact lv S (Mo (decide ((Ec (Gk x1 y1.Club (W ((Ec x1 y1.Club 0) + 1))) y1.Club 0) ≤ Ao.Most)) hb3 (S.tm rfl) rfl) rfl fun a S=>Dl (⟨Keep.refl _ _,S.nf [true,true,true,true,true] rfl (subR rfl)⟩)
      ·refine Dy S rfl rfl rfl hb3 (Vm S rfl rfl fun a S=>Dy S rfl rfl rfl hb3 (Vf Yv S rfl rfl fun a S=>Dy S rfl rfl rfl hb3 (Vl isAgg9 0 S rfl rfl rfl rfl fun a S=>Dy S rfl rfl rfl hb3 (lv S (Pt (kv:=Value.string) (vv:=(Value.int .i64)) (m:=(Gk x1 y1.Club (W ((Ec x1 y1.Club 0) + 1)))) (key:=y1.Club) (z:=0) (S.map_at (i:=1) rfl) underlying99 (Lm underlying9) zeroValue3 (S.tm rfl) (S.tm rfl)) rfl fun a S=>Dy S rfl rfl rfl hb3 (Vf NN S rfl rfl fun a S=>Dy S rfl rfl rfl hb3 ?_)))))
       exact Vl isAgg3 4 S rfl rfl rfl rfl fun a S=>Dy S rfl rfl rfl hb3 (Vb S Uj rfl rfl rfl fun a S=>lv S (Mp hb3 (S.tm rfl) (S.tm rfl)) rfl fun a S=>Dl (⟨Keep.refl _ _,S.nf [true,true,true,true,true] rfl (subR rfl)⟩))
     clear S;rintro a w10 ⟨hk7,S⟩
     refine Dl ?_
     obtain ⟨j3,hj3,h⟩:=Eu h
     refine Eh (fun a w'=>∃ x7 : List Int,∃ v5 : Value,j3 x7 = some r ∧ Sx w [] nov [.blk b4 (Dj.enc y1) 52,.map b2 (Fi Value.string (Value.int .i64) (Gk x1 y1.Club (W ((Ec x1 y1.Club 0) + 1)))) (Gk x1 y1.Club (W ((Ec x1 y1.Club 0) + 1))).length,.own v5 3 1 x7.length (x7.flatMap eInt),.own v2 143 7 x3.length (x3.flatMap Dp.enc),.blk b1 [u1.val,iV Ao.Relay,iV Ao.Most] 28] [(1,Ac),(2,.pointer (some ⟨b1,0,none⟩)),(5,v2),(6,v5),(7,.map (some b2)),(9,.pointer (some ⟨b4,0,none⟩)),(16,Ac),(17,iV (Aj.length : Int)),(18,iV (i1 : Int))] 132 a w') ?_ ?_
     ·refine Fc h (S.tm rfl) (fun hb4 h=>?_) (fun hb4 h=>?_)
      ·refine Fg (Vm S rfl rfl fun a S=>Vm S rfl rfl fun a S=>lv S (Gi AM (S.tm rfl) (Pb (S.own_at (i:=3) rfl))) rfl fun a S=>Ey S underlying22 sizeOf3 zeroValue3 rfl rfl (pv:=[(0,iV (x3.length : Int))]) ⟨rfl,(S.tm rfl),trivial⟩ (cs:=[iV (x3.length : Int)]) (by kernel_rfl) rfl ?_);clear S;intro a w12 b5 hz4 hk8 S
       obtain ⟨hc1,h⟩:=Ig h
       refine Ni Qg Jf S (S.tm rfl) (i:=3) rfl (S.tm rfl) (j:=0) rfl (ys:=[(x3.length : Int)]) rfl rfl rfl rfl (by have:=Nu hc1;omega) rfl ?_;clear S;intro v6 a w13 hk9 S
       refine Va S rfl rfl fun a S=>Ld ?_
       replace S:=(S.nl [.blk b4 (Dj.enc y1) 52,.map b2 (Fi Value.string (Value.int .i64) (Gk x1 y1.Club (W ((Ec x1 y1.Club 0) + 1)))) (Gk x1 y1.Club (W ((Ec x1 y1.Club 0) + 1))).length,.own v6 3 1 (x2 ++ [(x3.length : Int)]).length ((x2 ++ [(x3.length : Int)]).flatMap eInt),.own v2 143 7 x3.length (x3.flatMap Dp.enc),.blk b1 [u1.val,iV Ao.Relay,iV Ao.Most] 28] [false,true,true,true,true,true] rfl).k9 1 2 5 6 7 9 16 17 18 rfl
       exact Tn (⟨(x2 ++ [(x3.length : Int)]),v6,h,S.nf [true,true,true,true,true] rfl (subR rfl)⟩)
      ·exact wp_skip (Tn (⟨x2,v1,h,S.nf [true,true,true,true,true] rfl (subR rfl)⟩))
     clear S h;rintro a w11 ⟨x7,v5,h,S⟩;rw [hj3] at h;clear hj3 j3
     refine Tn ?_
     obtain ⟨hc2,h⟩:=Ig h
     refine Gt [] (v2.ownBlock.toList) Tryz.mixed S rfl (by kernel_rfl) ?_;clear S;intro w17 hk13 hsel S
     refine Ea 0 S hsel rfl rfl rfl (by kernel_rfl) (by kernel_rfl) rfl (fun _ hw=>(Rm (S.tm rfl))) fun a S=>Ea 1 S hsel rfl rfl rfl (by kernel_rfl) (by kernel_rfl) rfl (fun _ hw=>(Fb isAgg52 sizeOf52 (off:=0) (o:=0) (part:=(Dj.enc y1)) rfl rfl (S.tm rfl) ((S.blk_mem (i:=0) (cells:=(Dj.enc y1)) (b:=b4) (T:=52) rfl (Nc (i:=3) (j:=0) (e:=.own v2 143 7 x3.length (x3.flatMap Dp.enc)) (e':=.blk b4 (Dj.enc y1) 52) S rfl rfl rfl)).kept hw))) fun a S=>Hb 2 (by kernel_rfl) rfl (Eb S (fun _=>Dq (vs:=[]) trivial call68) (DL _ _ rfl) rfl ?_);clear S;intro v9 a w18 hv2 hk14 hn2 S
     subst hv2
     refine Ld (Hy (Keep.none hk14) (Ea 3 S hsel rfl rfl rfl (by kernel_rfl) (by kernel_rfl) rfl (fun _ hw=>(Nl bt_143 (pv:=[(0,.agg (Dj.enc y1).toArray),(1,.agg (Dk.enc Jm).toArray)]) ⟨rfl,(S.tm rfl),rfl,(S.tm rfl),trivial⟩ (cs:=[sV y1.Race,sV y1.Who,sV y1.Club,iV y1.Rank,bV y1.Relay,iV Jm.Num,iV Jm.Den]) (by kernel_rfl))) fun a S=>Hb 4 (by kernel_rfl) rfl (Ey S underlying140 sizeOf143 zeroValue143 rfl rfl (pv:=[(0,.agg (Dp.enc (Dp.mk y1 Jm)).toArray)]) ⟨rfl,(S.tm rfl),trivial⟩ (cs:=[sV y1.Race,sV y1.Who,sV y1.Club,iV y1.Rank,bV y1.Relay,iV Jm.Num,iV Jm.Den]) (by kernel_rfl) rfl ?_)));clear S;intro a w19 b7 hz6 hk15 S
     refine Ld (Hy (Keep.none hk15) (Hb 5 (by kernel_rfl) rfl ?_))
     refine Ni AM Dp.enc_ok S (S.tm rfl) (i:=4) rfl (S.tm rfl) (j:=0) rfl (ys:=[(Dp.mk y1 Jm)]) rfl rfl rfl rfl (by have:=Nu hc2;omega) rfl ?_;clear S;intro v10 a w20 hk16 S
     refine Ld (Hy hk16 (Li [6] hsel (by kernel_rfl) rfl ?_))
     clear hsel
     refine Gp S rfl (Ra (S.tm rfl)) rfl fun a S=>Ij ?_
     replace S:=(S.nl [.map b2 (Fi Value.string (Value.int .i64) (Gk x1 y1.Club (W ((Ec x1 y1.Club 0) + 1)))) (Gk x1 y1.Club (W ((Ec x1 y1.Club 0) + 1))).length,.own v5 3 1 x7.length (x7.flatMap eInt),.own v10 143 7 (x3 ++ [(Dp.mk y1 Jm)]).length ((x3 ++ [(Dp.mk y1 Jm)]).flatMap Dp.enc),.blk b1 [u1.val,iV Ao.Relay,iV Ao.Most] 28] [false,false,true,true,true,true] rfl).k8 1 2 5 6 7 16 17 18 rfl
     exact Hp (Tn (⟨(Gk x1 y1.Club (W ((Ec x1 y1.Club 0) + 1))),x7,(x3 ++ [(Dp.mk y1 Jm)]),v5,v10,h,S.nf [true,true,true,true] rfl (subR rfl)⟩))
   clear S h;rintro a w5 ⟨x4,x5,x6,v3,v4,h,S⟩;rw [hj2] at h;clear hj2 j2
   exact Tn (Fg (Vq S Gc rfl rfl rfl fun a S=>Vm S rfl rfl fun a S=>Dl (⟨ys1,⟨i1 + 1,x4,x5,x6,v3,v4,⟨_,(hd1).trans (List.append_cons _ _ _),by simp [hi1]⟩,h,S.nf [true,true,true,true] rfl ⟨rfl,rfl,rfl,rfl,rfl,rfl,rfl,(congrArg (fun z=>some (Value.int .i64 z)) (Ib hd1 hi1 (Jp Ai))),trivial⟩⟩,Nat.lt_succ_self _⟩)))
 clear S h;rintro a w4 ⟨x1,x2,x3,v1,v2,h,S⟩;rw [hj1] at h;clear hj1 j1
 refine Tn (Fs (Fr (Vk S rfl rfl fun a S=>Dl ?_)))
 replace S:=S.d0.k5 1 2 5 6 10 rfl
 obtain ⟨j4,hj4,h⟩:=Eu h
 refine Eh (fun a w'=>∃ x8 : List Dp,∃ v11 : Value,j4 x8 = some r ∧ Sx w [] nov [.own v1 3 1 x2.length (x2.flatMap eInt),.own v11 143 7 x8.length (x8.flatMap Dp.enc),.blk b1 [u1.val,iV Ao.Relay,iV Ao.Most] 28] [(5,v11)] 132 a w') ?_ ?_
 ·refine wp_block (Gr (fun (m1 : Nat) a w'=>∃ x8 : List Dp,∃ x9 : Int,∃ v11 : Value,Jo x2 Aj Ao j4 m1 x8 x9 = some r ∧ Sx w [] nov [.own v1 3 1 x2.length (x2.flatMap eInt),.own v11 143 7 x8.length (x8.flatMap Dp.enc),.blk b1 [u1.val,iV Ao.Relay,iV Ao.Most] 28] [(1,Ac),(2,.pointer (some ⟨b1,0,none⟩)),(5,v11),(6,v1),(10,iV x9)] 132 a w') id (((x2.length : Int) - 0).toNat + 2) ⟨x3,0,v2,h,S.nf [true,true,true] rfl (subR rfl)⟩ ?_)
  clear S h;rintro m1 a w21 ⟨x8,x9,v11,h,S⟩
  cases m1 with
  | zero=>rw [Jo.eq_1] at h;cases h
  | succ m1 =>
   rw [Jo.eq_2] at h
   refine Fs (Fr (Vm S rfl rfl fun a S=>Vm S rfl rfl fun a S=>lv S (Gi Qg (S.tm rfl) (Pb (S.own_at (i:=0) rfl))) rfl fun a S=>Vb S Es rfl rfl rfl fun a S=>Dl (Fc h (S.tm rfl) (fun hb5 h=>?_) (fun hb5 h=>?_))))
   ·refine wp_skip (Tn (wp_block (Fr (Vm S rfl rfl fun a S=>Va S rfl rfl fun a S=>Vk S rfl rfl fun a S=>Dl (Fs ?_)))))
    replace S:=S.k7 1 2 5 6 10 11 12 rfl
    obtain ⟨j5,hj5,h⟩:=Eu h
    refine Eh (fun a w'=>∃ x10 : Int,∃ x11 : Int,j5 x10 x11 = some r ∧ Sx w [] nov [.own v1 3 1 x2.length (x2.flatMap eInt),.own v11 143 7 x8.length (x8.flatMap Dp.enc),.blk b1 [u1.val,iV Ao.Relay,iV Ao.Most] 28] [(1,Ac),(2,.pointer (some ⟨b1,0,none⟩)),(5,v11),(6,v1),(10,iV x9),(11,iV x10),(12,iV x11)] 132 a w') ?_ ?_
    ·refine wp_block (Gr (fun (m2 : Nat) a w'=>∃ x10 : Int,∃ x11 : Int,Km Ao x2 x8 x9 j5 m2 x10 x11 = some r ∧ Sx w [] nov [.own v1 3 1 x2.length (x2.flatMap eInt),.own v11 143 7 x8.length (x8.flatMap Dp.enc),.blk b1 [u1.val,iV Ao.Relay,iV Ao.Most] 28] [(1,Ac),(2,.pointer (some ⟨b1,0,none⟩)),(5,v11),(6,v1),(10,iV x9),(11,iV x10),(12,iV x11)] 132 a w') id (((x2.length : Int) - x9).toNat + 2) ⟨x9,0,h,S.nf [true,true,true] rfl (subR rfl)⟩ ?_)
     clear S h;rintro m2 a w23 ⟨x10,x11,h,S⟩
     cases m2 with
     | zero=>rw [Km.eq_1] at h;cases h
     | succ m2 =>
      rw [Km.eq_2] at h
      refine Fs (Fs (Gt [] ([]) Tryz.mixed S rfl (by kernel_rfl) ?_));clear S;intro w25 hk17 hsel S
      refine Li [0,1,2,3,4,5,6,7,8,9,10,11,12,13,14,15,16,17,18,19,20,21,22,23,24] hsel (by kernel_rfl) rfl ?_
      clear hsel
      refine Gp S rfl (Rm (S.tm rfl)) rfl fun a S=>Gp S rfl (Rm (S.tm rfl)) rfl fun a S=>Gp S rfl (Gi Qg (S.tm rfl) (Pb (S.own_at (i:=0) rfl))) rfl fun a S=>Gp S rfl (Es (S.tm rfl) (S.tm rfl)) rfl fun a S=>Gp S rfl (Rm (S.tm rfl)) rfl ?_;clear S;intro a S
      obtain ⟨j6,hj6,h⟩:=Eu h
      refine Ym 20 (fun a w'=>∃ c1,j6 c1 = some r ∧ Keep [] w25 w' ∧ Sx w [] nov [.own v1 3 1 x2.length (x2.flatMap eInt),.own v11 143 7 x8.length (x8.flatMap Dp.enc),.blk b1 [u1.val,iV Ao.Relay,iV Ao.Most] 28] [(1,Ac),(2,.pointer (some ⟨b1,0,none⟩)),(5,v11),(6,v1),(10,iV x9),(11,iV x10),(12,iV x11),(88,bV c1)] 132 a w') ?_ ?_
      ·rcases Bool.eq_false_or_eq_true (decide (x10 < (x2.length : Int))) with hb6 | hb6
       ·replace h:=Ti h hb6
        refine Fj S rfl rfl rfl rfl hb6 (Ha S (Rm (S.tm rfl)) rfl fun a S=>Fj S rfl rfl rfl rfl hb6 (Ha S (Rm (S.tm rfl)) rfl fun a S=>Fj S rfl rfl rfl rfl hb6 (Ha S (Rm (S.tm rfl)) rfl fun a S=>Fj S rfl rfl rfl rfl hb6 ?_)))
        obtain ⟨hc3,h⟩:=Ig h
        obtain ⟨b8,hg1,hr2⟩:=Gh (a:=a) (x:=.tmp 70) (y:=.tmp 71) (ty:=0) Qg Jf S (i:=0) rfl (Dw hc3).1 (Dw hc3).2 (S.tm rfl) (S.tm rfl)
        refine Ha S (hr2 _) rfl ?_;clear S;intro a S
        clear hr2
        refine Fj S rfl rfl rfl rfl hb6 (Ha S (Hx isAgg3 (off:=x10.toNat * 1) (o:=0) (S.tm rfl) (Uf Jf S (i:=0) rfl hg1 (Dw hc3).1) rfl) rfl fun a S=>Fj S rfl rfl rfl rfl hb6 ?_)
        obtain ⟨hc4,h⟩:=Ig h
        obtain ⟨b9,hg2,hr3⟩:=Gh (a:=a) (x:=.tmp 69) (y:=.tmp 73) (ty:=0) AM Dp.enc_ok S (i:=1) rfl (Dw hc4).1 (Dw hc4).2 (S.tm rfl) (S.tm rfl)
        refine Ha S (hr3 _) rfl ?_;clear S;intro a S
        clear hr3
        refine Fj S rfl rfl rfl rfl hb6 (Ha S (Gd AS (S.tm rfl)) rfl fun a S=>Fj S rfl rfl rfl rfl hb6 (Ha S (Gd Qa (S.tm rfl)) rfl fun a S=>Fj S rfl rfl rfl rfl hb6 (Ha S (Hx isAgg3 (off:=((nth x2 x10).toNat) * 7) (o:=3) (S.tm rfl) (Uf Dp.enc_ok S (i:=1) rfl hg2 (Dw hc4).1) rfl) rfl fun a S=>Fj S rfl rfl rfl rfl hb6 (Ha S (Rm (S.tm rfl)) rfl fun a S=>Fj S rfl rfl rfl rfl hb6 (Ha S (Rm (S.tm rfl)) rfl fun a S=>Fj S rfl rfl rfl rfl hb6 ?_)))))
        refine Ha S (Rm (S.tm rfl)) rfl fun a S=>Fj S rfl rfl rfl rfl hb6 ?_
        obtain ⟨hc5,h⟩:=Ig h
        obtain ⟨b10,hg3,hr4⟩:=Gh (a:=a) (x:=.tmp 79) (y:=.tmp 80) (ty:=0) Qg Jf S (i:=0) rfl (Dw hc5).1 (Dw hc5).2 (S.tm rfl) (S.tm rfl)
        refine Ha S (hr4 _) rfl ?_;clear S;intro a S
        clear hr4
        refine Fj S rfl rfl rfl rfl hb6 (Ha S (Hx isAgg3 (off:=x9.toNat * 1) (o:=0) (S.tm rfl) (Uf Jf S (i:=0) rfl hg3 (Dw hc5).1) rfl) rfl fun a S=>Fj S rfl rfl rfl rfl hb6 ?_)
        obtain ⟨hc6,h⟩:=Ig h
        obtain ⟨b11,hg4,hr5⟩:=Gh (a:=a) (x:=.tmp 78) (y:=.tmp 82) (ty:=0) AM Dp.enc_ok S (i:=1) rfl (Dw hc6).1 (Dw hc6).2 (S.tm rfl) (S.tm rfl)
        refine Ha S (hr5 _) rfl ?_;clear S;intro a S
        clear hr5
        exact Fj S rfl rfl rfl rfl hb6 (Ha S (Gd AS (S.tm rfl)) rfl fun a S=>Fj S rfl rfl rfl rfl hb6 (Ha S (Gd Qa (S.tm rfl)) rfl fun a S=>Fj S rfl rfl rfl rfl hb6 (Ha S (Hx isAgg3 (off:=((nth x2 x9).toNat) * 7) (o:=3) (S.tm rfl) (Uf Dp.enc_ok S (i:=1) rfl hg4 (Dw hc6).1) rfl) rfl fun a S=>Fj S rfl rfl rfl rfl hb6 (Ha S (Jk (S.tm rfl) (S.tm rfl)) rfl fun a S=>Gp S rfl (Io hb6 (S.tm rfl) (S.tm rfl)) rfl fun a S=>Ij (⟨_,h,Keep.refl _ _,S.nf [true,true,true] rfl (subR rfl)⟩)))))
       ·replace h:=Tj h hb6
        iterate 19 (refine Pn S rfl rfl rfl rfl (Kp hb6) rfl ?_ rfl;clear S;intro a S)
        exact Gp S rfl (Ip true hb6 (S.tm rfl) rfl) rfl fun a S=>Ij (⟨_,h,Keep.refl _ _,S.nf [true,true,true] rfl (subR rfl)⟩)
      clear S h;rintro a w26 ⟨c1,h,hk18,S⟩;rw [hj6] at h;clear hj6 j6
      refine Ij ?_
      replace S:=S.k8 1 2 5 6 10 11 12 88 rfl
      refine Tn (Fc h (S.tm rfl) (fun hb7 h=>?_) (fun hb7 h=>?_))
      ·refine wp_skip (Tn (Fs ?_))
       obtain ⟨j7,hj7,h⟩:=Eu h
       refine Eh (fun a w'=>∃ x12 : Int,j7 x12 = some r ∧ Sx w [] nov [.own v1 3 1 x2.length (x2.flatMap eInt),.own v11 143 7 x8.length (x8.flatMap Dp.enc),.blk b1 [u1.val,iV Ao.Relay,iV Ao.Most] 28] [(1,Ac),(2,.pointer (some ⟨b1,0,none⟩)),(5,v11),(6,v1),(10,iV x9),(11,iV x10),(12,iV x12)] 132 a w') ?_ ?_
       ·refine wp_block (Fr (Vm S rfl rfl fun a S=>Vf BT S rfl rfl fun a S=>Vl isAgg22 2 S rfl rfl rfl rfl fun a S=>lv S (Gi Qg (S.tm rfl) (Gf hs1)) rfl fun a S=>Vb S Es rfl rfl rfl fun a S=>Dl ?_))
        obtain ⟨j8,hj8,h⟩:=Eu h
        refine Eh (fun a w'=>∃ x13 : Int,j8 x13 = some r ∧ Sx w [] nov [.own v1 3 1 x2.length (x2.flatMap eInt),.own v11 143 7 x8.length (x8.flatMap Dp.enc),.blk b1 [u1.val,iV Ao.Relay,iV Ao.Most] 28] [(1,Ac),(2,.pointer (some ⟨b1,0,none⟩)),(5,v11),(6,v1),(10,iV x9),(11,iV x10),(12,iV x13)] 132 a w') ?_ ?_
        ·refine Fc h (S.tm rfl) (fun hb8 h=>?_) (fun hb8 h=>?_)
         ·refine Fg (Vm S rfl rfl fun a S=>Vf BT S rfl rfl fun a S=>Vl isAgg22 2 S rfl rfl rfl rfl fun a S=>Vm S rfl rfl ?_);clear S;intro a S
          obtain ⟨hc7,h⟩:=Ig h
          obtain ⟨b12,o6,hm6,hr6⟩:=Fk (a:=a) (x:=.tmp 98) (y:=.tmp 99) (ty:=0) Qg hs1 (Dw hc7).1 (Dw hc7).2 (S.tm rfl) (S.tm rfl)
          refine lv S (hr6 _) rfl ?_;clear S;intro a S
          clear hr6
          refine lv S (Hx isAgg3 (off:=o6) (o:=0) (S.tm rfl) (hm6.at S.emb0) rfl) rfl fun a S=>Vb S Gc rfl rfl rfl fun a S=>Va S rfl rfl fun a S=>Ld ?_
          replace S:=S.k7 1 2 5 6 10 11 12 rfl
          exact Tn (⟨W (x11 + (nth Ao.Points x10)),h,S.nf [true,true,true] rfl (subR rfl)⟩)
         ·exact wp_skip (Tn (⟨x11,h,S.nf [true,true,true] rfl (subR rfl)⟩))
        clear S h;rintro a w28 ⟨x13,h,S⟩;rw [hj8] at h;clear hj8 j8
        exact Hp (Tn (⟨x13,h,S.nf [true,true,true] rfl (subR rfl)⟩))
       clear S h;rintro a w27 ⟨x12,h,S⟩;rw [hj7] at h;clear hj7 j7
       exact Tn (Fg (Vm S rfl rfl fun a S=>Vq S Gc rfl rfl rfl fun a S=>Va S rfl rfl fun a S=>Dl (⟨m2,⟨W (x10 + 1),x12,h,S.nf [true,true,true] rfl ⟨rfl,rfl,rfl,rfl,rfl,rfl,rfl,trivial⟩⟩,Nat.lt_succ_self _⟩)))
      ·exact wp_exit (Ed (Ed (Gn (Tn (⟨x10,x11,h,S.nf [true,true,true] rfl (subR rfl)⟩)))))
    clear S h;rintro a w24 ⟨x10,x11,h,S⟩;rw [hj5] at h;clear hj5 j5
    refine Tn (Fs (Fr (Vm S rfl rfl ?_)));clear S;intro a S
    obtain ⟨hc8,h⟩:=Ig h
    obtain ⟨b13,o7,hm7,hr7⟩:=Fk (a:=a) (x:=.tmp 103) (y:=.const (iV 0)) (ty:=0) Qh Ai (Dw hc8).1 (Dw hc8).2 (S.tm rfl) rfl
    refine lv S (hr7 _) rfl ?_;clear S;intro a S
    clear hr7
    refine Vf NT S rfl rfl fun a S=>lv S (Hx isAgg4 (off:=o7) (o:=4) (S.tm rfl) (hm7.at S.emb0) rfl) rfl fun a S=>Dl ?_
    obtain ⟨j9,hj9,h⟩:=Eu h
    refine Eh (fun a w'=>∃ x14 : Int,j9 x14 = some r ∧ Sx w [] nov [.own v1 3 1 x2.length (x2.flatMap eInt),.own v11 143 7 x8.length (x8.flatMap Dp.enc),.blk b1 [u1.val,iV Ao.Relay,iV Ao.Most] 28] [(1,Ac),(2,.pointer (some ⟨b1,0,none⟩)),(5,v11),(6,v1),(10,iV x9),(11,iV x10),(12,iV x14)] 132 a w') ?_ ?_
    ·refine Fc h (S.tm rfl) (fun hb9 h=>?_) (fun hb9 h=>?_)
     ·refine Fg (Vm S rfl rfl fun a S=>Vf TC S rfl rfl fun a S=>Vl isAgg3 2 S rfl rfl rfl rfl fun a S=>Vb S Vx rfl rfl rfl fun a S=>Va S rfl rfl fun a S=>Ld ?_)
      replace S:=S.k7 1 2 5 6 10 11 12 rfl
      exact Tn (⟨W (x11 * Ao.Relay),h,S.nf [true,true,true] rfl (subR rfl)⟩)
     ·exact wp_skip (Tn (⟨x11,h,S.nf [true,true,true] rfl (subR rfl)⟩))
    clear S h;rintro a w29 ⟨x14,h,S⟩;rw [hj9] at h;clear hj9 j9
    refine Tn (Fs (Fs (Fg ?_)))
    iterate 3 (refine Vm S rfl rfl ?_;clear S;intro a S)
    obtain ⟨hc9,h⟩:=Ig h
    obtain ⟨u2,hu1,hr8⟩:=rn_sub2 (a:=a) (x:=.tmp 111) (y:=.tmp 112) (y':=.tmp 113) (ty:=22) Qg S (i:=0) rfl (S.tm rfl) (S.tm rfl) (S.tm rfl) hc9
    refine lv S (hr8 _) rfl ?_;clear S;intro a S
    clear hr8
    refine lv S (Gi Qg (S.tm rfl) (subLen hu1)) rfl fun a S=>lv S (Rm rfl) rfl fun a S=>Dl ?_
    replace S:=S.k10 1 2 5 6 10 11 12 114 115 116 rfl
    obtain ⟨j10,hj10,h⟩:=Eu h
    refine Eh (fun a w'=>∃ x15 : List Dp,∃ v12 : Value,j10 x15 = some r ∧ Sx w [] nov [.own v1 3 1 x2.length (x2.flatMap eInt),.own v12 143 7 x15.length (x15.flatMap Dp.enc),.blk b1 [u1.val,iV Ao.Relay,iV Ao.Most] 28] [(1,Ac),(2,.pointer (some ⟨b1,0,none⟩)),(5,v12),(6,v1),(11,iV x10)] 132 a w') ?_ ?_
    ·refine wp_block (Gr (fun (m3 : Nat) a w'=>∃ x15 : List Dp,∃ x16 : Int,∃ v12 : Value,Kn x10 x9 x14 x2 j10 m3 x15 x16 = some r ∧ Sx w [] nov [.own v1 3 1 x2.length (x2.flatMap eInt),.own v12 143 7 x15.length (x15.flatMap Dp.enc),.blk b1 [u1.val,iV Ao.Relay,iV Ao.Most] 28] [(1,Ac),(2,.pointer (some ⟨b1,0,none⟩)),(5,v12),(6,v1),(10,iV x9),(11,iV x10),(12,iV x14),(114,u2),(115,iV ((x10.toNat - x9.toNat : Nat) : Int)),(116,iV x16)] 132 a w') id ((((x10.toNat - x9.toNat : Nat) : Int) - 0).toNat + 2) ⟨x8,0,v11,h,S.nf [true,true,true] rfl (subR rfl)⟩ ?_)
     clear S h;rintro m3 a w30 ⟨x15,x16,v12,h,S⟩
     cases m3 with
     | zero=>rw [Kn.eq_1] at h;cases h
     | succ m3 =>
      rw [Kn.eq_2] at h
      refine Fr (Vb S Es rfl rfl rfl fun a S=>Dl (Fs (Fc h (S.tm rfl) (fun hb10 h=>?_) (fun hb10 h=>?_))))
      ·refine wp_skip (Tn (Fs (wp_block (Fs (Fg ?_)))))
       obtain ⟨hc10,h⟩:=Ig h
       have hj11:=(sub_get (XC S (i:=0) rfl hu1) hc10).1
       obtain ⟨b14,hg5,hr9⟩:=PC (a:=a) (x:=.tmp 114) (y:=.tmp 116) (ty:=0) Qg Jf S (i:=0) rfl hu1 hc10 (S.tm rfl) (S.tm rfl)
       refine lv S (hr9 _) rfl ?_;clear S;intro a S
       clear hr9
       refine lv S (Hx isAgg3 (off:=(x9.toNat + x16.toNat) * 1) (o:=0) (S.tm rfl) (Uf Jf S (i:=0) rfl hg5 hj11) rfl) rfl fun a S=>Va S rfl rfl fun a S=>Dl (Fg ?_)
       iterate 5 (refine Vm S rfl rfl ?_;clear S;intro a S)
       refine Vb S Iw rfl rfl rfl ?_;clear S;intro a S
       obtain ⟨r1,hr10,h⟩:=Fa h
       refine Eb S (fun _=>Dq (vs:=[iV x14,iV (W (x10 - x9))]) ⟨(S.tm rfl),(S.tm rfl),trivial⟩ call112) (Xi _ x14 (W (x10 - x9)) _ hr10) rfl ?_;clear S;intro v13 a w32 hv3 hk19 hn3 S
       subst hv3
       obtain ⟨hc11,h⟩:=Ig h
       obtain ⟨b15,hg6,hr11⟩:=Gh (a:=a) (x:=.tmp 120) (y:=.tmp 121) (ty:=0) AM Dp.enc_ok S (i:=1) rfl (Dw hc11).1 (Dw hc11).2 (S.tm rfl) (S.tm rfl)
       refine lv S (hr11 _) rfl ?_;clear S;intro a S
       clear hr11
       refine Vf JS S rfl rfl fun a S=>Ob (c:=5) (j:=(nth (cut x2 x9 x10) x16).toNat) (Dp.mk ((nth x15 (nth (cut x2 x9 x10) x16)).x_) r1) Dp.enc_ok S (S.tm rfl) (S.tm rfl) (i:=1) rfl hg6 (Dw hc11).1 sizeOf48 (vs:=[iV r1.Num,iV r1.Den]) rfl rfl rfl rfl rfl ?_;clear S;intro w34 hk21 S
       refine Ld ?_
       replace S:=(S.nl [.own v1 3 1 x2.length (x2.flatMap eInt),.own v12 143 7 (x15.set ((nth (cut x2 x9 x10) x16).toNat) (Dp.mk ((nth x15 (nth (cut x2 x9 x10) x16)).x_) r1)).length ((x15.set ((nth (cut x2 x9 x10) x16).toNat) (Dp.mk ((nth x15 (nth (cut x2 x9 x10) x16)).x_) r1)).flatMap Dp.enc),.blk b1 [u1.val,iV Ao.Relay,iV Ao.Most] 28] [true,true,true] rfl).k10 1 2 5 6 10 11 12 114 115 116 rfl
       exact Hp (Tn (Fg (Vq S Gc rfl rfl rfl fun a S=>Vm S rfl rfl fun a S=>Dl (⟨m3,⟨(x15.set ((nth (cut x2 x9 x10) x16).toNat) (Dp.mk ((nth x15 (nth (cut x2 x9 x10) x16)).x_) r1)),W (x16 + 1),v12,h,S.nf [true,true,true] rfl ⟨rfl,rfl,rfl,rfl,rfl,rfl,rfl,rfl,rfl,rfl,trivial⟩⟩,Nat.lt_succ_self _⟩))))
      ·exact wp_exit (Ed (Ed (Gn (Tn (⟨x15,v12,h,S.nf [true,true,true] rfl (subR rfl)⟩)))))
    clear S h;rintro a w31 ⟨x15,v12,h,S⟩;rw [hj10] at h;clear hj10 j10
    exact Tn (Fg (Vm S rfl rfl fun a S=>Va S rfl rfl fun a S=>Ld (Hp (Tn (⟨m1,⟨x15,x10,v12,h,S.nf [true,true,true] rfl ⟨rfl,rfl,rfl,rfl,rfl,trivial⟩⟩,Nat.lt_succ_self _⟩)))))
   ·exact wp_exit (Ed (Ed (Gn (Tn (⟨x8,v11,h,S.nf [true,true,true] rfl ⟨rfl,trivial⟩⟩)))))
 clear S h;rintro a w22 ⟨x8,v11,h,S⟩;rw [hj4] at h;clear hj4 j4
 refine Tn (Fr (Vm S rfl rfl fun a S=>Va S rfl rfl fun a S=>Dl (wp_ret ?_)))
 obtain rfl:=Option.some.inj h
 exact Et S results111 rfl (Ut S (i:=1) rfl rfl)
theorem DM (w : World) (Ao : Jx) (Ca : R28) (Cf : Xt (view w []) Ao Ca) (Ac : Value) (Aj : List Dj) (Ai : Slc (view w []) 5 Ac (Aj.map Dj.enc)) (r : (List Dp)) (h : Nn Ao Aj = some r) :
    Calls prog 69 [.agg (R28.enc Ca).toArray,Ac].toArray w (Ret w [] fun τ v _=>Uq τ 143 7 v r.length (r.flatMap Dp.enc)):=by
 obtain ⟨u1,rfl,hs1⟩:=Cf
 refine Fe func69 rfl ntmps69 rfl fun a S=>?_
 unfold Nn at h
 replace S:=S.k2 0 1 rfl
 refine Fr (Lw S (S.tm rfl) (cs:=[u1.val,iV Ao.Relay,iV Ao.Most]) rfl rfl ?_);clear S;intro a w1 b1 hz1 hk1 S
 refine Vk S rfl rfl fun a S=>Dz (Vk S rfl rfl ?_);clear S;intro a S
 replace S:=S.nil 143 7
 refine Dl (Fs (Fr (Vm S rfl rfl ?_)));clear S;intro a S
 obtain ⟨r1,hr1,h⟩:=Fa h
 have hz2:=S.keep.size
 refine Eb S (fun _=>Dq (vs:=[Ac]) ⟨(S.tm rfl),trivial⟩ call110) (CD _ (join (view w []) nov) (Pw (S.le_arg Eg) (S.le_new Eg)) Ac Aj (Ai.mono (le_join_left _ _)) _ hr1) rfl ?_;clear S;intro v1 a w2 hv1 hk2 hn1 S
 obtain ⟨φ1,hl1,hm1,S⟩:=S.see' hn1 hz2
 obtain ⟨rs1,ho2,hr2⟩:=hv1
 have hs2:=ho2.mono (Tx hl1 hm1)
 have hr3:=JA (Tx hl1 hm1) hr2
 refine lv S (Gi BS (S.tm rfl) (Zf hs2 hr3)) rfl fun a S=>lv S (Rm rfl) rfl fun a S=>Dl ?_
 replace S:=(S.nl [.own (.slice none 0 0) 143 7 ([] : List Dp).length (([] : List Dp).flatMap Dp.enc),.blk b1 [u1.val,iV Ao.Relay,iV Ao.Most] 28] [true,true] rfl).k5 2 5 9 10 11 rfl
 obtain ⟨j1,hj1,h⟩:=Eu h
 refine Eh (fun a w'=>∃ x1 : List Dp,∃ φ2 : View,∃ v2 : Value,j1 x1 = some r ∧ View.le φ1 φ2 ∧ Sx w [] φ2 [.own v2 143 7 x1.length (x1.flatMap Dp.enc),.blk b1 [u1.val,iV Ao.Relay,iV Ao.Most] 28] [(5,v2)] 22 a w') ?_ ?_
 ·refine wp_block (Gr (fun (ys1 : List (List Dj)) a w'=>∃ i1 : Nat,∃ x1 : List Dp,∃ φ2 : View,∃ v2 : Value,(∃ dn,r1 = dn ++ ys1 ∧ dn.length = i1) ∧ La Ao j1 ys1 i1 x1 = some r ∧ View.le φ1 φ2 ∧ Sx w [] φ2 [.own v2 143 7 x1.length (x1.flatMap Dp.enc),.blk b1 [u1.val,iV Ao.Relay,iV Ao.Most] 28] [(2,.pointer (some ⟨b1,0,none⟩)),(5,v2),(9,v1),(10,iV (r1.length : Int)),(11,iV (i1 : Int))] 22 a w') List.length r1 ⟨0,([] : List Dp),φ1,(.slice none 0 0),⟨[],rfl,rfl⟩,h,View.le_refl _,S.nf [true,true] rfl (subR rfl)⟩ ?_)
  clear S h;rintro ys1 a w3 ⟨i1,x1,φ2,v2,⟨dn,hd1,hi1⟩,h,hl2,S⟩
  cases ys1 with
  | nil =>
   rw [La.eq_1] at h
   refine Fr (Vb S Es rfl rfl rfl fun a S=>Ld ?_)
   replace S:=S.k6 2 5 9 10 11 12 rfl
   exact Tn (Fs (wp_cond_false ((S.tm rfl).trans (congrArg Value.bool (Jd hd1 hi1))) (wp_exit (Ed (Ed (Gn (Tn (⟨x1,φ2,v2,h,hl2,S.nf [true,true] rfl ⟨rfl,trivial⟩⟩))))))))
  | cons y1 ys1 =>
   rw [La.eq_2] at h
   refine Fr (Vb S Es rfl rfl rfl fun a S=>Ld ?_)
   replace S:=S.k6 2 5 9 10 11 12 rfl
   refine Tn (Fs (wp_cond_true ((S.tm rfl).trans (congrArg Value.bool (Ia hd1 hi1))) (wp_skip (Tn (Fs (wp_block (Fs (Fg ?_))))))))
   obtain ⟨r2,hg1,hl3⟩:=Ng.at hr3 (Jc hd1 hi1)
   have hs3:=hl3
   obtain ⟨b2,o1,hm2,hr4⟩:=Fk (a:=a) (x:=.tmp 9) (y:=.tmp 11) (ty:=0) BS hs2 hg1 rfl (S.tm rfl) (S.tm rfl)
   refine lv S (hr4 _) rfl ?_;clear S;intro a S
   clear hr4
   refine lv S (Hx isAgg37 (off:=o1) (o:=0) (S.tm rfl) ((hm2.mono (JQ hl2)).at (Ww S.emb0 S.emb)) rfl) rfl fun a S=>Va S rfl rfl fun a S=>Dl (Fg (Vm S rfl rfl fun a S=>lv S (Fb isAgg28 sizeOf28 (off:=0) (o:=0) (part:=[u1.val,iV Ao.Relay,iV Ao.Most]) rfl rfl (S.tm rfl) (S.cellsAt (i:=1) rfl)) rfl fun a S=>Vm S rfl rfl ?_));clear S;intro a S
   obtain ⟨r3,hr5,h⟩:=Fa h
   have hz3:=S.keep.size
   refine Eb S (fun _=>Dq (vs:=[.agg (R28.enc (R28.mk u1 Ao.Relay Ao.Most)).toArray,r2.val]) ⟨(S.tm rfl),(S.tm rfl),trivial⟩ call111) (JW _ Ao (R28.mk u1 Ao.Relay Ao.Most) ⟨u1,rfl,(hs1.mono (S.le_arg Eg))⟩ r2.val y1 (hs3.mono (Pw (S.le_arg Eg) (View.le_trans hl2 (S.le_new Eg)))) _ hr5) rfl ?_;clear S;intro v3 a w5 hv2 hk3 hn2 S
   obtain ⟨φ3,hl4,hm3,S⟩:=S.see' hn2 hz3
   have hs4:=hv2.mono hm3
   obtain ⟨hc1,h⟩:=Ig h
   refine HE (Y:=[]) AM Dp.enc_ok S (S.tm rfl) (i:=0) rfl (S.tm rfl) ((Ge Dp.enc_ok hs4).mono (S.le_new (fun _ h=>by cases h))) rfl rfl (by have:=Nu hc1;omega) rfl ?_;clear S;intro v4 a w6 hk4 S
   refine Va S rfl rfl fun a S=>Ld (Hp (Tn (Fg (Vq S Gc rfl rfl rfl fun a S=>Vm S rfl rfl fun a S=>Ld ?_))))
   replace S:=(S.nl [.own v4 143 7 (x1 ++ r3).length ((x1 ++ r3).flatMap Dp.enc),.blk b1 [u1.val,iV Ao.Relay,iV Ao.Most] 28] [true,true] rfl).k5 2 5 9 10 11 rfl
   exact Tn (⟨ys1,⟨i1 + 1,(x1 ++ r3),φ3,v4,⟨_,(hd1).trans (List.append_cons _ _ _),by simp [hi1]⟩,h,(View.le_trans hl2 hl4),S.nf [true,true] rfl ⟨rfl,rfl,rfl,rfl,(congrArg (fun z=>some (Value.int .i64 z)) (Ib hd1 hi1 (AO hs2 hr3))),trivial⟩⟩,Nat.lt_succ_self _⟩)
 clear S h;rintro a w4 ⟨x1,φ2,v2,h,hl2,S⟩;rw [hj1] at h;clear hj1 j1
 refine Tn (Fr (Vm S rfl rfl fun a S=>Va S rfl rfl fun a S=>Dl (wp_ret ?_)))
 obtain rfl:=Option.some.inj h
 exact Et S results69 rfl (Ut S (i:=0) rfl rfl)
theorem IR (w : World) (Ao : Jx) (Ca : R28) (Cf : Xt (view w []) Ao Ca) (Ac : Value) (Aj : List Dj) (Ai : Slc (view w []) 5 Ac (Aj.map Dj.enc)) (r : (List Dm) × Int) (h : Vo Ao Aj = some r) :
    Calls prog 63 [.agg (R28.enc Ca).toArray,Ac].toArray w (Ret w [] fun τ v _=>∃ u1 : Value,v = .tuple #[u1,iV r.2] ∧ Uq τ 58 3 u1 r.1.length (r.1.flatMap Dm.enc)):=by
 obtain ⟨u1,rfl,hs1⟩:=Cf
 refine Fe func63 rfl ntmps63 rfl fun a S=>?_
 unfold Vo at h
 replace S:=S.k2 0 1 rfl
 refine Fr (Lw S (S.tm rfl) (cs:=[u1.val,iV Ao.Relay,iV Ao.Most]) rfl rfl ?_);clear S;intro a w1 b1 hz1 hk1 S
 refine Vk S rfl rfl fun a S=>Vk S rfl rfl fun a S=>Dl (Fs (Fr (lv S (Fb isAgg28 sizeOf28 (off:=0) (o:=0) (part:=[u1.val,iV Ao.Relay,iV Ao.Most]) rfl rfl (S.tm rfl) (S.cellsAt (i:=0) rfl)) rfl fun a S=>Vm S rfl rfl ?_)));clear S;intro a S
 obtain ⟨r1,hr1,h⟩:=Fa h
 refine Eb S (fun _=>Dq (vs:=[.agg (R28.enc (R28.mk u1 Ao.Relay Ao.Most)).toArray,Ac]) ⟨(S.tm rfl),(S.tm rfl),trivial⟩ call28) (Yp _ Ao (R28.mk u1 Ao.Relay Ao.Most) ⟨u1,rfl,(hs1.mono (S.le_arg Eg))⟩ Ac Aj (Ai.mono (S.le_arg Eg)) _ hr1) rfl ?_;clear S;intro v1 a w2 hv1 hk2 hn1 S
 subst hv1
 refine Va S rfl rfl fun a S=>Dz (Vm S rfl rfl fun a S=>Vq S Mn rfl rfl rfl fun a S=>Dl (Fc h (S.tm rfl) (fun hb1 h=>?_) (fun hb1 h=>?_)))
 ·refine Fr (Vm S rfl rfl fun a S=>Vk S rfl rfl fun a S=>Va S rfl rfl fun a S=>Dl (wp_ret (Dv ?_)))
  obtain rfl:=Option.some.inj h
  exact Mq S results63 rfl rfl ⟨_,rfl,(Ro _ _ _)⟩
 ·refine wp_skip (Tn (Fr (Vk S rfl rfl ?_)));clear S;intro a S
  replace S:=S.nil 58 3
  refine Dl (Fs (Fr (lv S (Fb isAgg28 sizeOf28 (off:=0) (o:=0) (part:=[u1.val,iV Ao.Relay,iV Ao.Most]) rfl rfl (S.tm rfl) (S.cellsAt (i:=1) rfl)) rfl fun a S=>Vm S rfl rfl ?_)));clear S;intro a S
  obtain ⟨r2,hr2,h⟩:=Fa h
  have hz2:=S.keep.size
  refine Eb S (fun _=>Dq (vs:=[.agg (R28.enc (R28.mk u1 Ao.Relay Ao.Most)).toArray,Ac]) ⟨(S.tm rfl),(S.tm rfl),trivial⟩ call69) (DM _ Ao (R28.mk u1 Ao.Relay Ao.Most) ⟨u1,rfl,(hs1.mono (S.le_arg Eg))⟩ Ac Aj (Ai.mono (S.le_arg Eg)) _ hr2) rfl ?_;clear S;intro v2 a w3 hv2 hk3 hn2 S
  obtain ⟨φ1,hl1,hm1,S⟩:=S.see' hn2 hz2
  have hs2:=hv2.mono hm1
  refine lv S (Gi AM (S.tm rfl) (Gf (Ge Dp.enc_ok hs2))) rfl fun a S=>lv S (Rm rfl) rfl fun a S=>Ld ?_
  replace S:=(S.nl [.own (.slice none 0 0) 58 3 ([] : List Dm).length (([] : List Dm).flatMap Dm.enc)] [true,false] rfl).k4 7 18 19 20 rfl
  refine Tn ?_
  obtain ⟨j1,hj1,h⟩:=Eu h
  refine Eh (fun a w'=>∃ x1 : List Dm,∃ v3 : Value,j1 x1 = some r ∧ Sx w [] φ1 [.own v3 58 3 x1.length (x1.flatMap Dm.enc)] [(7,v3)] 40 a w') ?_ ?_
  ·refine wp_block (Gr (fun (ys1 : List Dp) a w'=>∃ i1 : Nat,∃ x1 : List Dm,∃ v3 : Value,(∃ dn,r2 = dn ++ ys1 ∧ dn.length = i1) ∧ Mu j1 ys1 i1 x1 = some r ∧ Sx w [] φ1 [.own v3 58 3 x1.length (x1.flatMap Dm.enc)] [(7,v3),(18,v2),(19,iV (r2.length : Int)),(20,iV (i1 : Int))] 40 a w') List.length r2 ⟨0,([] : List Dm),(.slice none 0 0),⟨[],rfl,rfl⟩,h,S.nf [true] rfl (subR rfl)⟩ ?_)
   clear S h;rintro ys1 a w4 ⟨i1,x1,v3,⟨dn,hd1,hi1⟩,h,S⟩
   cases ys1 with
   | nil =>
    rw [Mu.eq_1] at h
    refine Fr (Vb S Es rfl rfl rfl fun a S=>Ld ?_)
    replace S:=S.k5 7 18 19 20 21 rfl
    exact Tn (Fs (wp_cond_false ((S.tm rfl).trans (congrArg Value.bool (Jd hd1 hi1))) (wp_exit (Ed (Ed (Gn (Tn (⟨x1,v3,h,S.nf [true] rfl ⟨rfl,trivial⟩⟩))))))))
   | cons y1 ys1 =>
    rw [Mu.eq_2] at h
    refine Fr (Vb S Es rfl rfl rfl fun a S=>Ld ?_)
    replace S:=S.k5 7 18 19 20 21 rfl
    refine Tn (Fs (wp_cond_true ((S.tm rfl).trans (congrArg Value.bool (Ia hd1 hi1))) (wp_skip (Tn (Fs (wp_block (Fs (Fg ?_))))))))
    obtain ⟨b2,o1,hm2,hr3⟩:=Fk (a:=a) (x:=.tmp 18) (y:=.tmp 20) (ty:=0) AM (Ge Dp.enc_ok hs2) (Jc hd1 hi1) rfl (S.tm rfl) (S.tm rfl)
    refine lv S (hr3 _) rfl ?_;clear S;intro a S
    clear hr3
    refine lv S (Fb isAgg143 sizeOf143 (off:=o1) (o:=0) (part:=(Dp.enc y1)) rfl rfl (S.tm rfl) (hm2.at S.emb)) rfl fun a S=>Hq S zeroValue143 (cs:=[sV An,sV An,sV An,iV 0,bV false,iV 0,iV 0]) rfl rfl ?_;clear S;intro a w6 b3 hz3 hk4 S
    refine Ex S (S.tm rfl) (S.tm rfl) (i:=0) (off:=0) rfl sizeOf143 (vs:=(Dp.enc y1)) rfl rfl rfl rfl ?_;clear S;intro w7 hk5 S
    refine Dl (Fg (Vm S rfl rfl fun a S=>Vf AS S rfl rfl fun a S=>Vf AC S rfl rfl fun a S=>Vl isAgg9 0 S rfl rfl rfl rfl ?_));clear S;intro a S
    obtain ⟨hc1,h⟩:=Ig h
    refine lv S (IW (m:=y1.x_.Race) (n:=On) (S.tm rfl) rfl (by have:=Nu hc1;omega)) rfl ?_;clear S;intro a S
    refine Vf AS S rfl rfl fun a S=>Vf AD S rfl rfl fun a S=>Vl isAgg9 0 S rfl rfl rfl rfl ?_;clear S;intro a S
    obtain ⟨hc2,h⟩:=Ig h
    refine lv S (IW (m:=(y1.x_.Race ++ On)) (n:=y1.x_.Who) (S.tm rfl) (S.tm rfl) (by have:=Nu hc2;omega)) rfl ?_;clear S;intro a S
    refine Vf JS S rfl rfl fun a S=>lv S (Fb isAgg48 sizeOf48 (off:=0) (o:=5) (part:=(Dk.enc y1.points_)) rfl rfl (S.tm rfl) (S.cellsAt (i:=0) rfl)) rfl fun a S=>lv S (Nl XJ (pv:=[(0,sV ((y1.x_.Race ++ On) ++ y1.x_.Who)),(1,.agg (Dk.enc y1.points_).toArray)]) ⟨rfl,(S.tm rfl),rfl,(S.tm rfl),trivial⟩ (cs:=[sV ((y1.x_.Race ++ On) ++ y1.x_.Who),iV y1.points_.Num,iV y1.points_.Den]) (by kernel_rfl)) rfl fun a S=>Ey S underlying53 sizeOf58 zeroValue58 rfl rfl (pv:=[(0,.agg #[sV ((y1.x_.Race ++ On) ++ y1.x_.Who),iV y1.points_.Num,iV y1.points_.Den])]) ⟨rfl,(S.tm rfl),trivial⟩ (cs:=[sV ((y1.x_.Race ++ On) ++ y1.x_.Who),iV y1.points_.Num,iV y1.points_.Den]) (by kernel_rfl) rfl ?_;clear S;intro a w8 b4 hz4 hk6 S
    obtain ⟨hc3,h⟩:=Ig h
    refine Ni Ss Dm.enc_ok S (S.tm rfl) (i:=2) rfl (S.tm rfl) (j:=0) rfl (ys:=[(Dm.mk ((y1.x_.Race ++ On) ++ y1.x_.Who) y1.points_)]) rfl rfl rfl rfl (by have:=Nu hc3;omega) rfl ?_;clear S;intro v4 a w9 hk7 S
    refine Va S rfl rfl fun a S=>Ld ?_
    replace S:=(S.nl [.own v4 58 3 (x1 ++ [(Dm.mk ((y1.x_.Race ++ On) ++ y1.x_.Who) y1.points_)]).length ((x1 ++ [(Dm.mk ((y1.x_.Race ++ On) ++ y1.x_.Who) y1.points_)]).flatMap Dm.enc)] [false,false,true] rfl).k4 7 18 19 20 rfl
    exact Hp (Tn (Fg (Vq S Gc rfl rfl rfl fun a S=>Vm S rfl rfl fun a S=>Dl (⟨ys1,⟨i1 + 1,(x1 ++ [(Dm.mk ((y1.x_.Race ++ On) ++ y1.x_.Who) y1.points_)]),v4,⟨_,(hd1).trans (List.append_cons _ _ _),by simp [hi1]⟩,h,S.nf [true] rfl ⟨rfl,rfl,rfl,(congrArg (fun z=>some (Value.int .i64 z)) (Ib hd1 hi1 (Jp (Ge Dp.enc_ok hs2)))),trivial⟩⟩,Nat.lt_succ_self _⟩))))
  clear S h;rintro a w5 ⟨x1,v3,h,S⟩;rw [hj1] at h;clear hj1 j1
  refine Tn (Fr (Vm S rfl rfl fun a S=>Va S rfl rfl fun a S=>Vk S rfl rfl fun a S=>Dl (wp_ret ?_)))
  obtain rfl:=Option.some.inj h
  exact Mq S results63 rfl rfl ⟨_,rfl,(Ut S (i:=0) rfl rfl)⟩
theorem AX (w : World) (U : Nat) (Ae : Jr) (Bn : R32) (Bv : Tt (view w []) Ae Bn) (Aq : Value) (Al : List Di) (Bd : Slc (view w []) 11 Aq (Al.map Di.enc)) (As : (view w []) U = some (.cells (R32.enc Bn ++ [Aq]).toArray 133 (0,0))) (Au : Du) (r : (List Je) × Int) (h : Pf Ae Al Au = some r) :
    Calls prog 27 [.pointer (some ⟨U,0,none⟩),.agg (Du.enc Au).toArray].toArray w (Ret w [] fun τ v _=>∃ u1 : Value,v = .tuple #[u1,iV r.2] ∧ Uq τ 50 7 u1 r.1.length (r.1.flatMap Je.enc)):=by
 obtain ⟨u1,u2,rfl,hs1,⟨u3,rfl,hs2⟩⟩:=Bv
 replace As : (view w []) U = some (.cells [u1.val,u3.val,iV Ae.Table.Relay,iV Ae.Table.Most,iV Ae.Final.Size,iV Ae.Final.Many,iV Ae.Final.Reserves,Aq].toArray 133 (0,0)):=As
 refine Fe func27 rfl ntmps27 rfl fun a S=>?_
 unfold Pf at h
 replace S:=S.k2 0 1 rfl
 refine Fr (Lw S (S.tm rfl) (cs:=(Du.enc Au)) rfl rfl ?_);clear S;intro a w1 b1 hz1 hk1 S
 refine Vk S rfl rfl fun a S=>Vk S rfl rfl fun a S=>Dz (Vm S rfl rfl fun a S=>Vf Vr S rfl rfl fun a S=>Vl isAgg9 0 S rfl rfl rfl rfl ?_);clear S;intro a S
 obtain ⟨r1,hr1,h⟩:=Fa h
 have hz2:=S.keep.size
 refine Eb S (fun _=>Dq (vs:=[.pointer (some ⟨U,0,none⟩),sV Au.Key]) ⟨(S.tm rfl),(S.tm rfl),trivial⟩ call59) (IQ _ U Ae (R32.mk u1 (R28.mk u3 Ae.Table.Relay Ae.Table.Most) Ae.Final) ⟨u1,(R28.mk u3 Ae.Table.Relay Ae.Table.Most),rfl,(hs1.mono (S.le_arg Eg)),⟨u3,rfl,(hs2.mono (S.le_arg Eg))⟩⟩ Aq Al (Bd.mono (S.le_arg Eg)) ((S.le_arg Eg) _ _ As) Au.Key _ hr1) rfl ?_;clear S;intro v1 a w2 hv1 hk2 hn1 S
 obtain ⟨u4,u5,rfl,ho1,ho2⟩:=hv1
 obtain ⟨φ1,hl1,hm1,S⟩:=S.see' hn1 hz2
 have hs3:=ho1.mono hm1
 obtain ⟨b2,rfl,hq1⟩:=ho2
 replace hq1:=hm1 _ _ hq1
 refine Vm S rfl rfl ?_;clear S;intro a S
 iterate 3 (refine Vq S Fu rfl rfl rfl ?_;clear S;intro a S)
 iterate 3 (refine Va S rfl rfl ?_;clear S;intro a S)
 refine Ld ?_
 replace S:=(S.nl [.blk b1 (Du.enc Au) 40] [true] rfl).k5 0 3 6 7 8 rfl
 refine Tn (Fs (Fr (Vm S rfl rfl fun a S=>Vq S Mn rfl rfl rfl fun a S=>Dl (Fc h (S.tm rfl) (fun hb1 h=>?_) (fun hb1 h=>?_)))))
 ·refine Fr (Vm S rfl rfl fun a S=>Vk S rfl rfl fun a S=>Va S rfl rfl fun a S=>Dl (wp_ret (Dv ?_)))
  obtain rfl:=Option.some.inj h
  exact Mq S results27 rfl rfl ⟨_,rfl,(Ro _ _ _)⟩
 ·refine wp_skip (Tn (Fr (Vk S rfl rfl ?_)));clear S;intro a S
  replace S:=S.nil 52 5
  refine Dl (Fs (Fr (Vm S rfl rfl fun a S=>lv S (Gi Tf (S.tm rfl) (Gf (Ge Ds.enc_ok hs3))) rfl fun a S=>lv S (Rm rfl) rfl fun a S=>Dl ?_)))
  replace S:=(S.nl [.own (.slice none 0 0) 52 5 ([] : List Dj).length (([] : List Dj).flatMap Dj.enc),.blk b1 (Du.enc Au) 40] [true,true] rfl).k8 0 3 6 7 9 32 33 34 rfl
  obtain ⟨j1,hj1,h⟩:=Eu h
  refine Eh (fun a w'=>∃ x1 : List Dj,∃ v2 : Value,j1 x1 = some r ∧ Sx w [] φ1 [.own v2 52 5 x1.length (x1.flatMap Dj.enc),.blk b1 (Du.enc Au) 40] [(0,.pointer (some ⟨U,0,none⟩)),(3,.pointer (some ⟨b1,0,none⟩)),(6,u4),(7,.map (some b2)),(9,v2)] 123 a w') ?_ ?_
  ·refine wp_block (Gr (fun (ys1 : List Ds) a w'=>∃ i1 : Nat,∃ x1 : List Dj,∃ v2 : Value,(∃ dn,r1.1 = dn ++ ys1 ∧ dn.length = i1) ∧ Md Au r1 j1 ys1 i1 x1 = some r ∧ Sx w [] φ1 [.own v2 52 5 x1.length (x1.flatMap Dj.enc),.blk b1 (Du.enc Au) 40] [(0,.pointer (some ⟨U,0,none⟩)),(3,.pointer (some ⟨b1,0,none⟩)),(6,u4),(7,.map (some b2)),(9,v2),(32,u4),(33,iV (r1.1.length : Int)),(34,iV (i1 : Int))] 123 a w') List.length r1.1 ⟨0,([] : List Dj),(.slice none 0 0),⟨[],rfl,rfl⟩,h,S.nf [true,true] rfl (subR rfl)⟩ ?_)
   clear S h;rintro ys1 a w3 ⟨i1,x1,v2,⟨dn,hd1,hi1⟩,h,S⟩
   cases ys1 with
   | nil =>
    rw [Md.eq_1] at h
    refine Fr (Vb S Es rfl rfl rfl fun a S=>Ld ?_)
    replace S:=S.k9 0 3 6 7 9 32 33 34 35 rfl
    exact Tn (Fs (wp_cond_false ((S.tm rfl).trans (congrArg Value.bool (Jd hd1 hi1))) (wp_exit (Ed (Ed (Gn (Tn (⟨x1,v2,h,S.nf [true,true] rfl (subR rfl)⟩))))))))
   | cons y1 ys1 =>
    rw [Md.eq_2] at h
    refine Fr (Vb S Es rfl rfl rfl fun a S=>Ld ?_)
    replace S:=S.k9 0 3 6 7 9 32 33 34 35 rfl
    refine Tn (Fs (wp_cond_true ((S.tm rfl).trans (congrArg Value.bool (Ia hd1 hi1))) (wp_skip (Tn (Fs (wp_block (Fs (Fg ?_))))))))
    obtain ⟨b3,o1,hm2,hr2⟩:=Fk (a:=a) (x:=.tmp 32) (y:=.tmp 34) (ty:=0) Tf (Ge Ds.enc_ok hs3) (Jc hd1 hi1) rfl (S.tm rfl) (S.tm rfl)
    refine lv S (hr2 _) rfl ?_;clear S;intro a S
    clear hr2
    refine lv S (Fb isAgg128 sizeOf128 (off:=o1) (o:=0) (part:=(Ds.enc y1)) rfl rfl (S.tm rfl) (hm2.at S.emb)) rfl fun a S=>Hq S zeroValue128 (cs:=[sV An,iV 0,iV 0,iV 0]) rfl rfl ?_;clear S;intro a w5 b4 hz3 hk3 S
    refine Ex S (S.tm rfl) (S.tm rfl) (i:=0) (off:=0) rfl sizeOf128 (vs:=(Ds.enc y1)) rfl rfl rfl rfl ?_;clear S;intro w6 hk4 S
    refine Dl (Fg (Vm S rfl rfl fun a S=>Vf Vr S rfl rfl fun a S=>Vl isAgg9 2 S rfl rfl rfl rfl fun a S=>Vf DA S rfl rfl fun a S=>Vl isAgg9 0 S rfl rfl rfl rfl fun a S=>Vm S rfl rfl fun a S=>Vf DA S rfl rfl fun a S=>Vl isAgg9 0 S rfl rfl rfl rfl ?_));clear S;intro a S
    refine lv S (Pt (kv:=Value.string) (vv:=Value.string) (m:=r1.2.1) (key:=y1.Who) (z:=An) (S.emb _ _ hq1) underlying124 (Lm underlying9) zeroValue9 (S.tm rfl) (S.tm rfl)) rfl fun a S=>Vf DB S rfl rfl fun a S=>Vl isAgg3 0 S rfl rfl rfl rfl fun a S=>Vf EA S rfl rfl fun a S=>Vl isAgg3 2 S rfl rfl rfl rfl fun a S=>Vq S Kb rfl rfl rfl fun a S=>lv S (Nl bt_52 (pv:=[(0,sV Au.Key),(1,sV y1.Who),(2,sV (Ec r1.2.1 y1.Who An)),(3,iV y1.Rank),(4,bV (decide (1 < Au.Legs)))]) ⟨rfl,(S.tm rfl),rfl,(S.tm rfl),rfl,(S.tm rfl),rfl,(S.tm rfl),rfl,(S.tm rfl),trivial⟩ (cs:=[sV Au.Key,sV y1.Who,sV (Ec r1.2.1 y1.Who An),iV y1.Rank,bV (decide (1 < Au.Legs))]) (by kernel_rfl)) rfl fun a S=>Ey S underlying37 sizeOf52 zeroValue52 rfl rfl (pv:=[(0,.agg #[sV Au.Key,sV y1.Who,sV (Ec r1.2.1 y1.Who An),iV y1.Rank,bV (decide (1 < Au.Legs))])]) ⟨rfl,(S.tm rfl),trivial⟩ (cs:=[sV Au.Key,sV y1.Who,sV (Ec r1.2.1 y1.Who An),iV y1.Rank,bV (decide (1 < Au.Legs))]) (by kernel_rfl) rfl ?_;clear S;intro a w7 b5 hz4 hk5 S
    obtain ⟨hc1,h⟩:=Ig h
    refine Ni Qh Dj.enc_ok S (S.tm rfl) (i:=2) rfl (S.tm rfl) (j:=0) rfl (ys:=[(Dj.mk Au.Key y1.Who (Ec r1.2.1 y1.Who An) y1.Rank (decide (1 < Au.Legs)))]) rfl rfl rfl rfl (by have:=Nu hc1;omega) rfl ?_;clear S;intro v3 a w8 hk6 S
    refine Va S rfl rfl fun a S=>Ld ?_
    replace S:=(S.nl [.own v3 52 5 (x1 ++ [(Dj.mk Au.Key y1.Who (Ec r1.2.1 y1.Who An) y1.Rank (decide (1 < Au.Legs)))]).length ((x1 ++ [(Dj.mk Au.Key y1.Who (Ec r1.2.1 y1.Who An) y1.Rank (decide (1 < Au.Legs)))]).flatMap Dj.enc),.blk b1 (Du.enc Au) 40] [false,false,true,true] rfl).k8 0 3 6 7 9 32 33 34 rfl
    exact Hp (Tn (Fg (Vq S Gc rfl rfl rfl fun a S=>Vm S rfl rfl fun a S=>Dl (⟨ys1,⟨i1 + 1,(x1 ++ [(Dj.mk Au.Key y1.Who (Ec r1.2.1 y1.Who An) y1.Rank (decide (1 < Au.Legs)))]),v3,⟨_,(hd1).trans (List.append_cons _ _ _),by simp [hi1]⟩,h,S.nf [true,true] rfl ⟨rfl,rfl,rfl,rfl,rfl,rfl,rfl,(congrArg (fun z=>some (Value.int .i64 z)) (Ib hd1 hi1 (Jp (Ge Ds.enc_ok hs3)))),trivial⟩⟩,Nat.lt_succ_self _⟩))))
  clear S h;rintro a w4 ⟨x1,v2,h,S⟩;rw [hj1] at h;clear hj1 j1
  refine Tn (Fr (Vm S rfl rfl ?_));clear S;intro a S
  obtain ⟨r2,hr3,h⟩:=Fa h
  refine Mj 0 S rfl (fun _=>.own v2 52 5 r2.length (r2.flatMap Dj.enc)) (fun _=>Dq (vs:=[v2,.func (.func 61) #[] #[]]) ⟨(S.tm rfl),rfl,trivial⟩ call60) (Ry _ v2 x1 (S.holds _ (List.mem_of_getElem? (i:=0) rfl)) _ hr3) rfl (fun _ _ _ h=>⟨h.1,fun _ hc=>hc⟩) ?_;clear S;intro v4 a w9 hv2 hk7 hn2 S
  replace hv2:=hv2.2
  subst hv2
  refine Dz (Vm S rfl rfl fun a S=>Vu S Lv rfl rfl fun a S=>Vf DC S rfl rfl fun a S=>Vf NO S rfl rfl fun a S=>lv S (Fb isAgg28 sizeOf28 (off:=0) (o:=1) (part:=[u3.val,iV Ae.Table.Relay,iV Ae.Table.Most]) rfl rfl (S.tm rfl) ((Sc As).at S.emb0)) rfl fun a S=>Vm S rfl rfl ?_);clear S;intro a S
  obtain ⟨r3,hr4,h⟩:=Fa h
  have hz5:=S.keep.size
  refine Eb S (fun _=>Dq (vs:=[.agg (R28.enc (R28.mk u3 Ae.Table.Relay Ae.Table.Most)).toArray,v2]) ⟨(S.tm rfl),(S.tm rfl),trivial⟩ call63) (IR _ Ae.Table (R28.mk u3 Ae.Table.Relay Ae.Table.Most) ⟨u3,rfl,(hs2.mono (S.le_arg Eg))⟩ v2 r2 (CQ Dj.enc_ok S (i:=0) rfl (Hg (e':=.own v2 52 5 r2.length (r2.flatMap Dj.enc)))) _ hr4) rfl ?_;clear S;intro v5 a w10 hv3 hk8 hn3 S
  obtain ⟨u6,rfl,ho3⟩:=hv3
  obtain ⟨φ2,hl2,hm3,S⟩:=S.see' hn3 hz5
  have hs4:=ho3.mono hm3
  refine Vm S rfl rfl fun a S=>Vq S Fu rfl rfl rfl fun a S=>Vq S Fu rfl rfl rfl fun a S=>Va S rfl rfl fun a S=>Va S rfl rfl fun a S=>Ld ?_
  replace S:=(S.nl [.blk b1 (Du.enc Au) 40] [false,true] rfl).k5 3 6 7 8 12 rfl
  refine Tn (Fs (Fr (Vm S rfl rfl fun a S=>Vq S Mn rfl rfl rfl fun a S=>Dl (Fc h (S.tm rfl) (fun hb2 h=>?_) (fun hb2 h=>?_)))))
  ·refine Fr (Vm S rfl rfl fun a S=>Vk S rfl rfl fun a S=>Va S rfl rfl fun a S=>Dl (wp_ret (Dv ?_)))
   obtain rfl:=Option.some.inj h
   exact Mq S results27 rfl rfl ⟨_,rfl,(Ro _ _ _)⟩
  ·refine wp_skip (Tn (Fr (Rg (κ:=ByteArray) (ν:=Dk) S rfl Value.string (fun x=>Value.agg (Dk.enc x).toArray) ?_)));clear S;intro a w11 b6 hz6 hk9 S
   refine Va S rfl rfl fun a S=>Dl (Fs (Fr (Vm S rfl rfl fun a S=>lv S (Gi Ss (S.tm rfl) (Gf (Ge Dm.enc_ok hs4))) rfl fun a S=>lv S (Rm rfl) rfl fun a S=>Dl ?_)))
   replace S:=(S.nl [.map b6 (Fi Value.string (fun x=>Value.agg (Dk.enc x).toArray) ([] : List (ByteArray × Dk))) ([] : List (ByteArray × Dk)).length,.blk b1 (Du.enc Au) 40] [true,true] rfl).k7 3 6 7 13 72 73 74 rfl
   obtain ⟨j2,hj2,h⟩:=Eu h
   refine Eh (fun a w'=>∃ x2 : List (ByteArray × Dk),j2 x2 = some r ∧ Sx w [] φ2 [.map b6 (Fi Value.string (fun x=>Value.agg (Dk.enc x).toArray) x2) x2.length,.blk b1 (Du.enc Au) 40] [(3,.pointer (some ⟨b1,0,none⟩)),(6,u4),(7,.map (some b2)),(13,.map (some b6))] 123 a w') ?_ ?_
   ·refine wp_block (Gr (fun (ys2 : List Dm) a w'=>∃ i2 : Nat,∃ x2 : List (ByteArray × Dk),(∃ dn,r3.1 = dn ++ ys2 ∧ dn.length = i2) ∧ Nb j2 ys2 i2 x2 = some r ∧ Sx w [] φ2 [.map b6 (Fi Value.string (fun x=>Value.agg (Dk.enc x).toArray) x2) x2.length,.blk b1 (Du.enc Au) 40] [(3,.pointer (some ⟨b1,0,none⟩)),(6,u4),(7,.map (some b2)),(13,.map (some b6)),(72,u6),(73,iV (r3.1.length : Int)),(74,iV (i2 : Int))] 123 a w') List.length r3.1 ⟨0,([] : List (ByteArray × Dk)),⟨[],rfl,rfl⟩,h,S.nf [true,true] rfl (subR rfl)⟩ ?_)
    clear S h;rintro ys2 a w12 ⟨i2,x2,⟨dn,hd2,hi2⟩,h,S⟩
    cases ys2 with
    | nil =>
     rw [Nb.eq_1] at h
     refine Fr (Vb S Es rfl rfl rfl fun a S=>Ld ?_)
     replace S:=S.k8 3 6 7 13 72 73 74 75 rfl
     exact Tn (Fs (wp_cond_false ((S.tm rfl).trans (congrArg Value.bool (Jd hd2 hi2))) (wp_exit (Ed (Ed (Gn (Tn (⟨x2,h,S.nf [true,true] rfl (subR rfl)⟩))))))))
    | cons y2 ys2 =>
     rw [Nb.eq_2] at h
     refine Fr (Vb S Es rfl rfl rfl fun a S=>Ld ?_)
     replace S:=S.k8 3 6 7 13 72 73 74 75 rfl
     refine Tn (Fs (wp_cond_true ((S.tm rfl).trans (congrArg Value.bool (Ia hd2 hi2))) (wp_skip (Tn (Fs (wp_block (Fs (Fg ?_))))))))
     obtain ⟨b7,o2,hm4,hr5⟩:=Fk (a:=a) (x:=.tmp 72) (y:=.tmp 74) (ty:=0) Ss (Ge Dm.enc_ok hs4) (Jc hd2 hi2) rfl (S.tm rfl) (S.tm rfl)
     refine lv S (hr5 _) rfl ?_;clear S;intro a S
     clear hr5
     refine lv S (Fb isAgg58 sizeOf58 (off:=o2) (o:=0) (part:=(Dm.enc y2)) rfl rfl (S.tm rfl) (hm4.at S.emb)) rfl fun a S=>Hq S zeroValue58 (cs:=[sV An,iV 0,iV 0]) rfl rfl ?_;clear S;intro a w14 b8 hz7 hk10 S
     refine Ex S (S.tm rfl) (S.tm rfl) (i:=0) (off:=0) rfl sizeOf58 (vs:=(Dm.enc y2)) rfl rfl rfl rfl ?_;clear S;intro w15 hk11 S
     refine Dl (Fg (Vm S rfl rfl fun a S=>Vf Yw S rfl rfl fun a S=>Vl isAgg9 0 S rfl rfl rfl rfl fun a S=>Vf JE S rfl rfl fun a S=>lv S (Fb isAgg48 sizeOf48 (off:=0) (o:=1) (part:=(Dk.enc y2.Points)) rfl rfl (S.tm rfl) (S.cellsAt (i:=0) rfl)) rfl fun a S=>Nm (kv:=Value.string) (vv:=(fun x=>Value.agg (Dk.enc x).toArray)) (m:=x2) (key:=y2.Key) (val:=y2.Points) S (i:=1) rfl underlying78 (Lm underlying9) (S.tm rfl) (S.tm rfl) (S.tm rfl) ?_));clear S;intro w16 hk12 S
     refine Ld ?_
     replace S:=(S.nl [.map b6 (Fi Value.string (fun x=>Value.agg (Dk.enc x).toArray) (Gk x2 y2.Key y2.Points)) (Gk x2 y2.Key y2.Points).length,.blk b1 (Du.enc Au) 40] [false,true,true] rfl).k7 3 6 7 13 72 73 74 rfl
     exact Hp (Tn (Fg (Vq S Gc rfl rfl rfl fun a S=>Vm S rfl rfl fun a S=>Dl (⟨ys2,⟨i2 + 1,(Gk x2 y2.Key y2.Points),⟨_,(hd2).trans (List.append_cons _ _ _),by simp [hi2]⟩,h,S.nf [true,true] rfl ⟨rfl,rfl,rfl,rfl,rfl,rfl,(congrArg (fun z=>some (Value.int .i64 z)) (Ib hd2 hi2 (Jp (Ge Dm.enc_ok hs4)))),trivial⟩⟩,Nat.lt_succ_self _⟩))))
   clear S h;rintro a w13 ⟨x2,h,S⟩;rw [hj2] at h;clear hj2 j2
   refine Tn (Fr (Vk S rfl rfl ?_));clear S;intro a S
   replace S:=S.nil 50 7
   refine Dl (Fs (Fr (Vm S rfl rfl fun a S=>lv S (Gi Tf (S.tm rfl) (Gf (Ge Ds.enc_ok hs3))) rfl fun a S=>lv S (Rm rfl) rfl fun a S=>Dl ?_)))
   replace S:=(S.nl [.own (.slice none 0 0) 50 7 ([] : List Je).length (([] : List Je).flatMap Je.enc),.map b6 (Fi Value.string (fun x=>Value.agg (Dk.enc x).toArray) x2) x2.length,.blk b1 (Du.enc Au) 40] [true,true,true] rfl).k7 3 7 13 16 84 85 86 rfl
   obtain ⟨j3,hj3,h⟩:=Eu h
   refine Eh (fun a w'=>∃ x3 : List Je,∃ v6 : Value,j3 x3 = some r ∧ Sx w [] φ2 [.own v6 50 7 x3.length (x3.flatMap Je.enc),.map b6 (Fi Value.string (fun x=>Value.agg (Dk.enc x).toArray) x2) x2.length,.blk b1 (Du.enc Au) 40] [(16,v6)] 123 a w') ?_ ?_
   ·refine wp_block (Gr (fun (ys3 : List Ds) a w'=>∃ i3 : Nat,∃ x3 : List Je,∃ v6 : Value,(∃ dn,r1.1 = dn ++ ys3 ∧ dn.length = i3) ∧ Me Au r1 x2 j3 ys3 i3 x3 = some r ∧ Sx w [] φ2 [.own v6 50 7 x3.length (x3.flatMap Je.enc),.map b6 (Fi Value.string (fun x=>Value.agg (Dk.enc x).toArray) x2) x2.length,.blk b1 (Du.enc Au) 40] [(3,.pointer (some ⟨b1,0,none⟩)),(7,.map (some b2)),(13,.map (some b6)),(16,v6),(84,u4),(85,iV (r1.1.length : Int)),(86,iV (i3 : Int))] 123 a w') List.length r1.1 ⟨0,([] : List Je),(.slice none 0 0),⟨[],rfl,rfl⟩,h,S.nf [true,true,true] rfl (subR rfl)⟩ ?_)
    clear S h;rintro ys3 a w17 ⟨i3,x3,v6,⟨dn,hd3,hi3⟩,h,S⟩
    cases ys3 with
    | nil =>
     rw [Me.eq_1] at h
     refine Fr (Vb S Es rfl rfl rfl fun a S=>Ld ?_)
     replace S:=S.k8 3 7 13 16 84 85 86 87 rfl
     exact Tn (Fs (wp_cond_false ((S.tm rfl).trans (congrArg Value.bool (Jd hd3 hi3))) (wp_exit (Ed (Ed (Gn (Tn (⟨x3,v6,h,S.nf [true,true,true] rfl ⟨rfl,trivial⟩⟩))))))))
    | cons y3 ys3 =>
     rw [Me.eq_2] at h
     refine Fr (Vb S Es rfl rfl rfl fun a S=>Ld ?_)
     replace S:=S.k8 3 7 13 16 84 85 86 87 rfl
     refine Tn (Fs (wp_cond_true ((S.tm rfl).trans (congrArg Value.bool (Ia hd3 hi3))) (wp_skip (Tn (Fs (wp_block (Fs (Fg ?_))))))))
     obtain ⟨b9,o3,hm5,hr6⟩:=Fk (a:=a) (x:=.tmp 84) (y:=.tmp 86) (ty:=0) Tf (Ge Ds.enc_ok hs3) (Jc hd3 hi3) rfl (S.tm rfl) (S.tm rfl)
     refine lv S (hr6 _) rfl ?_;clear S;intro a S
     clear hr6
     refine lv S (Fb isAgg128 sizeOf128 (off:=o3) (o:=0) (part:=(Ds.enc y3)) rfl rfl (S.tm rfl) ((hm5.mono hl2).at S.emb)) rfl fun a S=>Hq S zeroValue128 (cs:=[sV An,iV 0,iV 0,iV 0]) rfl rfl ?_;clear S;intro a w19 b10 hz8 hk13 S
     refine Ex S (S.tm rfl) (S.tm rfl) (i:=0) (off:=0) rfl sizeOf128 (vs:=(Ds.enc y3)) rfl rfl rfl rfl ?_;clear S;intro w20 hk14 S
     refine Dz (Vm S rfl rfl fun a S=>Vf Vr S rfl rfl fun a S=>Vl isAgg9 3 S rfl rfl rfl rfl ?_);clear S;intro a S
     obtain ⟨hc2,h⟩:=Ig h
     refine lv S (IW (m:=Au.Key) (n:=On) (S.tm rfl) rfl (by have:=Nu hc2;omega)) rfl ?_;clear S;intro a S
     refine Vf DA S rfl rfl fun a S=>Vl isAgg9 0 S rfl rfl rfl rfl ?_;clear S;intro a S
     obtain ⟨hc3,h⟩:=Ig h
     refine lv S (IW (m:=(Au.Key ++ On)) (n:=y3.Who) (S.tm rfl) (S.tm rfl) (by have:=Nu hc3;omega)) rfl ?_;clear S;intro a S
     refine lv S (FA (kv:=Value.string) (vv:=(fun x=>Value.agg (Dk.enc x).toArray)) (m:=x2) (key:=(Au.Key ++ On) ++ y3.Who) (z:=(Dk.mk 0 0)) (S.map_at (i:=2) rfl) underlying78 (Lm underlying9) zeroValue48 (S.tm rfl) (S.tm rfl)) rfl fun a S=>Vm S rfl rfl fun a S=>Vq S Fu rfl rfl rfl fun a S=>Vq S Fu rfl rfl rfl fun a S=>Hq S zeroValue48 (cs:=[iV 0,iV 0]) rfl rfl ?_;clear S;intro a w21 b11 hz9 hk15 S
     refine Ex S (S.tm rfl) (S.tm rfl) (i:=0) (off:=0) rfl sizeOf48 (vs:=(Dk.enc (Ec x2 ((Au.Key ++ On) ++ y3.Who) (Dk.mk 0 0)))) rfl rfl rfl rfl ?_;clear S;intro w22 hk16 S
     refine Va S rfl rfl fun a S=>Ld ?_
     replace S:=(S.nl [.blk b11 (Dk.enc (Ec x2 ((Au.Key ++ On) ++ y3.Who) (Dk.mk 0 0))) 48,.blk b10 (Ds.enc y3) 128,.own v6 50 7 x3.length (x3.flatMap Je.enc),.map b6 (Fi Value.string (fun x=>Value.agg (Dk.enc x).toArray) x2) x2.length,.blk b1 (Du.enc Au) 40] [true,true,true,true,true] rfl).k10 3 7 13 16 18 19 20 84 85 86 rfl
     refine Tn (Fs (Fr (Vm S rfl rfl fun a S=>Vu S Ih rfl rfl fun a S=>Dl ?_)))
     obtain ⟨j4,hj4,h⟩:=Eu h
     refine Eh (fun a w'=>∃ x4 : Int,∃ x5 : Int,j4 x4 x5 = some r ∧ Sx w [] φ2 [.blk b11 [iV x4,iV x5] 48,.blk b10 (Ds.enc y3) 128,.own v6 50 7 x3.length (x3.flatMap Je.enc),.map b6 (Fi Value.string (fun x=>Value.agg (Dk.enc x).toArray) x2) x2.length,.blk b1 (Du.enc Au) 40] [(3,.pointer (some ⟨b1,0,none⟩)),(7,.map (some b2)),(13,.map (some b6)),(16,v6),(18,.pointer (some ⟨b10,0,none⟩)),(19,.pointer (some ⟨b11,0,none⟩)),(84,u4),(85,iV (r1.1.length : Int)),(86,iV (i3 : Int))] 123 a w') ?_ ?_
     ·refine Fc h (S.tm rfl) (fun hb3 h=>?_) (fun hb3 h=>?_)
      ·refine Fg (lv S (Nl TI (pv:=[(0,iV 0),(1,iV 1)]) ⟨rfl,rfl,rfl,rfl,trivial⟩ (cs:=[iV 0,iV 1]) (by kernel_rfl)) rfl fun a S=>Ex S (S.tm rfl) (S.tm rfl) (i:=0) (off:=0) rfl sizeOf48 (vs:=[iV 0,iV 1]) rfl rfl rfl rfl ?_);clear S;intro w24 hk17 S
       exact Dl (⟨0,1,h,S.nf [true,true,true,true,true] rfl (subR rfl)⟩)
      ·exact wp_skip (Tn (⟨(Ec x2 ((Au.Key ++ On) ++ y3.Who) (Dk.mk 0 0)).Num,(Ec x2 ((Au.Key ++ On) ++ y3.Who) (Dk.mk 0 0)).Den,h,S.nf [true,true,true,true,true] rfl (subR rfl)⟩))
     clear S h;rintro a w23 ⟨x4,x5,h,S⟩;rw [hj4] at h;clear hj4 j4
     refine Tn (Fg (Vm S rfl rfl fun a S=>Vf DB S rfl rfl fun a S=>Vl isAgg3 1 S rfl rfl rfl rfl fun a S=>Vf DA S rfl rfl fun a S=>Vl isAgg9 1 S rfl rfl rfl rfl fun a S=>Vm S rfl rfl fun a S=>Vf DA S rfl rfl fun a S=>Vl isAgg9 1 S rfl rfl rfl rfl fun a S=>lv S (Pt (kv:=Value.string) (vv:=Value.string) (m:=r1.2.1) (key:=y3.Who) (z:=An) (S.emb _ _ (hl2 _ _ hq1)) underlying124 (Lm underlying9) zeroValue9 (S.tm rfl) (S.tm rfl)) rfl ?_));clear S;intro a S
     refine Vf AR S rfl rfl fun a S=>Vl isAgg3 1 S rfl rfl rfl rfl fun a S=>Vf PG S rfl rfl fun a S=>Vl isAgg3 1 S rfl rfl rfl rfl fun a S=>lv S (Fb isAgg48 sizeOf48 (off:=0) (o:=0) (part:=[iV x4,iV x5]) rfl rfl (S.tm rfl) (S.cellsAt (i:=0) rfl)) rfl fun a S=>lv S (Nl bt_50 (pv:=[(0,iV y3.Rank),(1,sV y3.Who),(2,sV (Ec r1.2.1 y3.Who An)),(3,iV y3.Time),(4,iV y3.Fault),(5,.agg #[iV x4,iV x5])]) ⟨rfl,(S.tm rfl),rfl,(S.tm rfl),rfl,(S.tm rfl),rfl,(S.tm rfl),rfl,(S.tm rfl),rfl,(S.tm rfl),trivial⟩ (cs:=[iV y3.Rank,sV y3.Who,sV (Ec r1.2.1 y3.Who An),iV y3.Time,iV y3.Fault,iV x4,iV x5]) (by kernel_rfl)) rfl fun a S=>Ey S underlying43 sizeOf50 zeroValue50 rfl rfl (pv:=[(0,.agg #[iV y3.Rank,sV y3.Who,sV (Ec r1.2.1 y3.Who An),iV y3.Time,iV y3.Fault,iV x4,iV x5])]) ⟨rfl,(S.tm rfl),trivial⟩ (cs:=[iV y3.Rank,sV y3.Who,sV (Ec r1.2.1 y3.Who An),iV y3.Time,iV y3.Fault,iV x4,iV x5]) (by kernel_rfl) rfl ?_;clear S;intro a w25 b12 hz10 hk18 S
     obtain ⟨hc4,h⟩:=Ig h
     refine Ni PE Je.enc_ok S (S.tm rfl) (i:=3) rfl (S.tm rfl) (j:=0) rfl (ys:=[(Je.mk y3.Rank y3.Who (Ec r1.2.1 y3.Who An) y3.Time y3.Fault (Dk.mk x4 x5))]) rfl rfl rfl rfl (by have:=Nu hc4;omega) rfl ?_;clear S;intro v7 a w26 hk19 S
     refine Va S rfl rfl fun a S=>Ld ?_
     replace S:=(S.nl [.own v7 50 7 (x3 ++ [(Je.mk y3.Rank y3.Who (Ec r1.2.1 y3.Who An) y3.Time y3.Fault (Dk.mk x4 x5))]).length ((x3 ++ [(Je.mk y3.Rank y3.Who (Ec r1.2.1 y3.Who An) y3.Time y3.Fault (Dk.mk x4 x5))]).flatMap Je.enc),.map b6 (Fi Value.string (fun x=>Value.agg (Dk.enc x).toArray) x2) x2.length,.blk b1 (Du.enc Au) 40] [false,false,false,true,true,true] rfl).k7 3 7 13 16 84 85 86 rfl
     exact Hp (Tn (Fg (Vq S Gc rfl rfl rfl fun a S=>Vm S rfl rfl fun a S=>Dl (⟨ys3,⟨i3 + 1,(x3 ++ [(Je.mk y3.Rank y3.Who (Ec r1.2.1 y3.Who An) y3.Time y3.Fault (Dk.mk x4 x5))]),v7,⟨_,(hd3).trans (List.append_cons _ _ _),by simp [hi3]⟩,h,S.nf [true,true,true] rfl ⟨rfl,rfl,rfl,rfl,rfl,rfl,(congrArg (fun z=>some (Value.int .i64 z)) (Ib hd3 hi3 (Jp (Ge Ds.enc_ok hs3)))),trivial⟩⟩,Nat.lt_succ_self _⟩))))
   clear S h;rintro a w18 ⟨x3,v6,h,S⟩;rw [hj3] at h;clear hj3 j3
   refine Tn (Fr (Vm S rfl rfl fun a S=>Va S rfl rfl fun a S=>Vk S rfl rfl fun a S=>Dl (wp_ret ?_)))
   obtain rfl:=Option.some.inj h
   exact Mq S results27 rfl rfl ⟨_,rfl,(Ut S (i:=0) rfl rfl)⟩
theorem IS (w : World) (Ad : Jr) (Cc : R32) (Cj : Tt (view w []) Ad Cc) (Ac : Value) (Aj : List Di) (Ai : Slc (view w []) 11 Ac (Aj.map Di.enc)) (Av : ByteArray) (Bg : Int) (r : (List Je) × Int) (h : Xb Ad Aj Av Bg = some r) :
    Calls prog 10 [.agg (R32.enc Cc).toArray,Ac,sV Av,iV Bg].toArray w (Ret w [] fun τ v _=>∃ u1 : Value,v = .tuple #[u1,iV r.2] ∧ Uq τ 50 7 u1 r.1.length (r.1.flatMap Je.enc)):=by
 obtain ⟨u1,u2,rfl,hs1,⟨u3,rfl,hs2⟩⟩:=Cj
 refine Fe func10 rfl ntmps10 rfl fun a S=>?_
 unfold Xb at h
 replace S:=S.k4 0 1 2 3 rfl
 refine Fr (Lw S (S.tm rfl) (cs:=[u1.val,u3.val,iV Ad.Table.Relay,iV Ad.Table.Most,iV Ad.Final.Size,iV Ad.Final.Many,iV Ad.Final.Reserves]) rfl rfl ?_);clear S;intro a w1 b1 hz1 hk1 S
 refine Vk S rfl rfl fun a S=>Vk S rfl rfl fun a S=>Dz (lv S (Fb isAgg32 sizeOf32 (off:=0) (o:=0) (part:=[u1.val,u3.val,iV Ad.Table.Relay,iV Ad.Table.Most,iV Ad.Final.Size,iV Ad.Final.Many,iV Ad.Final.Reserves]) rfl rfl (S.tm rfl) (S.cellsAt (i:=0) rfl)) rfl ?_);clear S;intro a S
 iterate 3 (refine Vm S rfl rfl ?_;clear S;intro a S)
 obtain ⟨r1,hr1,h⟩:=Fa h
 have hz2:=S.keep.size
 refine Eb S (fun _=>Dq (vs:=[.agg (R32.enc (R32.mk u1 (R28.mk u3 Ad.Table.Relay Ad.Table.Most) Ad.Final)).toArray,Ac,sV Av,iV Bg]) ⟨(S.tm rfl),(S.tm rfl),(S.tm rfl),(S.tm rfl),trivial⟩ call26) (PN _ (join (view w []) nov) (Pw (S.le_arg Eg) (S.le_new Eg)) Ad (R32.mk u1 (R28.mk u3 Ad.Table.Relay Ad.Table.Most) Ad.Final) ⟨u1,(R28.mk u3 Ad.Table.Relay Ad.Table.Most),rfl,(hs1.mono (le_join_left _ _)),⟨u3,rfl,(hs2.mono (le_join_left _ _))⟩⟩ Ac Aj (Ai.mono (le_join_left _ _)) Av Bg _ hr1) rfl ?_;clear S;intro v1 a w2 hv1 hk2 hn1 S
 obtain ⟨u4,rfl,ho1⟩:=hv1
 obtain ⟨φ1,hl1,hm1,S⟩:=S.see' hn1 hz2
 have hq1:=CU.mono (Sg (Tx hl1 hm1)) (Tx hl1 hm1) ho1
 refine Vm S rfl rfl ?_;clear S;intro a S
 iterate 3 (refine Vq S Fu rfl rfl rfl ?_;clear S;intro a S)
 refine Hq S zeroValue40 (cs:=[sV An,iV 0,iV 0,iV 0,iV 0,iV 0,iV 0,iV 0]) rfl rfl ?_;clear S;intro a w3 b2 hz3 hk3 S
 refine Va S rfl rfl fun a S=>Ex S (S.tm rfl) (S.tm rfl) (i:=0) (off:=0) rfl sizeOf40 (vs:=(Du.enc r1.2.1)) rfl rfl rfl rfl ?_;clear S;intro w4 hk4 S
 refine Va S rfl rfl fun a S=>Ld ?_
 replace S:=(S.nl [.blk b2 (Du.enc r1.2.1) 40] [true,false] rfl).k3 10 11 12 rfl
 refine Tn (Fs (Fr (Vm S rfl rfl fun a S=>Vq S Mn rfl rfl rfl fun a S=>Dl (Fc h (S.tm rfl) (fun hb1 h=>?_) (fun hb1 h=>?_)))))
 ·refine Fr (Vm S rfl rfl fun a S=>Vk S rfl rfl fun a S=>Va S rfl rfl fun a S=>Dl (wp_ret (Dv ?_)))
  obtain rfl:=Option.some.inj h
  exact Mq S results10 rfl rfl ⟨_,rfl,(Ro _ _ _)⟩
 ·refine wp_skip (Tn (Fr (Vm S rfl rfl fun a S=>lv S (Fb isAgg40 sizeOf40 (off:=0) (o:=0) (part:=(Du.enc r1.2.1)) rfl rfl (S.tm rfl) (S.cellsAt (i:=0) rfl)) rfl ?_)));clear S;intro a S
  obtain ⟨r2,hr2,h⟩:=Fa h
  obtain ⟨b3,q1,rfl,hq2,hb2⟩:=hq1.deref hr2
  obtain ⟨u5,u9,rfl,⟨u6,u7,rfl,hs3,⟨u8,rfl,hs4⟩⟩,hs5⟩:=hq2
  replace hb2 : (join (view w []) φ1) b3 = some (.cells [u6.val,u8.val,iV r2.p_.Table.Relay,iV r2.p_.Table.Most,iV r2.p_.Final.Size,iV r2.p_.Final.Many,iV r2.p_.Final.Reserves,u9.val].toArray 133 (0,0)):=hb2
  obtain ⟨r3,hr3,h⟩:=Fa h
  have hz4:=S.keep.size
  refine Eb S (fun _=>Dq (vs:=[.pointer (some ⟨b3,0,none⟩),.agg (Du.enc r1.2.1).toArray]) ⟨(S.tm rfl),(S.tm rfl),trivial⟩ call27) (AX _ b3 r2.p_ (R32.mk u6 (R28.mk u8 r2.p_.Table.Relay r2.p_.Table.Most) r2.p_.Final) ⟨u6,(R28.mk u8 r2.p_.Table.Relay r2.p_.Table.Most),rfl,(hs3.mono (Pw (S.le_arg Eg) (S.le_new Eg))),⟨u8,rfl,(hs4.mono (Pw (S.le_arg Eg) (S.le_new Eg)))⟩⟩ u9.val r2.deeds_ (hs5.mono (Pw (S.le_arg Eg) (S.le_new Eg))) ((Pw (S.le_arg Eg) (S.le_new Eg)) _ _ hb2) r1.2.1 _ hr3) rfl ?_;clear S;intro v2 a w5 hv2 hk5 hn2 S
  obtain ⟨u10,rfl,ho2⟩:=hv2
  obtain ⟨φ2,hl2,hm2,S⟩:=S.see' hn2 hz4
  have hs6:=ho2.mono hm2
  refine Vq S Fu rfl rfl rfl fun a S=>Vq S Fu rfl rfl rfl fun a S=>Va S rfl rfl fun a S=>Va S rfl rfl fun a S=>Dl (wp_ret ?_)
  obtain rfl:=Option.some.inj h
  exact Mq S results10 rfl rfl ⟨_,rfl,((hs6).mono S.le_newer)⟩
theorem LK (w : World) (Ah : Dk) (Ak : Dk) (r : Dk) (h : BP Ah Ak = some r) :
    Calls prog 70 [.agg (Dk.enc Ah).toArray,.agg (Dk.enc Ak).toArray].toArray w (Ret w [] fun _ v _=>v = .agg (Dk.enc r).toArray):=by
 refine Fe func70 rfl ntmps70 rfl fun a S=>?_
 unfold BP at h
 replace S:=S.k2 0 1 rfl
 refine Fr (Lw S (S.tm rfl) (cs:=(Dk.enc Ah)) rfl rfl ?_);clear S;intro a w1 b1 hz1 hk1 S
 refine Lw S (S.tm rfl) (cs:=(Dk.enc Ak)) rfl rfl ?_;clear S;intro a w2 b2 hz2 hk2 S
 refine Hq S zeroValue48 (cs:=[iV 0,iV 0]) rfl rfl ?_;clear S;intro a w3 b3 hz3 hk3 S
 refine Dz (Vf GA S rfl rfl fun a S=>Vl isAgg3 2 S rfl rfl rfl rfl fun a S=>Vf AB S rfl rfl fun a S=>Vl isAgg3 1 S rfl rfl rfl rfl fun a S=>Vb S Vx rfl rfl rfl fun a S=>Vf GA S rfl rfl fun a S=>Vl isAgg3 1 S rfl rfl rfl rfl ?_);clear S;intro a S
 refine Vf AB S rfl rfl fun a S=>Vl isAgg3 2 S rfl rfl rfl rfl fun a S=>Vb S Vx rfl rfl rfl fun a S=>Vb S Gc rfl rfl rfl fun a S=>Vf AB S rfl rfl fun a S=>Vl isAgg3 2 S rfl rfl rfl rfl fun a S=>Vf AB S rfl rfl fun a S=>Vl isAgg3 1 S rfl rfl rfl rfl fun a S=>Vb S Vx rfl rfl rfl ?_;clear S;intro a S
 obtain ⟨r1,hr1,h⟩:=Fa h
 refine Eb S (fun _=>Dq (vs:=[iV (W ((W (Ah.Num * Ak.Den)) + (W (Ak.Num * Ah.Den)))),iV (W (Ah.Den * Ak.Den))]) ⟨(S.tm rfl),(S.tm rfl),trivial⟩ call112) (Xi _ (W ((W (Ah.Num * Ak.Den)) + (W (Ak.Num * Ah.Den)))) (W (Ah.Den * Ak.Den)) _ hr1) rfl ?_;clear S;intro v1 a w4 hv1 hk4 hn1 S
 subst hv1
 refine Ex S (S.tm rfl) (S.tm rfl) (i:=0) (off:=0) rfl sizeOf48 (vs:=(Dk.enc r1)) rfl rfl rfl rfl ?_;clear S;intro w5 hk5 S
 refine Ld ?_
 replace S:=(S.nl [.blk b3 (Dk.enc r1) 48] [true,false,false] rfl).k1 4 rfl
 refine Tn (wp_ret ?_)
 obtain rfl:=Option.some.inj h
 exact Xo S (rs:=[.cell 4 48]) (vs:=[.agg #[iV r1.Num,iV r1.Den]]) results70 ⟨(Tc (off:=0) S rfl isAgg48 sizeOf48 rfl (S.cellsAt (i:=0) rfl)),trivial⟩ rfl rfl
theorem IT (w : World) (Ao : Jx) (Ca : R28) (Cf : Xt (view w []) Ao Ca) (Ac : Value) (Aj : List Dj) (Ai : Slc (view w []) 5 Ac (Aj.map Dj.enc)) (r : (List (ByteArray × Dk))) (h : Ys Ao Aj = some r) :
    Calls prog 30 [.agg (R28.enc Ca).toArray,Ac].toArray w (Ret w [] fun τ v _=>∃ b : Nat,v = .map (some b) ∧ τ b = some (.map (Fi Value.string (fun x=>Value.agg (Dk.enc x).toArray) r) r.length)):=by
 obtain ⟨u1,rfl,hs1⟩:=Cf
 refine Fe func30 rfl ntmps30 rfl fun a S=>?_
 unfold Ys at h
 replace S:=S.k2 0 1 rfl
 refine Fr (Lw S (S.tm rfl) (cs:=[u1.val,iV Ao.Relay,iV Ao.Most]) rfl rfl ?_);clear S;intro a w1 b1 hz1 hk1 S
 refine Vk S rfl rfl fun a S=>Dz (Rg (κ:=ByteArray) (ν:=Dk) S rfl Value.string (fun x=>Value.agg (Dk.enc x).toArray) ?_);clear S;intro a w2 b2 hz2 hk2 S
 refine Va S rfl rfl fun a S=>Dl (Fs (Fr (Vm S rfl rfl fun a S=>lv S (Gi Qh (S.tm rfl) (Gf Ai)) rfl fun a S=>lv S (Rm rfl) rfl fun a S=>Dl ?_)))
 replace S:=(S.nl [.map b2 (Fi Value.string (fun x=>Value.agg (Dk.enc x).toArray) ([] : List (ByteArray × Dk))) ([] : List (ByteArray × Dk)).length,.blk b1 [u1.val,iV Ao.Relay,iV Ao.Most] 28] [true,true] rfl).k6 1 2 5 11 12 13 rfl
 obtain ⟨j1,hj1,h⟩:=Eu h
 refine Eh (fun a w'=>∃ x1 : List (ByteArray × Dk),j1 x1 = some r ∧ Sx w [] nov [.map b2 (Fi Value.string (fun x=>Value.agg (Dk.enc x).toArray) x1) x1.length,.blk b1 [u1.val,iV Ao.Relay,iV Ao.Most] 28] [(1,Ac),(2,.pointer (some ⟨b1,0,none⟩)),(5,.map (some b2))] 47 a w') ?_ ?_
 ·refine wp_block (Gr (fun (ys1 : List Dj) a w'=>∃ i1 : Nat,∃ x1 : List (ByteArray × Dk),(∃ dn,Aj = dn ++ ys1 ∧ dn.length = i1) ∧ Mv j1 ys1 i1 x1 = some r ∧ Sx w [] nov [.map b2 (Fi Value.string (fun x=>Value.agg (Dk.enc x).toArray) x1) x1.length,.blk b1 [u1.val,iV Ao.Relay,iV Ao.Most] 28] [(1,Ac),(2,.pointer (some ⟨b1,0,none⟩)),(5,.map (some b2)),(11,Ac),(12,iV (Aj.length : Int)),(13,iV (i1 : Int))] 47 a w') List.length Aj ⟨0,([] : List (ByteArray × Dk)),⟨[],rfl,rfl⟩,h,S.nf [true,true] rfl (subR rfl)⟩ ?_)
  clear S h;rintro ys1 a w3 ⟨i1,x1,⟨dn,hd1,hi1⟩,h,S⟩
  cases ys1 with
  | nil =>
   rw [Mv.eq_1] at h
   refine Fr (Vb S Es rfl rfl rfl fun a S=>Ld ?_)
   replace S:=S.k7 1 2 5 11 12 13 14 rfl
   exact Tn (Fs (wp_cond_false ((S.tm rfl).trans (congrArg Value.bool (Jd hd1 hi1))) (wp_exit (Ed (Ed (Gn (Tn (⟨x1,h,S.nf [true,true] rfl (subR rfl)⟩))))))))
  | cons y1 ys1 =>
   rw [Mv.eq_2] at h
   refine Fr (Vb S Es rfl rfl rfl fun a S=>Ld ?_)
   replace S:=S.k7 1 2 5 11 12 13 14 rfl
   refine Tn (Fs (wp_cond_true ((S.tm rfl).trans (congrArg Value.bool (Ia hd1 hi1))) (wp_skip (Tn (Fs ?_)))))
   obtain ⟨j2,hj2,h⟩:=Eu h
   refine Eh (fun a w'=>∃ x2 : List (ByteArray × Dk),j2 x2 = some r ∧ Sx w [] nov [.map b2 (Fi Value.string (fun x=>Value.agg (Dk.enc x).toArray) x2) x2.length,.blk b1 [u1.val,iV Ao.Relay,iV Ao.Most] 28] [(1,Ac),(2,.pointer (some ⟨b1,0,none⟩)),(5,.map (some b2)),(11,Ac),(12,iV (Aj.length : Int)),(13,iV (i1 : Int))] 47 a w') ?_ ?_
   ·refine wp_block (Fs (Fg ?_))
    obtain ⟨b3,o1,hm1,hr1⟩:=Fk (a:=a) (x:=.tmp 11) (y:=.tmp 13) (ty:=0) Qh Ai (Jc hd1 hi1) rfl (S.tm rfl) (S.tm rfl)
    refine lv S (hr1 _) rfl ?_;clear S;intro a S
    clear hr1
    refine lv S (Fb isAgg52 sizeOf52 (off:=o1) (o:=0) (part:=(Dj.enc y1)) rfl rfl (S.tm rfl) (hm1.at S.emb0)) rfl fun a S=>Hq S zeroValue52 (cs:=[sV An,sV An,sV An,iV 0,bV false]) rfl rfl ?_;clear S;intro a w6 b4 hz3 hk3 S
    refine Ex S (S.tm rfl) (S.tm rfl) (i:=0) (off:=0) rfl sizeOf52 (vs:=(Dj.enc y1)) rfl rfl rfl rfl ?_;clear S;intro w7 hk4 S
    refine Dz (Vf Yv S rfl rfl fun a S=>Vl isAgg9 0 S rfl rfl rfl rfl fun a S=>Vq S Zv rfl rfl rfl fun a S=>Dl ?_)
    obtain ⟨j3,hj3,h⟩:=Eu h
    refine Eh (fun a w'=>∃ x3 : List (ByteArray × Dk),j3 x3 = some r ∧ Sx w [] nov [.map b2 (Fi Value.string (fun x=>Value.agg (Dk.enc x).toArray) x3) x3.length,.blk b1 [u1.val,iV Ao.Relay,iV Ao.Most] 28] [(1,Ac),(2,.pointer (some ⟨b1,0,none⟩)),(5,.map (some b2)),(11,Ac),(12,iV (Aj.length : Int)),(13,iV (i1 : Int))] 47 a w') ?_ ?_
    ·refine Fc h (S.tm rfl) (fun hb1 h=>?_) (fun hb1 h=>?_)
     ·refine Gt [] ([b2]) Tryz.mixed S rfl (by kernel_rfl) ?_;clear S;intro w11 hk7 hsel S
      refine Ea 0 S hsel rfl rfl rfl (by kernel_rfl) (by kernel_rfl) rfl (fun _ hw=>(Rm (S.tm rfl))) fun a S=>Ea 1 S hsel rfl rfl rfl (by kernel_rfl) (by kernel_rfl) rfl (fun _ hw=>(Gd Yv (S.tm rfl))) fun a S=>Ea 2 S hsel rfl rfl rfl (by kernel_rfl) (by kernel_rfl) rfl (fun _ hw=>(Hx isAgg9 (off:=0) (o:=2) (S.tm rfl) ((S.blk_mem (i:=0) (cells:=(Dj.enc y1)) (b:=b4) (T:=52) rfl (Nc (i:=1) (j:=0) (e:=.map b2 (Fi Value.string (fun x=>Value.agg (Dk.enc x).toArray) x1) x1.length) (e':=.blk b4 (Dj.enc y1) 52) S rfl rfl rfl)).kept hw) rfl)) fun a S=>Hb 3 (by kernel_rfl) rfl (Eb S (fun _=>Dq (vs:=[]) trivial call68) (DL _ _ rfl) rfl ?_);clear S;intro v2 a w12 hv2 hk8 hn2 S
      subst hv2
      refine Ld (Hy (Keep.none hk8) (Hb 4 (by kernel_rfl) rfl (Nm (kv:=Value.string) (vv:=(fun x=>Value.agg (Dk.enc x).toArray)) (m:=x1) (key:=y1.Club) (val:=Jm) S (i:=1) rfl underlying78 (Lm underlying9) (S.tm rfl) (S.tm rfl) (S.tm rfl) ?_)));clear S;intro w13 hk9 S
      refine Ld (Hy hk9 (Vt (by kernel_rfl) ?_))
      clear hsel
      replace S:=(S.nl [.map b2 (Fi Value.string (fun x=>Value.agg (Dk.enc x).toArray) (Gk x1 y1.Club Jm)) (Gk x1 y1.Club Jm).length,.blk b1 [u1.val,iV Ao.Relay,iV Ao.Most] 28] [false,true,true] rfl).k6 1 2 5 11 12 13 rfl
      exact Tn (⟨(Gk x1 y1.Club Jm),h,S.nf [true,true] rfl (subR rfl)⟩)
     ·exact wp_skip (Tn (⟨x1,h,S.nf [false,true,true] rfl (subR rfl)⟩))
    clear S h;rintro a w8 ⟨x3,h,S⟩;rw [hj3] at h;clear hj3 j3
    exact Hp (Tn (⟨x3,h,S.nf [true,true] rfl (subR rfl)⟩))
   clear S h;rintro a w5 ⟨x2,h,S⟩;rw [hj2] at h;clear hj2 j2
   exact Tn (Fg (Vq S Gc rfl rfl rfl fun a S=>Vm S rfl rfl fun a S=>Dl (⟨ys1,⟨i1 + 1,x2,⟨_,(hd1).trans (List.append_cons _ _ _),by simp [hi1]⟩,h,S.nf [true,true] rfl ⟨rfl,rfl,rfl,rfl,rfl,(congrArg (fun z=>some (Value.int .i64 z)) (Ib hd1 hi1 (Jp Ai))),trivial⟩⟩,Nat.lt_succ_self _⟩)))
 clear S h;rintro a w4 ⟨x1,h,S⟩;rw [hj1] at h;clear hj1 j1
 refine Tn (Fs (Fr (lv S (Fb isAgg28 sizeOf28 (off:=0) (o:=0) (part:=[u1.val,iV Ao.Relay,iV Ao.Most]) rfl rfl (S.tm rfl) (S.cellsAt (i:=1) rfl)) rfl fun a S=>Vm S rfl rfl ?_)));clear S;intro a S
 obtain ⟨r1,hr2,h⟩:=Fa h
 have hz4:=S.keep.size
 refine Eb S (fun _=>Dq (vs:=[.agg (R28.enc (R28.mk u1 Ao.Relay Ao.Most)).toArray,Ac]) ⟨(S.tm rfl),(S.tm rfl),trivial⟩ call69) (DM _ Ao (R28.mk u1 Ao.Relay Ao.Most) ⟨u1,rfl,(hs1.mono (S.le_arg Eg))⟩ Ac Aj (Ai.mono (S.le_arg Eg)) _ hr2) rfl ?_;clear S;intro v3 a w14 hv3 hk10 hn3 S
 obtain ⟨φ1,hl1,hm2,S⟩:=S.see' hn3 hz4
 have hs2:=hv3.mono hm2
 refine lv S (Gi AM (S.tm rfl) (Gf (Ge Dp.enc_ok hs2))) rfl fun a S=>lv S (Rm rfl) rfl fun a S=>Dl ?_
 replace S:=S.d1.k4 5 27 28 29 rfl
 obtain ⟨j4,hj4,h⟩:=Eu h
 refine Eh (fun a w'=>∃ x4 : List (ByteArray × Dk),j4 x4 = some r ∧ Sx w [] φ1 [.map b2 (Fi Value.string (fun x=>Value.agg (Dk.enc x).toArray) x4) x4.length] [(5,.map (some b2))] 47 a w') ?_ ?_
 ·refine wp_block (Gr (fun (ys2 : List Dp) a w'=>∃ i2 : Nat,∃ x4 : List (ByteArray × Dk),(∃ dn,r1 = dn ++ ys2 ∧ dn.length = i2) ∧ Ll j4 ys2 i2 x4 = some r ∧ Sx w [] φ1 [.map b2 (Fi Value.string (fun x=>Value.agg (Dk.enc x).toArray) x4) x4.length] [(5,.map (some b2)),(27,v3),(28,iV (r1.length : Int)),(29,iV (i2 : Int))] 47 a w') List.length r1 ⟨0,x1,⟨[],rfl,rfl⟩,h,S.nf [true] rfl (subR rfl)⟩ ?_)
  clear S h;rintro ys2 a w15 ⟨i2,x4,⟨dn,hd2,hi2⟩,h,S⟩
  cases ys2 with
  | nil =>
   rw [Ll.eq_1] at h
   refine Fr (Vb S Es rfl rfl rfl fun a S=>Ld ?_)
   replace S:=S.k5 5 27 28 29 30 rfl
   exact Tn (Fs (wp_cond_false ((S.tm rfl).trans (congrArg Value.bool (Jd hd2 hi2))) (wp_exit (Ed (Ed (Gn (Tn (⟨x4,h,S.nf [true] rfl ⟨rfl,trivial⟩⟩))))))))
  | cons y2 ys2 =>
   rw [Ll.eq_2] at h
   refine Fr (Vb S Es rfl rfl rfl fun a S=>Ld ?_)
   replace S:=S.k5 5 27 28 29 30 rfl
   refine Tn (Fs (wp_cond_true ((S.tm rfl).trans (congrArg Value.bool (Ia hd2 hi2))) (wp_skip (Tn (Fs (wp_block (Fs (Fg ?_))))))))
   obtain ⟨b5,o2,hm3,hr3⟩:=Fk (a:=a) (x:=.tmp 27) (y:=.tmp 29) (ty:=0) AM (Ge Dp.enc_ok hs2) (Jc hd2 hi2) rfl (S.tm rfl) (S.tm rfl)
   refine lv S (hr3 _) rfl ?_;clear S;intro a S
   clear hr3
   refine lv S (Fb isAgg143 sizeOf143 (off:=o2) (o:=0) (part:=(Dp.enc y2)) rfl rfl (S.tm rfl) (hm3.at S.emb)) rfl fun a S=>Hq S zeroValue143 (cs:=[sV An,sV An,sV An,iV 0,bV false,iV 0,iV 0]) rfl rfl ?_;clear S;intro a w17 b6 hz5 hk11 S
   refine Ex S (S.tm rfl) (S.tm rfl) (i:=0) (off:=0) rfl sizeOf143 (vs:=(Dp.enc y2)) rfl rfl rfl rfl ?_;clear S;intro w18 hk12 S
   refine Dl ?_
   obtain ⟨r2,hr4,h⟩:=Fa h
   refine Gt [12] ([]) Tryz.mixed S rfl (by kernel_rfl) ?_;clear S;intro w21 hk15 hsel S
   refine Ew 0 S hsel rfl rfl (by kernel_rfl) (by kernel_rfl) rfl (fun _=>(Rm (S.tm rfl))) fun a S=>Ew 1 S hsel rfl rfl (by kernel_rfl) (by kernel_rfl) rfl (fun _=>(Gd AS (S.tm rfl))) fun a S=>Ew 2 S hsel rfl rfl (by kernel_rfl) (by kernel_rfl) rfl (fun _=>(Gd Yv (S.tm rfl))) fun a S=>Ea 3 S hsel rfl (by kernel_rfl) (by kernel_rfl) (by kernel_rfl) (by kernel_rfl) rfl (fun _ hw=>(Hx isAgg9 (off:=0) (o:=2) (S.tm rfl) ((S.blk_mem (i:=0) (cells:=(Dp.enc y2)) (b:=b6) (T:=143) rfl (Hg (e':=.blk b6 (Dp.enc y2) 143))).kept hw) rfl)) fun a S=>Ew 4 S hsel rfl rfl (by kernel_rfl) (by kernel_rfl) rfl (fun _=>(Rm (S.tm rfl))) fun a S=>Ew 5 S hsel rfl rfl (by kernel_rfl) (by kernel_rfl) rfl (fun _=>(Gd AS (S.tm rfl))) fun a S=>Ew 6 S hsel rfl rfl (by kernel_rfl) (by kernel_rfl) rfl (fun _=>(Gd Yv (S.tm rfl))) fun a S=>Ea 7 S hsel rfl (by kernel_rfl) (by kernel_rfl) (by kernel_rfl) (by kernel_rfl) rfl (fun _ hw=>(Hx isAgg9 (off:=0) (o:=2) (S.tm rfl) ((S.blk_mem (i:=0) (cells:=(Dp.enc y2)) (b:=b6) (T:=143) rfl (Hg (e':=.blk b6 (Dp.enc y2) 143))).kept hw) rfl)) fun a S=>Ea 8 S hsel rfl (by kernel_rfl) (by kernel_rfl) (by kernel_rfl) (by kernel_rfl) rfl (fun _ hw=>(Pt (kv:=Value.string) (vv:=(fun x=>Value.agg (Dk.enc x).toArray)) (m:=x4) (key:=y2.x_.Club) (z:=(Dk.mk 0 0)) (S.map_kept (i:=1) rfl (Hg (e':=.map b2 (Fi Value.string (fun x=>Value.agg (Dk.enc x).toArray) x4) x4.length)) hw) underlying78 (Lm underlying9) zeroValue48 (S.tm rfl) (S.tm rfl))) fun a S=>Ew 9 S hsel rfl rfl (by kernel_rfl) (by kernel_rfl) rfl (fun _=>(Gd JS (S.tm rfl))) ?_;clear S;intro a S
   refine Ea 10 S hsel rfl (by kernel_rfl) (by kernel_rfl) (by kernel_rfl) (by kernel_rfl) rfl (fun _ hw=>(Fb isAgg48 sizeOf48 (off:=0) (o:=5) (part:=(Dk.enc y2.points_)) rfl rfl (S.tm rfl) ((S.blk_mem (i:=0) (cells:=(Dp.enc y2)) (b:=b6) (T:=143) rfl (Hg (e':=.blk b6 (Dp.enc y2) 143))).kept hw))) fun a S=>Hb 11 (by kernel_rfl) rfl (Eb S (fun _=>Dq (vs:=[.agg (Dk.enc (Ec x4 y2.x_.Club (Dk.mk 0 0))).toArray,.agg (Dk.enc y2.points_).toArray]) ⟨(S.tm rfl),(S.tm rfl),trivial⟩ call70) (LK _ (Ec x4 y2.x_.Club (Dk.mk 0 0)) y2.points_ _ hr4) rfl ?_);clear S;intro v5 a w22 hv5 hk16 hn5 S
   subst hv5
   refine Ld (Hy hk16 (Vg 12 ([b2]) rfl (by kernel_rfl) rfl (Nm (kv:=Value.string) (vv:=(fun x=>Value.agg (Dk.enc x).toArray)) (m:=x4) (key:=y2.x_.Club) (val:=r2) S (i:=1) rfl underlying78 (Lm underlying9) (S.tm rfl) (S.tm rfl) (S.tm rfl) ?_)));clear S;intro w23 hk17 S
   refine Ld (Vh (Vt (by kernel_rfl) ?_))
   clear hsel
   replace S:=(S.nl [.map b2 (Fi Value.string (fun x=>Value.agg (Dk.enc x).toArray) (Gk x4 y2.x_.Club r2)) (Gk x4 y2.x_.Club r2).length] [false,true] rfl).k4 5 27 28 29 rfl
   exact Hp (Tn (Fg (Vq S Gc rfl rfl rfl fun a S=>Vm S rfl rfl fun a S=>Dl (⟨ys2,⟨i2 + 1,(Gk x4 y2.x_.Club r2),⟨_,(hd2).trans (List.append_cons _ _ _),by simp [hi2]⟩,h,S.nf [true] rfl ⟨rfl,rfl,rfl,(congrArg (fun z=>some (Value.int .i64 z)) (Ib hd2 hi2 (Jp (Ge Dp.enc_ok hs2)))),trivial⟩⟩,Nat.lt_succ_self _⟩))))
 clear S h;rintro a w16 ⟨x4,h,S⟩;rw [hj4] at h;clear hj4 j4
 refine Tn (Fr (Vm S rfl rfl fun a S=>Va S rfl rfl fun a S=>Dl (wp_ret ?_)))
 obtain rfl:=Option.some.inj h
 exact Et S results30 rfl ⟨_,rfl,S.map_ret (i:=0) rfl rfl⟩
theorem GJ (w : World) (Ah : Dm) (Ak : Dm) (r : Int) (h : Qe Ah Ak = r) :
    Calls prog 67 [.agg (Dm.enc Ah).toArray,.agg (Dm.enc Ak).toArray].toArray w (Ret w [] fun _ v _=>v = iV r):=by
 refine Fe func67 rfl ntmps67 rfl fun a S=>?_
 unfold Qe at h
 replace S:=S.k2 0 1 rfl
 refine Fr (Lw S (S.tm rfl) (cs:=(Dm.enc Ah)) rfl rfl ?_);clear S;intro a w1 b1 hz1 hk1 S
 refine Lw S (S.tm rfl) (cs:=(Dm.enc Ak)) rfl rfl ?_;clear S;intro a w2 b2 hz2 hk2 S
 refine Vk S rfl rfl fun a S=>Dz (Vf Yw S rfl rfl fun a S=>Vl isAgg9 1 S rfl rfl rfl rfl fun a S=>Vf Yw S rfl rfl fun a S=>Vl isAgg9 0 S rfl rfl rfl rfl fun a S=>Eb S (fun _=>Dq (vs:=[sV Ah.Key,sV Ak.Key]) ⟨(S.tm rfl),(S.tm rfl),trivial⟩ call62) (Nr _ Ah.Key Ak.Key _ rfl) rfl ?_);clear S;intro v1 a w3 hv1 hk3 hn1 S
 subst hv1
 refine Va S rfl rfl fun a S=>Dl (wp_ret ?_)
 subst h
 exact Et S results67 rfl rfl
set_option maxRecDepth 20000 in
theorem Rj (w : World) (O : Value) (Af : List Dm) (Bc : (LEnt.own O 58 3 Af.length (Af.flatMap Dm.enc)).holds w) (Ah : Int) (Ak : Int) (r : (List Dm)) (h : Iq Af Ah Ak = some r) :
    Calls prog 141 [O,iV Ah,iV Ak,.func (.func 67) #[] #[]].toArray w (Ret w (O.ownBlock.toList) fun _ v w'=>(LEnt.own O 58 3 r.length (r.flatMap Dm.enc)).holds w' ∧ v = .tuple #[]):=by
 refine Lb (O.ownBlock.toList) [.own O 58 3 Af.length (Af.flatMap Dm.enc)] func141 rfl ntmps141 rfl (fun e he=>by simp only [List.mem_singleton] at he;subst he;exact Bc) (Ix _) (Jw _) fun a S=>?_
 unfold Iq at h
 replace S:=(S.nl [.own O 58 3 Af.length (Af.flatMap Dm.enc)] [true] rfl).k4 0 1 2 3 rfl
 refine Fr (Vm S rfl rfl fun a S=>Vq S Gc rfl rfl rfl fun a S=>Va S rfl rfl fun a S=>Dl ?_)
 replace S:=S.k5 0 1 2 3 8 rfl
 obtain ⟨j1,hj1,h⟩:=Eu h
 refine Eh (fun a w'=>∃ x1 : List Dm,j1 x1 = some r ∧ Sx w (O.ownBlock.toList) nov [.own O 58 3 x1.length (x1.flatMap Dm.enc)] [] 53 a w') ?_ ?_
 ·refine wp_block (Gr (fun (m1 : Nat) a w'=>∃ x1 : List Dm,∃ x2 : Int,Fq Ak Ah j1 m1 x1 x2 = some r ∧ Sx w (O.ownBlock.toList) nov [.own O 58 3 x1.length (x1.flatMap Dm.enc)] [(0,O),(1,iV Ah),(2,iV Ak),(3,.func (.func 67) #[] #[]),(8,iV x2)] 53 a w') id ((Ak - (W (Ah + 1))).toNat + 2) ⟨Af,W (Ah + 1),h,S.nf [true] rfl (subR rfl)⟩ ?_)
  clear S h;rintro m1 a w1 ⟨x1,x2,h,S⟩
  cases m1 with
  | zero=>rw [Fq.eq_1] at h;cases h
  | succ m1 =>
   rw [Fq.eq_2] at h
   refine Fs (Fr (Vm S rfl rfl fun a S=>Vm S rfl rfl fun a S=>Vb S Es rfl rfl rfl fun a S=>Dl (Fc h (S.tm rfl) (fun hb1 h=>?_) (fun hb1 h=>?_))))
   ·refine wp_skip (Tn (Fs (wp_block (Fr (Vm S rfl rfl fun a S=>Va S rfl rfl fun a S=>Dl ?_)))))
    replace S:=S.k6 0 1 2 3 8 9 rfl
    obtain ⟨j2,hj2,h⟩:=Eu h
    refine Eh (fun a w'=>∃ x3 : List Dm,j2 x3 = some r ∧ Sx w (O.ownBlock.toList) nov [.own O 58 3 x3.length (x3.flatMap Dm.enc)] [(0,O),(1,iV Ah),(2,iV Ak),(3,.func (.func 67) #[] #[]),(8,iV x2)] 53 a w') ?_ ?_
    ·refine wp_block (Gr (fun (m2 : Nat) a w'=>∃ x3 : List Dm,∃ x4 : Int,Ep Ah j2 m2 x3 x4 = some r ∧ Sx w (O.ownBlock.toList) nov [.own O 58 3 x3.length (x3.flatMap Dm.enc)] [(0,O),(1,iV Ah),(2,iV Ak),(3,.func (.func 67) #[] #[]),(8,iV x2),(9,iV x4)] 53 a w') id ((x2 - Ah).toNat + 2) ⟨x1,x2,h,S.nf [true] rfl (subR rfl)⟩ ?_)
     clear S h;rintro m2 a w3 ⟨x3,x4,h,S⟩
     cases m2 with
     | zero=>rw [Ep.eq_1] at h;cases h
     | succ m2 =>
      rw [Ep.eq_2] at h
      refine Fs (Fs ?_)
      obtain ⟨j3,hj3,h⟩:=Eu h
      refine Eh (fun a w'=>∃ x5 : Bool,j3 x5 = some r ∧ Sx w (O.ownBlock.toList) nov [.own O 58 3 x3.length (x3.flatMap Dm.enc)] [(0,O),(1,iV Ah),(2,iV Ak),(3,.func (.func 67) #[] #[]),(8,iV x2),(9,iV x4),(34,bV x5)] 53 a w') ?_ ?_
      ·rcases Bool.eq_false_or_eq_true (decide (Ah < x4)) with hb2 | hb2
       ·replace h:=Ti h hb2
        obtain ⟨hc1,h⟩:=Ig h
        obtain ⟨hc2,h⟩:=Ig h
        refine Gt [] ([]) Tryz.mixed S rfl (by kernel_rfl) ?_;clear S;intro w7 hk2 hsel S
        refine Ea 0 S hsel rfl rfl rfl (by kernel_rfl) (by kernel_rfl) rfl (fun _ hw=>(Rm (S.tm rfl))) fun a S=>Ea 1 S hsel rfl rfl rfl (by kernel_rfl) (by kernel_rfl) rfl (fun _ hw=>(Rm (S.tm rfl))) fun a S=>Ea 2 S hsel rfl rfl rfl (by kernel_rfl) (by kernel_rfl) rfl (fun _ hw=>(Kb (S.tm rfl) (S.tm rfl))) fun a S=>Ea 3 S hsel rfl rfl rfl (by kernel_rfl) (by kernel_rfl) rfl (fun _ hw=>(Rm (S.tm rfl))) fun a S=>Ef 4 S hsel rfl rfl rfl rfl hb2 rfl rfl (by kernel_rfl) (by kernel_rfl) rfl (fun _ hw=>(Rm (S.tm rfl))) fun a S=>Ef 5 S hsel rfl rfl rfl rfl hb2 rfl rfl (by kernel_rfl) (by kernel_rfl) rfl (fun _ hw=>(Rm (S.tm rfl))) fun a S=>Ef 6 S hsel rfl rfl rfl rfl hb2 rfl rfl (by kernel_rfl) (by kernel_rfl) rfl (fun _ hw=>(Rm (S.tm rfl))) ?_;clear S;intro a S
        obtain ⟨b3,hg3,hr3⟩:=Gh (a:=a) (x:=.tmp 23) (y:=.tmp 24) (ty:=0) Ss Dm.enc_ok S (i:=0) rfl (Dw hc1).1 (Dw hc1).2 (S.tm rfl) (S.tm rfl)
        refine Ef 7 S hsel rfl rfl rfl rfl hb2 rfl rfl (by kernel_rfl) (by kernel_rfl) rfl (fun _ hw=>(hr3 _)) ?_;clear S;intro a S
        clear hr3
        refine Ef 8 S hsel rfl rfl rfl rfl hb2 rfl rfl (by kernel_rfl) (by kernel_rfl) rfl (fun _ hw=>(Fb isAgg58 sizeOf58 (off:=x4.toNat * 3) (o:=0) (part:=(Dm.enc (Dm.mk ((nth x3 x4).Key) ((nth x3 x4).Points)))) rfl rfl (S.tm rfl) ((Mg Dm.enc_ok S (i:=0) rfl hg3 (Dw hc1).1 (Hg (e':=.own O 58 3 x3.length (x3.flatMap Dm.enc)))).kept hw))) fun a S=>Ef 9 S hsel rfl rfl rfl rfl hb2 rfl rfl (by kernel_rfl) (by kernel_rfl) rfl (fun _ hw=>(Rm (S.tm rfl))) fun a S=>Ef 10 S hsel rfl rfl rfl rfl hb2 rfl rfl (by kernel_rfl) (by kernel_rfl) rfl (fun _ hw=>(Rm (S.tm rfl))) fun a S=>Ef 11 S hsel rfl rfl rfl rfl hb2 rfl rfl (by kernel_rfl) (by kernel_rfl) rfl (fun _ hw=>(Iw (S.tm rfl) rfl)) ?_;clear S;intro a S
        obtain ⟨b4,hg4,hr4⟩:=Gh (a:=a) (x:=.tmp 27) (y:=.tmp 29) (ty:=0) Ss Dm.enc_ok S (i:=0) rfl (Dw hc2).1 (Dw hc2).2 (S.tm rfl) (S.tm rfl)
        refine Ef 12 S hsel rfl rfl rfl rfl hb2 rfl rfl (by kernel_rfl) (by kernel_rfl) rfl (fun _ hw=>(hr4 _)) ?_;clear S;intro a S
        clear hr4
        refine Ef 13 S hsel rfl rfl rfl rfl hb2 rfl rfl (by kernel_rfl) (by kernel_rfl) rfl (fun _ hw=>(Fb isAgg58 sizeOf58 (off:=((W (x4 - 1)).toNat) * 3) (o:=0) (part:=(Dm.enc (Dm.mk ((nth x3 (W (x4 - 1))).Key) ((nth x3 (W (x4 - 1))).Points)))) rfl rfl (S.tm rfl) ((Mg Dm.enc_ok S (i:=0) rfl hg4 (Dw hc2).1 (Hg (e':=.own O 58 3 x3.length (x3.flatMap Dm.enc)))).kept hw))) fun a S=>Hb 14 (by kernel_rfl) rfl (Dy S rfl rfl rfl hb2 (Eb S (fun _=>Rf (cap:=[]) (S.tm rfl) (vs:=[.agg (Dm.enc (Dm.mk ((nth x3 x4).Key) ((nth x3 x4).Points))).toArray,.agg (Dm.enc (Dm.mk ((nth x3 (W (x4 - 1))).Key) ((nth x3 (W (x4 - 1))).Points))).toArray]) ⟨(S.tm rfl),(S.tm rfl),trivial⟩ call67) (GJ _ (Dm.mk ((nth x3 x4).Key) ((nth x3 x4).Points)) (Dm.mk ((nth x3 (W (x4 - 1))).Key) ((nth x3 (W (x4 - 1))).Points)) _ rfl) rfl ?_));clear S;intro v2 a w8 hv2 hk3 hn2 S
        subst hv2
        refine Ld (Hy hk3 (Li [15,16] hsel (by kernel_rfl) rfl ?_))
        clear hsel
        refine Fj S rfl rfl rfl rfl hb2 (Ha S (Es (S.tm rfl) rfl) rfl fun a S=>Gp S rfl (Pq hb2 (S.tm rfl) (S.tm rfl)) rfl fun a S=>Ij ?_)
        replace S:=S.nk [.own O 58 3 x3.length (x3.flatMap Dm.enc)] [(0,O),(1,iV Ah),(2,iV Ak),(3,.func (.func 67) #[] #[]),(8,iV x2),(9,iV x4),(22,.func (.func 67) #[] #[]),(23,O),(24,iV x4),(25,.pointer (some ⟨b3,x4.toNat * 3,none⟩)),(26,.agg (Dm.enc (Dm.mk ((nth x3 x4).Key) ((nth x3 x4).Points))).toArray),(27,O),(28,iV x4),(29,iV (W (x4 - 1))),(30,.pointer (some ⟨b4,((W (x4 - 1)).toNat) * 3,none⟩)),(31,.agg (Dm.enc (Dm.mk ((nth x3 (W (x4 - 1))).Key) ((nth x3 (W (x4 - 1))).Points))).toArray),(32,iV (Qe (Dm.mk ((nth x3 x4).Key) ((nth x3 x4).Points)) (Dm.mk ((nth x3 (W (x4 - 1))).Key) ((nth x3 (W (x4 - 1))).Points)))),(33,bV (decide ((Qe (Dm.mk ((nth x3 x4).Key) ((nth x3 x4).Points)) (Dm.mk ((nth x3 (W (x4 - 1))).Key) ((nth x3 (W (x4 - 1))).Points))) < 0))),(34,bV (decide ((Qe (Dm.mk ((nth x3 x4).Key) ((nth x3 x4).Points)) (Dm.mk ((nth x3 (W (x4 - 1))).Key) ((nth x3 (W (x4 - 1))).Points))) < 0)))] [true] rfl (subR rfl)
        exact Tn (⟨decide ((Qe (Dm.mk ((nth x3 x4).Key) ((nth x3 x4).Points)) (Dm.mk ((nth x3 (W (x4 - 1))).Key) ((nth x3 (W (x4 - 1))).Points))) < 0),h,S.nf [true] rfl (subR rfl)⟩)
       ·replace h:=Tj h hb2
        refine Gt [] ([]) Tryz.mixed S rfl (by kernel_rfl) ?_;clear S;intro w9 hk4 hsel S
        refine Li [0,1,2,3,4,5,6,7,8,9,10,11,12,13,14,15,16] hsel (by kernel_rfl) rfl ?_
        clear hsel
        refine Gp S rfl (Rm (S.tm rfl)) rfl fun a S=>Gp S rfl (Rm (S.tm rfl)) rfl fun a S=>Gp S rfl (Kb (S.tm rfl) (S.tm rfl)) rfl fun a S=>Gp S rfl (Rm (S.tm rfl)) rfl ?_;clear S;intro a S
        iterate 12 (refine Pn S rfl rfl rfl rfl (Kp hb2) rfl ?_ rfl;clear S;intro a S)
        refine Gp S rfl (Ps hb2 (S.tm rfl) rfl) rfl fun a S=>Ij ?_
        replace S:=S.k7 0 1 2 3 8 9 34 rfl
        exact Tn (⟨false,h,S.nf [true] rfl (subR rfl)⟩)
      clear S h;rintro a w5 ⟨x5,h,S⟩;rw [hj3] at h;clear hj3 j3
      refine Tn (Fc h (S.tm rfl) (fun hb3 h=>?_) (fun hb3 h=>?_))
      ·refine wp_skip (Tn (Fs (wp_block ?_)))
       obtain ⟨hc3,h⟩:=Ig h
       obtain ⟨hc4,h⟩:=Ig h
       obtain ⟨hc5,h⟩:=Ig h
       obtain ⟨hc6,h⟩:=Ig h
       refine Gt [15,17] ([]) Tryz.mixed S rfl (by kernel_rfl) ?_;clear S;intro w14 hk9 hsel S
       refine Ew 0 S hsel rfl rfl (by kernel_rfl) (by kernel_rfl) rfl (fun _=>(Rm (S.tm rfl))) fun a S=>Ew 1 S hsel rfl rfl (by kernel_rfl) (by kernel_rfl) rfl (fun _=>(Rm (S.tm rfl))) fun a S=>Ew 2 S hsel rfl rfl (by kernel_rfl) (by kernel_rfl) rfl (fun _=>(Rm (S.tm rfl))) fun a S=>Ew 3 S hsel rfl rfl (by kernel_rfl) (by kernel_rfl) rfl (fun _=>(Rm (S.tm rfl))) fun a S=>Ew 4 S hsel rfl rfl (by kernel_rfl) (by kernel_rfl) rfl (fun _=>(Iw (S.tm rfl) rfl)) fun a S=>Ew 5 S hsel rfl rfl (by kernel_rfl) (by kernel_rfl) rfl (fun _=>(Rm (S.tm rfl))) fun a S=>Ew 6 S hsel rfl rfl (by kernel_rfl) (by kernel_rfl) rfl (fun _=>(Rm (S.tm rfl))) fun a S=>Ew 7 S hsel rfl rfl (by kernel_rfl) (by kernel_rfl) rfl (fun _=>(Iw (S.tm rfl) rfl)) ?_;clear S;intro a S
       obtain ⟨b9,hg9,hr9⟩:=Gh (a:=a) (x:=.tmp 42) (y:=.tmp 44) (ty:=0) Ss Dm.enc_ok S (i:=0) rfl (Dw hc3).1 (Dw hc3).2 (S.tm rfl) (S.tm rfl)
       refine Ew 8 S hsel rfl rfl (by kernel_rfl) (by kernel_rfl) rfl (fun _=>(hr9 _)) ?_;clear S;intro a S
       clear hr9
       refine Ea 9 S hsel rfl (by kernel_rfl) (by kernel_rfl) (by kernel_rfl) (by kernel_rfl) rfl (fun _ hw=>(Fb isAgg58 sizeOf58 (off:=((W (x4 - 1)).toNat) * 3) (o:=0) (part:=(Dm.enc (Dm.mk ((nth x3 (W (x4 - 1))).Key) ((nth x3 (W (x4 - 1))).Points)))) rfl rfl (S.tm rfl) ((Mg Dm.enc_ok S (i:=0) rfl hg9 (Dw hc3).1 (Hg (e':=.own O 58 3 x3.length (x3.flatMap Dm.enc)))).kept hw))) fun a S=>Ew 10 S hsel rfl rfl (by kernel_rfl) (by kernel_rfl) rfl (fun _=>(Rm (S.tm rfl))) fun a S=>Ew 11 S hsel rfl rfl (by kernel_rfl) (by kernel_rfl) rfl (fun _=>(Rm (S.tm rfl))) ?_;clear S;intro a S
       obtain ⟨b10,hg10,hr10⟩:=Gh (a:=a) (x:=.tmp 47) (y:=.tmp 48) (ty:=0) Ss Dm.enc_ok S (i:=0) rfl (Dw hc4).1 (Dw hc4).2 (S.tm rfl) (S.tm rfl)
       refine Ew 12 S hsel rfl rfl (by kernel_rfl) (by kernel_rfl) rfl (fun _=>(hr10 _)) ?_;clear S;intro a S
       clear hr10
       refine Ea 13 S hsel rfl (by kernel_rfl) (by kernel_rfl) (by kernel_rfl) (by kernel_rfl) rfl (fun _ hw=>(Fb isAgg58 sizeOf58 (off:=x4.toNat * 3) (o:=0) (part:=(Dm.enc (Dm.mk ((nth x3 x4).Key) ((nth x3 x4).Points)))) rfl rfl (S.tm rfl) ((Mg Dm.enc_ok S (i:=0) rfl hg10 (Dw hc4).1 (Hg (e':=.own O 58 3 x3.length (x3.flatMap Dm.enc)))).kept hw))) ?_;clear S;intro a S
       obtain ⟨b11,hg11,hr11⟩:=Gh (a:=a) (x:=.tmp 37) (y:=.tmp 38) (ty:=0) Ss Dm.enc_ok S (i:=0) rfl (Dw hc5).1 (Dw hc5).2 (S.tm rfl) (S.tm rfl)
       refine Ew 14 S hsel rfl rfl (by kernel_rfl) (by kernel_rfl) rfl (fun _=>(hr11 _)) ?_;clear S;intro a S
       clear hr11
       refine Vg 15 (O.ownBlock.toList) rfl (by kernel_rfl) rfl (Ob (c:=0) (j:=x4.toNat) (Dm.mk ((nth x3 (W (x4 - 1))).Key) ((nth x3 (W (x4 - 1))).Points)) Dm.enc_ok S (S.tm rfl) (S.tm rfl) (i:=0) rfl hg11 (Dw hc5).1 sizeOf58 (vs:=[sV ((nth x3 (W (x4 - 1))).Key),iV (((nth x3 (W (x4 - 1))).Points).Num),iV (((nth x3 (W (x4 - 1))).Points).Den)]) rfl rfl rfl rfl rfl ?_);clear S;intro w16 hk11 S
       refine Ld (Vh ?_)
       obtain ⟨b12,hg12,hr12⟩:=Gh (a:=a) (x:=.tmp 39) (y:=.tmp 41) (ty:=0) Ss Dm.enc_ok S (i:=0) rfl (Dw hc6).1 (Dw hc6).2 (S.tm rfl) (S.tm rfl)
       refine Ea 16 S hsel rfl rfl rfl (by kernel_rfl) (by kernel_rfl) rfl (fun _ hw=>(hr12 _)) ?_;clear S;intro a S
       clear hr12
       refine Hb 17 (by kernel_rfl) rfl (Ob (c:=0) (j:=(W (x4 - 1)).toNat) (Dm.mk ((nth x3 x4).Key) ((nth x3 x4).Points)) Dm.enc_ok S (S.tm rfl) (S.tm rfl) (i:=0) rfl hg12 (Dw hc6).1 sizeOf58 (vs:=[sV ((nth x3 x4).Key),iV (((nth x3 x4).Points).Num),iV (((nth x3 x4).Points).Den)]) rfl rfl rfl rfl rfl ?_);clear S;intro w18 hk13 S
       refine Ld (Hy hk13 (Vt (by kernel_rfl) ?_))
       clear hsel
       replace S:=(S.nl [.own O 58 3 ((x3.set x4.toNat (Dm.mk ((nth x3 (W (x4 - 1))).Key) ((nth x3 (W (x4 - 1))).Points))).set ((W (x4 - 1)).toNat) (Dm.mk ((nth x3 x4).Key) ((nth x3 x4).Points))).length (((x3.set x4.toNat (Dm.mk ((nth x3 (W (x4 - 1))).Key) ((nth x3 (W (x4 - 1))).Points))).set ((W (x4 - 1)).toNat) (Dm.mk ((nth x3 x4).Key) ((nth x3 x4).Points))).flatMap Dm.enc)] [true] rfl).k6 0 1 2 3 8 9 rfl
       exact Hp (Tn (Fg (Vm S rfl rfl fun a S=>Vq S Iw rfl rfl rfl fun a S=>Va S rfl rfl fun a S=>Dl (⟨m2,⟨((x3.set x4.toNat (Dm.mk ((nth x3 (W (x4 - 1))).Key) ((nth x3 (W (x4 - 1))).Points))).set ((W (x4 - 1)).toNat) (Dm.mk ((nth x3 x4).Key) ((nth x3 x4).Points))),W (x4 - 1),h,S.nf [true] rfl ⟨rfl,rfl,rfl,rfl,rfl,rfl,trivial⟩⟩,Nat.lt_succ_self _⟩))))
      ·exact wp_exit (Ed (Ed (Gn (Tn (⟨x3,h,S.nf [true] rfl (subR rfl)⟩)))))
    clear S h;rintro a w4 ⟨x3,h,S⟩;rw [hj2] at h;clear hj2 j2
    exact Hp (Tn (Fg (Vm S rfl rfl fun a S=>Vq S Gc rfl rfl rfl fun a S=>Va S rfl rfl fun a S=>Dl (⟨m1,⟨x3,W (x2 + 1),h,S.nf [true] rfl ⟨rfl,rfl,rfl,rfl,rfl,trivial⟩⟩,Nat.lt_succ_self _⟩))))
   ·exact wp_exit (Ed (Ed (Gn (Tn (⟨x1,h,S.nf [true] rfl trivial⟩)))))
 clear S h;rintro a w2 ⟨x1,h,S⟩;rw [hj1] at h;clear hj1 j1
 obtain rfl:=Option.some.inj h
 exact Rp S results141 ⟨(S.holds _ (List.mem_of_getElem? (i:=0) rfl)),rfl⟩
theorem Sy (w : World) (O : Value) (Af : List Dm) (Bc : (LEnt.own O 58 3 Af.length (Af.flatMap Dm.enc)).holds w) (Ah : Int) (Ak : Int) (Bu : Int) (r : (List Dm)) (h : Kr Af Ah Ak Bu = some r) :
    Calls prog 109 [O,iV Ah,iV Ak,iV Bu,.func (.func 67) #[] #[]].toArray w (Ret w (O.ownBlock.toList) fun _ v w'=>(LEnt.own O 58 3 r.length (r.flatMap Dm.enc)).holds w' ∧ v = .tuple #[]):=by
 refine Lb (O.ownBlock.toList) [.own O 58 3 Af.length (Af.flatMap Dm.enc)] func109 rfl ntmps109 rfl (fun e he=>by simp only [List.mem_singleton] at he;subst he;exact Bc) (Ix _) (Jw _) fun a S=>?_
 unfold Kr at h
 replace S:=(S.nl [.own O 58 3 Af.length (Af.flatMap Dm.enc)] [true] rfl).k5 0 1 2 3 4 rfl
 refine Fr (Vk S rfl rfl fun a S=>Dz (Vk S rfl rfl fun a S=>Dl ?_))
 replace S:=S.k6 0 1 2 3 4 10 rfl
 refine Eh (fun a w'=>False) ?_ ?_
 ·refine wp_block (Gr (fun (m1 : Nat) a w'=>∃ x1 : Int,∃ x2 : Int,∃ x3 : Int,∃ x4 : Bool,Gy Af m1 x1 x2 x3 x4 = some r ∧ Sx w (O.ownBlock.toList) nov [.own O 58 3 Af.length (Af.flatMap Dm.enc)] [(0,O),(1,iV x1),(2,iV x2),(3,iV x3),(4,.func (.func 67) #[] #[]),(10,bV x4)] 148 a w') id 4611686018427387904 ⟨Ah,Ak,Bu,true,h,S.nf [true] rfl (subR rfl)⟩ ?_)
  clear S h;rintro m1 a w1 ⟨x1,x2,x3,x4,h,S⟩
  cases m1 with
  | zero=>rw [Gy.eq_1] at h;cases h
  | succ m1 =>
   rw [Gy.eq_2] at h
   refine wp_block (Fr (Vm S rfl rfl fun a S=>Vm S rfl rfl fun a S=>Vb S Iw rfl rfl rfl fun a S=>Va S rfl rfl fun a S=>Dl (Fs (Fs ?_))))
   refine Fg (Vm S rfl rfl fun a S=>Vq S Uj rfl rfl rfl fun a S=>Dl (Fc h (S.tm rfl) (fun hb1 h=>?_) (fun hb1 h=>?_)))
   ·refine Fs (Fg ?_)
    iterate 4 (refine Vm S rfl rfl ?_;clear S;intro a S)
    obtain ⟨r1,hr1,h⟩:=Fa h
    refine Mj 0 S rfl (fun _=>.own O 58 3 r1.length (r1.flatMap Dm.enc)) (fun _=>Dq (vs:=[O,iV x1,iV x2,.func (.func 67) #[] #[]]) ⟨(S.tm rfl),(S.tm rfl),(S.tm rfl),(S.tm rfl),trivial⟩ call141) (Rj _ O Af (S.holds _ (List.mem_of_getElem? (i:=0) rfl)) x1 x2 _ hr1) rfl (fun _ _ _ h=>⟨h.1,fun _ hc=>hc⟩) ?_;clear S;intro v1 a w3 hv1 hk1 hn1 S
    replace hv1:=hv1.2
    subst hv1
    refine Ld ?_
    replace S:=(S.nl [.own O 58 3 r1.length (r1.flatMap Dm.enc)] [true] rfl).k0
    refine Tn (wp_ret (Dv (Gq (Dv (Gq (Dv ?_))))))
    obtain rfl:=Option.some.inj h
    exact Rp S results109 ⟨(S.holds _ (List.mem_of_getElem? (i:=0) rfl)),rfl⟩
   ·refine wp_skip (Tn (Fs (Fr (Vm S rfl rfl fun a S=>Vq S Jk rfl rfl rfl fun a S=>Dl (Fc h (S.tm rfl) (fun hb2 h=>?_) (fun hb2 h=>?_))))))
    ·refine Fs ?_
     cases h
    ·refine wp_skip (Tn (Fs (Fr (Vm S rfl rfl fun a S=>Vu S Ih rfl rfl fun a S=>Ld ?_))))
     replace S:=S.k1 39 rfl
     refine Tn (Fc h (S.tm rfl) (fun hb3 h=>?_) (fun hb3 h=>?_))
     ·refine Fs ?_
      cases h
     ·refine wp_skip (Tn (Fs ?_))
      cases h
 exact fun _ _ h=>h.elim
theorem Ur (w : World) (Ay : Value) (Ab : List Dm) (Ce : (LEnt.own Ay 58 3 Ab.length (Ab.flatMap Dm.enc)).holds w) (r : (List Dm)) (h : Ko Ab = some r) :
    Calls prog 66 [Ay,.func (.func 67) #[] #[]].toArray w (Ret w (Ay.ownBlock.toList) fun _ v w'=>(LEnt.own Ay 58 3 r.length (r.flatMap Dm.enc)).holds w' ∧ v = .tuple #[]):=by
 refine Lb (Ay.ownBlock.toList) [.own Ay 58 3 Ab.length (Ab.flatMap Dm.enc)] func66 rfl ntmps66 rfl (fun e he=>by simp only [List.mem_singleton] at he;subst he;exact Ce) (Ix _) (Jw _) fun a S=>?_
 unfold Ko at h
 replace S:=(S.nl [.own Ay 58 3 Ab.length (Ab.flatMap Dm.enc)] [true] rfl).k2 0 1 rfl
 refine Fr (Vm S rfl rfl fun a S=>lv S (Gi Ss (S.tm rfl) (Pb (S.own_at (i:=0) rfl))) rfl fun a S=>Va S rfl rfl fun a S=>Dl (Fg ?_))
 iterate 3 (refine Vm S rfl rfl ?_;clear S;intro a S)
 refine Vu S (Ve underlying3 underlying71) rfl rfl ?_;clear S;intro a S
 obtain ⟨r1,hr1,h⟩:=Fa h
 refine Eb S (fun _=>Dq (vs:=[.int .u64 (IntKind.wrap .u64 (Ab.length : Int))]) ⟨(S.tm rfl),trivial⟩ call25) (AE _ (IntKind.wrap .u64 (Ab.length : Int)) _ hr1) rfl ?_;clear S;intro v1 a w1 hv1 hk1 hn1 S
 subst hv1
 refine Vm S rfl rfl ?_;clear S;intro a S
 obtain ⟨r2,hr2,h⟩:=Fa h
 refine Mj 0 S rfl (fun _=>.own Ay 58 3 r2.length (r2.flatMap Dm.enc)) (fun _=>Dq (vs:=[Ay,iV 0,iV (Ab.length : Int),iV r1,.func (.func 67) #[] #[]]) ⟨(S.tm rfl),rfl,(S.tm rfl),(S.tm rfl),(S.tm rfl),trivial⟩ call109) (Sy _ Ay Ab (S.holds _ (List.mem_of_getElem? (i:=0) rfl)) 0 (Ab.length : Int) r1 _ hr2) rfl (fun _ _ _ h=>⟨h.1,fun _ hc=>hc⟩) ?_;clear S;intro v2 a w2 hv2 hk2 hn2 S
 replace hv2:=hv2.2
 subst hv2
 refine Ld ?_
 obtain rfl:=Option.some.inj h
 exact Rp S results66 ⟨(S.holds _ (List.mem_of_getElem? (i:=0) rfl)),rfl⟩
theorem JX (w : World) (Cy : Nat) (Cp : List (ByteArray × Dk)) (Db : (view w []) Cy = some (.map (Fi Value.string (fun x=>Value.agg (Dk.enc x).toArray) Cp) Cp.length)) (r : (List Dm)) (h : Yi Cp = some r) :
    Calls prog 29 [.map (some Cy)].toArray w (Ret w [] fun τ v _=>Uq τ 58 3 v r.length (r.flatMap Dm.enc)):=by
 refine Fe func29 rfl ntmps29 rfl fun a S=>?_
 unfold Yi at h
 replace S:=S.k1 0 rfl
 refine Fr (Vk S rfl rfl fun a S=>Dz (Vk S rfl rfl ?_));clear S;intro a S
 replace S:=S.nil 58 3
 refine Dl (Fs (Fr (Vm S rfl rfl fun a S=>NH (es:=Fi Value.string (fun x=>Value.agg (Dk.enc x).toArray) Cp) (clk:=Cp.length) S (S.emb0 _ _ Db) underlying78 (S.tm rfl) rfl ?_)));clear S;intro a w1 b1 hz1 hk1 S
 refine Dl ?_
 replace S:=(S.nl [.iter b1 Cy Cp.length #[] Cp.length,.own (.slice none 0 0) 58 3 ([] : List Dm).length (([] : List Dm).flatMap Dm.enc)] [true,true] rfl).k2 3 7 rfl
 obtain ⟨j1,hj1,h⟩:=Eu h
 replace h:=allE h
 refine Eh (fun a w'=>∃ x1 : List Dm,∃ v1 : Value,j1 x1 = some r ∧ Sx w [] nov [.own v1 58 3 x1.length (x1.flatMap Dm.enc)] [(3,v1)] 22 a w') ?_ ?_
 ·refine wp_block (Gr (fun (q : List (ByteArray × Dk)) a w'=>∃ x1 : List Dm,∃ v1 : Value,∃ sn1 : Array Nat,CB Cp sn1 = q ∧ (∀ p,p.Perm q → Oe j1 p x1 = some r) ∧ Sx w [] nov [.iter b1 Cy Cp.length sn1 Cp.length,.own v1 58 3 x1.length (x1.flatMap Dm.enc)] [(3,v1),(7,.pointer (some ⟨b1,0,none⟩))] 22 a w') List.length Cp ⟨([] : List Dm),(.slice none 0 0),#[],(SU _),h,S.nf [true,true] rfl (subR rfl)⟩ ?_)
  clear S h;rintro q a w2 ⟨x1,v1,sn1,hq,h,S⟩
  refine Fr (WY (kv:=Value.string) (vv:=(fun x=>Value.agg (Dk.enc x).toArray)) (m:=Cp) S (i:=0) rfl (S.emb0 _ _ Db) (S.tm rfl) rfl ?_ ?_)
  ·intro hn1;clear S;intro a S
   replace h:=JM h (hq.symm.trans hn1)
   rw [Oe.eq_1] at h
   refine Vq S Fu rfl rfl rfl fun a S=>Ld ?_
   replace S:=S.k3 3 7 9 rfl
   exact Tn (Fs (wp_cond_false (S.tm rfl) (wp_exit (Ed (Ed (Gn (Tn (⟨x1,v1,h,S.nf [false,true] rfl ⟨rfl,trivial⟩⟩))))))))
  ·clear S;intro y1 sn2 a w4 hp1 hl1 hk2 S
   obtain ⟨sq1,h,hn2⟩:=HB h (by rw [← hq];exact hp1) (fun _=>rfl)
   refine Vq S Fu rfl rfl rfl fun a S=>Ld ?_
   replace S:=(S.nl [.iter b1 Cy Cp.length sn2 Cp.length,.own v1 58 3 x1.length (x1.flatMap Dm.enc)] [true,true] rfl).k3 3 7 9 rfl
   refine Tn (Fs (wp_cond_true (S.tm rfl) (wp_skip (Tn (wp_block (Fr (lv S (OV (kv:=Value.string) (vv:=(fun x=>Value.agg (Dk.enc x).toArray)) (m:=Cp) (e:=y1) (S.holds _ (List.mem_of_getElem? (i:=0) rfl)) (S.emb0 _ _ Db) hl1 (S.tm rfl)) rfl fun a S=>Vq S Fu rfl rfl rfl fun a S=>Vq S Fu rfl rfl rfl ?_)))))));clear S;intro a S
   refine Hq S zeroValue48 (cs:=[iV 0,iV 0]) rfl rfl ?_;clear S;intro a w5 b2 hz2 hk3 S
   refine Va S rfl rfl fun a S=>Ex S (S.tm rfl) (S.tm rfl) (i:=0) (off:=0) rfl sizeOf48 (vs:=(Dk.enc y1.2)) rfl rfl rfl rfl ?_;clear S;intro w6 hk4 S
   refine Dl (Fg (Vm S rfl rfl fun a S=>Vm S rfl rfl fun a S=>lv S (Fb isAgg48 sizeOf48 (off:=0) (o:=0) (part:=(Dk.enc y1.2)) rfl rfl (S.tm rfl) (S.cellsAt (i:=0) rfl)) rfl fun a S=>lv S (Nl XJ (pv:=[(0,sV y1.1),(1,.agg #[iV y1.2.Num,iV y1.2.Den])]) ⟨rfl,(S.tm rfl),rfl,(S.tm rfl),trivial⟩ (cs:=[sV y1.1,iV y1.2.Num,iV y1.2.Den]) (by kernel_rfl)) rfl fun a S=>Ey S underlying53 sizeOf58 zeroValue58 rfl rfl (pv:=[(0,.agg #[sV y1.1,iV y1.2.Num,iV y1.2.Den])]) ⟨rfl,(S.tm rfl),trivial⟩ (cs:=[sV y1.1,iV y1.2.Num,iV y1.2.Den]) (by kernel_rfl) rfl ?_));clear S;intro a w7 b3 hz3 hk5 S
   obtain ⟨hc1,h⟩:=Ig h
   refine Ni Ss Dm.enc_ok S (S.tm rfl) (i:=3) rfl (S.tm rfl) (j:=0) rfl (ys:=[(Dm.mk y1.1 y1.2)]) rfl rfl rfl rfl (by have:=Nu hc1;omega) rfl ?_;clear S;intro v2 a w8 hk6 S
   refine Va S rfl rfl fun a S=>Ld (Hp (Tn ?_))
   obtain rfl:=Option.some.inj h
   exact ⟨CB Cp sn2,⟨(x1 ++ [(Dm.mk y1.1 y1.2)]),v2,sn2,rfl,hn2,S.nf [false,false,true,true] rfl (subR rfl)⟩,by have:=hp1.length_eq;rw [hq] at this;simp only [List.length_cons] at this;omega⟩
 clear S h;rintro a w3 ⟨x1,v1,h,S⟩;rw [hj1] at h;clear hj1 j1
 refine Tn (Fr (Vm S rfl rfl ?_));clear S;intro a S
 obtain ⟨r1,hr1,h⟩:=Fa h
 refine Mj 0 S rfl (fun _=>.own v1 58 3 r1.length (r1.flatMap Dm.enc)) (fun _=>Dq (vs:=[v1,.func (.func 67) #[] #[]]) ⟨(S.tm rfl),rfl,trivial⟩ call66) (Ur _ v1 x1 (S.holds _ (List.mem_of_getElem? (i:=0) rfl)) _ hr1) rfl (fun _ _ _ h=>⟨h.1,fun _ hc=>hc⟩) ?_;clear S;intro v3 a w9 hv1 hk7 hn3 S
 replace hv1:=hv1.2
 subst hv1
 refine Dz (Vm S rfl rfl fun a S=>Va S rfl rfl fun a S=>Dl (wp_ret ?_))
 obtain rfl:=Option.some.inj h
 exact Et S results29 rfl (Ut S (i:=0) rfl rfl)
theorem IU (w : World) (Ao : Jx) (Ca : R28) (Cf : Xt (view w []) Ao Ca) (Ac : Value) (Aj : List Dj) (Ai : Slc (view w []) 5 Ac (Aj.map Dj.enc)) (r : (List Dm) × Int) (h : Xc Ao Aj = some r) :
    Calls prog 11 [.agg (R28.enc Ca).toArray,Ac].toArray w (Ret w [] fun τ v _=>∃ u1 : Value,v = .tuple #[u1,iV r.2] ∧ Uq τ 58 3 u1 r.1.length (r.1.flatMap Dm.enc)):=by
 obtain ⟨u1,rfl,hs1⟩:=Cf
 refine Fe func11 rfl ntmps11 rfl fun a S=>?_
 unfold Xc at h
 replace S:=S.k2 0 1 rfl
 refine Fr (Lw S (S.tm rfl) (cs:=[u1.val,iV Ao.Relay,iV Ao.Most]) rfl rfl ?_);clear S;intro a w1 b1 hz1 hk1 S
 refine Vk S rfl rfl fun a S=>Vk S rfl rfl fun a S=>Dl (Fs (Fr (lv S (Fb isAgg28 sizeOf28 (off:=0) (o:=0) (part:=[u1.val,iV Ao.Relay,iV Ao.Most]) rfl rfl (S.tm rfl) (S.cellsAt (i:=0) rfl)) rfl fun a S=>Vm S rfl rfl ?_)));clear S;intro a S
 obtain ⟨r1,hr1,h⟩:=Fa h
 refine Eb S (fun _=>Dq (vs:=[.agg (R28.enc (R28.mk u1 Ao.Relay Ao.Most)).toArray,Ac]) ⟨(S.tm rfl),(S.tm rfl),trivial⟩ call28) (Yp _ Ao (R28.mk u1 Ao.Relay Ao.Most) ⟨u1,rfl,(hs1.mono (S.le_arg Eg))⟩ Ac Aj (Ai.mono (S.le_arg Eg)) _ hr1) rfl ?_;clear S;intro v1 a w2 hv1 hk2 hn1 S
 subst hv1
 refine Va S rfl rfl fun a S=>Dz (Vm S rfl rfl fun a S=>Vq S Mn rfl rfl rfl fun a S=>Dl (Fc h (S.tm rfl) (fun hb1 h=>?_) (fun hb1 h=>?_)))
 ·refine Fr (Vm S rfl rfl fun a S=>Vk S rfl rfl fun a S=>Va S rfl rfl fun a S=>Dl (wp_ret (Dv ?_)))
  obtain rfl:=Option.some.inj h
  exact Mq S results11 rfl rfl ⟨_,rfl,(Ro _ _ _)⟩
 ·refine wp_skip (Tn (Fr (lv S (Fb isAgg28 sizeOf28 (off:=0) (o:=0) (part:=[u1.val,iV Ao.Relay,iV Ao.Most]) rfl rfl (S.tm rfl) (S.cellsAt (i:=0) rfl)) rfl fun a S=>Vm S rfl rfl ?_)));clear S;intro a S
  obtain ⟨r2,hr2,h⟩:=Fa h
  have hz2:=S.keep.size
  refine Eb S (fun _=>Dq (vs:=[.agg (R28.enc (R28.mk u1 Ao.Relay Ao.Most)).toArray,Ac]) ⟨(S.tm rfl),(S.tm rfl),trivial⟩ call30) (IT _ Ao (R28.mk u1 Ao.Relay Ao.Most) ⟨u1,rfl,(hs1.mono (S.le_arg Eg))⟩ Ac Aj (Ai.mono (S.le_arg Eg)) _ hr2) rfl ?_;clear S;intro v2 a w3 hv2 hk3 hn2 S
  obtain ⟨φ1,hl1,hm1,S⟩:=S.see' hn2 hz2
  obtain ⟨b2,rfl,hq1⟩:=hv2
  replace hq1:=hm1 _ _ hq1
  obtain ⟨r3,hr3,h⟩:=Fa h
  have hz3:=S.keep.size
  refine Eb S (fun _=>Dq (vs:=[.map (some b2)]) ⟨(S.tm rfl),trivial⟩ call29) (JX _ b2 r2 ((S.le_new Eg) _ _ hq1) _ hr3) rfl ?_;clear S;intro v3 a w4 hv3 hk4 hn3 S
  obtain ⟨φ2,hl2,hm2,S⟩:=S.see' hn3 hz3
  have hs2:=hv3.mono hm2
  refine Va S rfl rfl fun a S=>Vk S rfl rfl fun a S=>Ld ?_
  replace S:=S.n0.k2 4 5 rfl
  refine Tn (wp_ret ?_)
  obtain rfl:=Option.some.inj h
  exact Mq S results11 rfl rfl ⟨_,rfl,((hs2).mono S.le_newer)⟩
theorem NY (w : World) (U : Nat) (Ae : Jr) (Bn : R32) (Bv : Tt (view w []) Ae Bn) (Aq : Value) (Al : List Di) (Bd : Slc (view w []) 11 Aq (Al.map Di.enc)) (As : (view w []) U = some (.cells (R32.enc Bn ++ [Aq]).toArray 133 (0,0))) (r : Int) (h : AP Ae Al = some r) :
    Calls prog 75 [.pointer (some ⟨U,0,none⟩)].toArray w (Ret w [] fun _ v _=>v = iV r):=by
 obtain ⟨u1,u2,rfl,hs1,⟨u3,rfl,hs2⟩⟩:=Bv
 replace As : (view w []) U = some (.cells [u1.val,u3.val,iV Ae.Table.Relay,iV Ae.Table.Most,iV Ae.Final.Size,iV Ae.Final.Many,iV Ae.Final.Reserves,Aq].toArray 133 (0,0)):=As
 refine Fe func75 rfl ntmps75 rfl fun a S=>?_
 unfold AP at h
 replace S:=S.k1 0 rfl
 refine Fr (Vk S rfl rfl fun a S=>Dl (Fs (Fr (Vm S rfl rfl fun a S=>Vu S Lv rfl rfl fun a S=>Vf DC S rfl rfl ?_))));clear S;intro a S
 refine Vf Yu S rfl rfl fun a S=>lv S (Hx isAgg26 (off:=0) (o:=0) (S.tm rfl) ((Sc As).at S.emb0) rfl) rfl fun a S=>lv S (Gi Sh (S.tm rfl) (Gf hs1)) rfl fun a S=>lv S (Rm rfl) rfl fun a S=>Dl ?_
 replace S:=S.k4 0 11 12 13 rfl
 obtain ⟨j1,hj1,h⟩:=Eu h
 refine Eh (fun a w'=>j1 = some r ∧ Sx w [] nov [] [] 28 a w') ?_ ?_
 ·refine wp_block (Gr (fun (ys1 : List Du) a w'=>∃ i1 : Nat,(∃ dn,Ae.Races = dn ++ ys1 ∧ dn.length = i1) ∧ Pz Ae Al j1 ys1 i1 = some r ∧ Sx w [] nov [] [(0,.pointer (some ⟨U,0,none⟩)),(11,u1.val),(12,iV (Ae.Races.length : Int)),(13,iV (i1 : Int))] 28 a w') List.length Ae.Races ⟨0,⟨[],rfl,rfl⟩,h,S.nf [] rfl (subR rfl)⟩ ?_)
  clear S h;rintro ys1 a w1 ⟨i1,⟨dn,hd1,hi1⟩,h,S⟩
  cases ys1 with
  | nil =>
   rw [Pz.eq_1] at h
   refine Fr (Vb S Es rfl rfl rfl fun a S=>Ld ?_)
   replace S:=S.k5 0 11 12 13 14 rfl
   exact Tn (Fs (wp_cond_false ((S.tm rfl).trans (congrArg Value.bool (Jd hd1 hi1))) (wp_exit (Ed (Ed (Gn (Tn (⟨h,S.nf [] rfl trivial⟩))))))))
  | cons y1 ys1 =>
   rw [Pz.eq_2] at h
   refine Fr (Vb S Es rfl rfl rfl fun a S=>Ld ?_)
   replace S:=S.k5 0 11 12 13 14 rfl
   refine Tn (Fs (wp_cond_true ((S.tm rfl).trans (congrArg Value.bool (Ia hd1 hi1))) (wp_skip (Tn (Fs (wp_block (Fs (Fg ?_))))))))
   obtain ⟨b1,o1,hm1,hr1⟩:=Fk (a:=a) (x:=.tmp 11) (y:=.tmp 13) (ty:=0) Sh hs1 (Jc hd1 hi1) rfl (S.tm rfl) (S.tm rfl)
   refine lv S (hr1 _) rfl ?_;clear S;intro a S
   clear hr1
   refine lv S (Fb isAgg40 sizeOf40 (off:=o1) (o:=0) (part:=(Du.enc y1)) rfl rfl (S.tm rfl) (hm1.at S.emb0)) rfl fun a S=>Hq S zeroValue40 (cs:=[sV An,iV 0,iV 0,iV 0,iV 0,iV 0,iV 0,iV 0]) rfl rfl ?_;clear S;intro a w3 b2 hz1 hk1 S
   refine Ex S (S.tm rfl) (S.tm rfl) (i:=0) (off:=0) rfl sizeOf40 (vs:=(Du.enc y1)) rfl rfl rfl rfl ?_;clear S;intro w4 hk2 S
   refine Dz (Vm S rfl rfl fun a S=>Vf Vr S rfl rfl fun a S=>Vl isAgg9 0 S rfl rfl rfl rfl ?_);clear S;intro a S
   obtain ⟨r1,hr2,h⟩:=Fa h
   refine Eb S (fun _=>Dq (vs:=[.pointer (some ⟨U,0,none⟩),sV y1.Key]) ⟨(S.tm rfl),(S.tm rfl),trivial⟩ call58) (EV _ U Ae (R32.mk u1 (R28.mk u3 Ae.Table.Relay Ae.Table.Most) Ae.Final) ⟨u1,(R28.mk u3 Ae.Table.Relay Ae.Table.Most),rfl,(hs1.mono (S.le_arg Eg)),⟨u3,rfl,(hs2.mono (S.le_arg Eg))⟩⟩ Aq Al (Bd.mono (S.le_arg Eg)) ((S.le_arg Eg) _ _ As) y1.Key _ hr2) rfl ?_;clear S;intro v1 a w5 hv1 hk3 hn1 S
   subst hv1
   refine Vm S rfl rfl fun a S=>Vq S Fu rfl rfl rfl fun a S=>Vq S Fu rfl rfl rfl fun a S=>Hq S zeroValue40 (cs:=[sV An,iV 0,iV 0,iV 0,iV 0,iV 0,iV 0,iV 0]) rfl rfl ?_;clear S;intro a w6 b3 hz2 hk4 S
   refine Ex S (S.tm rfl) (S.tm rfl) (i:=0) (off:=0) rfl sizeOf40 (vs:=(Du.enc r1.1)) rfl rfl rfl rfl ?_;clear S;intro w7 hk5 S
   refine Va S rfl rfl fun a S=>Ld ?_
   replace S:=S.n0.k5 0 6 11 12 13 rfl
   refine Tn (Fr (Vm S rfl rfl fun a S=>Vq S Mn rfl rfl rfl fun a S=>Dl (Fc h (S.tm rfl) (fun hb1 h=>?_) (fun hb1 h=>?_))))
   ·refine Fr (Vm S rfl rfl fun a S=>Va S rfl rfl fun a S=>Dl (wp_ret (Gq (Dv (Dv (Gq ?_))))))
    refine Dv (Dv ?_)
    obtain rfl:=Option.some.inj h
    exact Et S results75 rfl rfl
   ·exact wp_skip (Hp (Tn (Fg (Vq S Gc rfl rfl rfl fun a S=>Vm S rfl rfl fun a S=>Dl (⟨ys1,⟨i1 + 1,⟨_,(hd1).trans (List.append_cons _ _ _),by simp [hi1]⟩,h,S.nf [] rfl ⟨rfl,rfl,rfl,(congrArg (fun z=>some (Value.int .i64 z)) (Ib hd1 hi1 (Jp hs1))),trivial⟩⟩,Nat.lt_succ_self _⟩)))))
 clear S h;rintro a w2 ⟨h,S⟩;rw [hj1] at h;clear hj1 j1
 refine Tn (Fr (Vk S rfl rfl fun a S=>Dl (wp_ret ?_)))
 obtain rfl:=Option.some.inj h
 exact Et S results75 rfl rfl
theorem PO (w : World) (Ah : Dk) (Ak : Dk) (r : Dk) (h : AQ Ah Ak = some r) :
    Calls prog 77 [.agg (Dk.enc Ah).toArray,.agg (Dk.enc Ak).toArray].toArray w (Ret w [] fun _ v _=>v = .agg (Dk.enc r).toArray):=by
 refine Fe func77 rfl ntmps77 rfl fun a S=>?_
 unfold AQ at h
 replace S:=S.k2 0 1 rfl
 refine Fr (Lw S (S.tm rfl) (cs:=(Dk.enc Ah)) rfl rfl ?_);clear S;intro a w1 b1 hz1 hk1 S
 refine Lw S (S.tm rfl) (cs:=(Dk.enc Ak)) rfl rfl ?_;clear S;intro a w2 b2 hz2 hk2 S
 refine Hq S zeroValue48 (cs:=[iV 0,iV 0]) rfl rfl ?_;clear S;intro a w3 b3 hz3 hk3 S
 refine Dz (Vf GA S rfl rfl fun a S=>Vl isAgg3 2 S rfl rfl rfl rfl fun a S=>Vf AB S rfl rfl fun a S=>Vl isAgg3 1 S rfl rfl rfl rfl fun a S=>Vb S Vx rfl rfl rfl fun a S=>Vf GA S rfl rfl fun a S=>Vl isAgg3 1 S rfl rfl rfl rfl ?_);clear S;intro a S
 refine Vf AB S rfl rfl fun a S=>Vl isAgg3 2 S rfl rfl rfl rfl fun a S=>Vb S Vx rfl rfl rfl fun a S=>Vb S Gc rfl rfl rfl fun a S=>Vf AB S rfl rfl fun a S=>Vl isAgg3 2 S rfl rfl rfl rfl fun a S=>Vf AB S rfl rfl fun a S=>Vl isAgg3 1 S rfl rfl rfl rfl fun a S=>Vb S Vx rfl rfl rfl ?_;clear S;intro a S
 obtain ⟨r1,hr1,h⟩:=Fa h
 refine Eb S (fun _=>Dq (vs:=[iV (W ((W (Ah.Num * Ak.Den)) + (W (Ak.Num * Ah.Den)))),iV (W (Ah.Den * Ak.Den))]) ⟨(S.tm rfl),(S.tm rfl),trivial⟩ call112) (Xi _ (W ((W (Ah.Num * Ak.Den)) + (W (Ak.Num * Ah.Den)))) (W (Ah.Den * Ak.Den)) _ hr1) rfl ?_;clear S;intro v1 a w4 hv1 hk4 hn1 S
 subst hv1
 refine Ex S (S.tm rfl) (S.tm rfl) (i:=0) (off:=0) rfl sizeOf48 (vs:=(Dk.enc r1)) rfl rfl rfl rfl ?_;clear S;intro w5 hk5 S
 refine Ld ?_
 replace S:=(S.nl [.blk b3 (Dk.enc r1) 48] [true,false,false] rfl).k1 4 rfl
 refine Tn (wp_ret ?_)
 obtain rfl:=Option.some.inj h
 exact Xo S (rs:=[.cell 4 48]) (vs:=[.agg #[iV r1.Num,iV r1.Den]]) results77 ⟨(Tc (off:=0) S rfl isAgg48 sizeOf48 rfl (S.cellsAt (i:=0) rfl)),trivial⟩ rfl rfl
theorem GK (w : World) (Ah : Dm) (Ak : Dm) (r : Int) (h : Qf Ah Ak = r) :
    Calls prog 78 [.agg (Dm.enc Ah).toArray,.agg (Dm.enc Ak).toArray].toArray w (Ret w [] fun _ v _=>v = iV r):=by
 refine Fe func78 rfl ntmps78 rfl fun a S=>?_
 unfold Qf at h
 replace S:=S.k2 0 1 rfl
 refine Fr (Lw S (S.tm rfl) (cs:=(Dm.enc Ah)) rfl rfl ?_);clear S;intro a w1 b1 hz1 hk1 S
 refine Lw S (S.tm rfl) (cs:=(Dm.enc Ak)) rfl rfl ?_;clear S;intro a w2 b2 hz2 hk2 S
 refine Vk S rfl rfl fun a S=>Dz (Vf Yw S rfl rfl fun a S=>Vl isAgg9 1 S rfl rfl rfl rfl fun a S=>Vf Yw S rfl rfl fun a S=>Vl isAgg9 0 S rfl rfl rfl rfl fun a S=>Eb S (fun _=>Dq (vs:=[sV Ah.Key,sV Ak.Key]) ⟨(S.tm rfl),(S.tm rfl),trivial⟩ call62) (Nr _ Ah.Key Ak.Key _ rfl) rfl ?_);clear S;intro v1 a w3 hv1 hk3 hn1 S
 subst hv1
 refine Va S rfl rfl fun a S=>Dl (wp_ret ?_)
 subst h
 exact Et S results78 rfl rfl
set_option maxRecDepth 20000 in
theorem Rk (w : World) (O : Value) (Af : List Dm) (Bc : (LEnt.own O 58 3 Af.length (Af.flatMap Dm.enc)).holds w) (Ah : Int) (Ak : Int) (r : (List Dm)) (h : Ir Af Ah Ak = some r) :
    Calls prog 141 [O,iV Ah,iV Ak,.func (.func 78) #[] #[]].toArray w (Ret w (O.ownBlock.toList) fun _ v w'=>(LEnt.own O 58 3 r.length (r.flatMap Dm.enc)).holds w' ∧ v = .tuple #[]):=by
 refine Lb (O.ownBlock.toList) [.own O 58 3 Af.length (Af.flatMap Dm.enc)] func141 rfl ntmps141 rfl (fun e he=>by simp only [List.mem_singleton] at he;subst he;exact Bc) (Ix _) (Jw _) fun a S=>?_
 unfold Ir at h
 replace S:=(S.nl [.own O 58 3 Af.length (Af.flatMap Dm.enc)] [true] rfl).k4 0 1 2 3 rfl
 refine Fr (Vm S rfl rfl fun a S=>Vq S Gc rfl rfl rfl fun a S=>Va S rfl rfl fun a S=>Dl ?_)
 replace S:=S.k5 0 1 2 3 8 rfl
 obtain ⟨j1,hj1,h⟩:=Eu h
 refine Eh (fun a w'=>∃ x1 : List Dm,j1 x1 = some r ∧ Sx w (O.ownBlock.toList) nov [.own O 58 3 x1.length (x1.flatMap Dm.enc)] [] 53 a w') ?_ ?_
 ·refine wp_block (Gr (fun (m1 : Nat) a w'=>∃ x1 : List Dm,∃ x2 : Int,Ft Ak Ah j1 m1 x1 x2 = some r ∧ Sx w (O.ownBlock.toList) nov [.own O 58 3 x1.length (x1.flatMap Dm.enc)] [(0,O),(1,iV Ah),(2,iV Ak),(3,.func (.func 78) #[] #[]),(8,iV x2)] 53 a w') id ((Ak - (W (Ah + 1))).toNat + 2) ⟨Af,W (Ah + 1),h,S.nf [true] rfl (subR rfl)⟩ ?_)
  clear S h;rintro m1 a w1 ⟨x1,x2,h,S⟩
  cases m1 with
  | zero=>rw [Ft.eq_1] at h;cases h
  | succ m1 =>
   rw [Ft.eq_2] at h
   refine Fs (Fr (Vm S rfl rfl fun a S=>Vm S rfl rfl fun a S=>Vb S Es rfl rfl rfl fun a S=>Dl (Fc h (S.tm rfl) (fun hb1 h=>?_) (fun hb1 h=>?_))))
   ·refine wp_skip (Tn (Fs (wp_block (Fr (Vm S rfl rfl fun a S=>Va S rfl rfl fun a S=>Dl ?_)))))
    replace S:=S.k6 0 1 2 3 8 9 rfl
    obtain ⟨j2,hj2,h⟩:=Eu h
    refine Eh (fun a w'=>∃ x3 : List Dm,j2 x3 = some r ∧ Sx w (O.ownBlock.toList) nov [.own O 58 3 x3.length (x3.flatMap Dm.enc)] [(0,O),(1,iV Ah),(2,iV Ak),(3,.func (.func 78) #[] #[]),(8,iV x2)] 53 a w') ?_ ?_
    ·refine wp_block (Gr (fun (m2 : Nat) a w'=>∃ x3 : List Dm,∃ x4 : Int,Er Ah j2 m2 x3 x4 = some r ∧ Sx w (O.ownBlock.toList) nov [.own O 58 3 x3.length (x3.flatMap Dm.enc)] [(0,O),(1,iV Ah),(2,iV Ak),(3,.func (.func 78) #[] #[]),(8,iV x2),(9,iV x4)] 53 a w') id ((x2 - Ah).toNat + 2) ⟨x1,x2,h,S.nf [true] rfl (subR rfl)⟩ ?_)
     clear S h;rintro m2 a w3 ⟨x3,x4,h,S⟩
     cases m2 with
     | zero=>rw [Er.eq_1] at h;cases h
     | succ m2 =>
      rw [Er.eq_2] at h
      refine Fs (Fs ?_)
      obtain ⟨j3,hj3,h⟩:=Eu h
      refine Eh (fun a w'=>∃ x5 : Bool,j3 x5 = some r ∧ Sx w (O.ownBlock.toList) nov [.own O 58 3 x3.length (x3.flatMap Dm.enc)] [(0,O),(1,iV Ah),(2,iV Ak),(3,.func (.func 78) #[] #[]),(8,iV x2),(9,iV x4),(34,bV x5)] 53 a w') ?_ ?_
      ·rcases Bool.eq_false_or_eq_true (decide (Ah < x4)) with hb2 | hb2
       ·replace h:=Ti h hb2
        obtain ⟨hc1,h⟩:=Ig h
        obtain ⟨hc2,h⟩:=Ig h
        refine Gt [] ([]) Tryz.mixed S rfl (by kernel_rfl) ?_;clear S;intro w7 hk2 hsel S
        refine Ea 0 S hsel rfl rfl rfl (by kernel_rfl) (by kernel_rfl) rfl (fun _ hw=>(Rm (S.tm rfl))) fun a S=>Ea 1 S hsel rfl rfl rfl (by kernel_rfl) (by kernel_rfl) rfl (fun _ hw=>(Rm (S.tm rfl))) fun a S=>Ea 2 S hsel rfl rfl rfl (by kernel_rfl) (by kernel_rfl) rfl (fun _ hw=>(Kb (S.tm rfl) (S.tm rfl))) fun a S=>Ea 3 S hsel rfl rfl rfl (by kernel_rfl) (by kernel_rfl) rfl (fun _ hw=>(Rm (S.tm rfl))) fun a S=>Ef 4 S hsel rfl rfl rfl rfl hb2 rfl rfl (by kernel_rfl) (by kernel_rfl) rfl (fun _ hw=>(Rm (S.tm rfl))) fun a S=>Ef 5 S hsel rfl rfl rfl rfl hb2 rfl rfl (by kernel_rfl) (by kernel_rfl) rfl (fun _ hw=>(Rm (S.tm rfl))) fun a S=>Ef 6 S hsel rfl rfl rfl rfl hb2 rfl rfl (by kernel_rfl) (by kernel_rfl) rfl (fun _ hw=>(Rm (S.tm rfl))) ?_;clear S;intro a S
        obtain ⟨b3,hg3,hr3⟩:=Gh (a:=a) (x:=.tmp 23) (y:=.tmp 24) (ty:=0) Ss Dm.enc_ok S (i:=0) rfl (Dw hc1).1 (Dw hc1).2 (S.tm rfl) (S.tm rfl)
        refine Ef 7 S hsel rfl rfl rfl rfl hb2 rfl rfl (by kernel_rfl) (by kernel_rfl) rfl (fun _ hw=>(hr3 _)) ?_;clear S;intro a S
        clear hr3
        refine Ef 8 S hsel rfl rfl rfl rfl hb2 rfl rfl (by kernel_rfl) (by kernel_rfl) rfl (fun _ hw=>(Fb isAgg58 sizeOf58 (off:=x4.toNat * 3) (o:=0) (part:=(Dm.enc (Dm.mk ((nth x3 x4).Key) ((nth x3 x4).Points)))) rfl rfl (S.tm rfl) ((Mg Dm.enc_ok S (i:=0) rfl hg3 (Dw hc1).1 (Hg (e':=.own O 58 3 x3.length (x3.flatMap Dm.enc)))).kept hw))) fun a S=>Ef 9 S hsel rfl rfl rfl rfl hb2 rfl rfl (by kernel_rfl) (by kernel_rfl) rfl (fun _ hw=>(Rm (S.tm rfl))) fun a S=>Ef 10 S hsel rfl rfl rfl rfl hb2 rfl rfl (by kernel_rfl) (by kernel_rfl) rfl (fun _ hw=>(Rm (S.tm rfl))) fun a S=>Ef 11 S hsel rfl rfl rfl rfl hb2 rfl rfl (by kernel_rfl) (by kernel_rfl) rfl (fun _ hw=>(Iw (S.tm rfl) rfl)) ?_;clear S;intro a S
        obtain ⟨b4,hg4,hr4⟩:=Gh (a:=a) (x:=.tmp 27) (y:=.tmp 29) (ty:=0) Ss Dm.enc_ok S (i:=0) rfl (Dw hc2).1 (Dw hc2).2 (S.tm rfl) (S.tm rfl)
        refine Ef 12 S hsel rfl rfl rfl rfl hb2 rfl rfl (by kernel_rfl) (by kernel_rfl) rfl (fun _ hw=>(hr4 _)) ?_;clear S;intro a S
        clear hr4
        refine Ef 13 S hsel rfl rfl rfl rfl hb2 rfl rfl (by kernel_rfl) (by kernel_rfl) rfl (fun _ hw=>(Fb isAgg58 sizeOf58 (off:=((W (x4 - 1)).toNat) * 3) (o:=0) (part:=(Dm.enc (Dm.mk ((nth x3 (W (x4 - 1))).Key) ((nth x3 (W (x4 - 1))).Points)))) rfl rfl (S.tm rfl) ((Mg Dm.enc_ok S (i:=0) rfl hg4 (Dw hc2).1 (Hg (e':=.own O 58 3 x3.length (x3.flatMap Dm.enc)))).kept hw))) fun a S=>Hb 14 (by kernel_rfl) rfl (Dy S rfl rfl rfl hb2 (Eb S (fun _=>Rf (cap:=[]) (S.tm rfl) (vs:=[.agg (Dm.enc (Dm.mk ((nth x3 x4).Key) ((nth x3 x4).Points))).toArray,.agg (Dm.enc (Dm.mk ((nth x3 (W (x4 - 1))).Key) ((nth x3 (W (x4 - 1))).Points))).toArray]) ⟨(S.tm rfl),(S.tm rfl),trivial⟩ call78) (GK _ (Dm.mk ((nth x3 x4).Key) ((nth x3 x4).Points)) (Dm.mk ((nth x3 (W (x4 - 1))).Key) ((nth x3 (W (x4 - 1))).Points)) _ rfl) rfl ?_));clear S;intro v2 a w8 hv2 hk3 hn2 S
        subst hv2
        refine Ld (Hy hk3 (Li [15,16] hsel (by kernel_rfl) rfl ?_))
        clear hsel
        refine Fj S rfl rfl rfl rfl hb2 (Ha S (Es (S.tm rfl) rfl) rfl fun a S=>Gp S rfl (Pq hb2 (S.tm rfl) (S.tm rfl)) rfl fun a S=>Ij ?_)
        replace S:=S.nk [.own O 58 3 x3.length (x3.flatMap Dm.enc)] [(0,O),(1,iV Ah),(2,iV Ak),(3,.func (.func 78) #[] #[]),(8,iV x2),(9,iV x4),(22,.func (.func 78) #[] #[]),(23,O),(24,iV x4),(25,.pointer (some ⟨b3,x4.toNat * 3,none⟩)),(26,.agg (Dm.enc (Dm.mk ((nth x3 x4).Key) ((nth x3 x4).Points))).toArray),(27,O),(28,iV x4),(29,iV (W (x4 - 1))),(30,.pointer (some ⟨b4,((W (x4 - 1)).toNat) * 3,none⟩)),(31,.agg (Dm.enc (Dm.mk ((nth x3 (W (x4 - 1))).Key) ((nth x3 (W (x4 - 1))).Points))).toArray),(32,iV (Qf (Dm.mk ((nth x3 x4).Key) ((nth x3 x4).Points)) (Dm.mk ((nth x3 (W (x4 - 1))).Key) ((nth x3 (W (x4 - 1))).Points)))),(33,bV (decide ((Qf (Dm.mk ((nth x3 x4).Key) ((nth x3 x4).Points)) (Dm.mk ((nth x3 (W (x4 - 1))).Key) ((nth x3 (W (x4 - 1))).Points))) < 0))),(34,bV (decide ((Qf (Dm.mk ((nth x3 x4).Key) ((nth x3 x4).Points)) (Dm.mk ((nth x3 (W (x4 - 1))).Key) ((nth x3 (W (x4 - 1))).Points))) < 0)))] [true] rfl (subR rfl)
        exact Tn (⟨decide ((Qf (Dm.mk ((nth x3 x4).Key) ((nth x3 x4).Points)) (Dm.mk ((nth x3 (W (x4 - 1))).Key) ((nth x3 (W (x4 - 1))).Points))) < 0),h,S.nf [true] rfl (subR rfl)⟩)
       ·replace h:=Tj h hb2
        refine Gt [] ([]) Tryz.mixed S rfl (by kernel_rfl) ?_;clear S;intro w9 hk4 hsel S
        refine Li [0,1,2,3,4,5,6,7,8,9,10,11,12,13,14,15,16] hsel (by kernel_rfl) rfl ?_
        clear hsel
        refine Gp S rfl (Rm (S.tm rfl)) rfl fun a S=>Gp S rfl (Rm (S.tm rfl)) rfl fun a S=>Gp S rfl (Kb (S.tm rfl) (S.tm rfl)) rfl fun a S=>Gp S rfl (Rm (S.tm rfl)) rfl ?_;clear S;intro a S
        iterate 12 (refine Pn S rfl rfl rfl rfl (Kp hb2) rfl ?_ rfl;clear S;intro a S)
        refine Gp S rfl (Ps hb2 (S.tm rfl) rfl) rfl fun a S=>Ij ?_
        replace S:=S.k7 0 1 2 3 8 9 34 rfl
        exact Tn (⟨false,h,S.nf [true] rfl (subR rfl)⟩)
      clear S h;rintro a w5 ⟨x5,h,S⟩;rw [hj3] at h;clear hj3 j3
      refine Tn (Fc h (S.tm rfl) (fun hb3 h=>?_) (fun hb3 h=>?_))
      ·refine wp_skip (Tn (Fs (wp_block ?_)))
       obtain ⟨hc3,h⟩:=Ig h
       obtain ⟨hc4,h⟩:=Ig h
       obtain ⟨hc5,h⟩:=Ig h
       obtain ⟨hc6,h⟩:=Ig h
       refine Gt [15,17] ([]) Tryz.mixed S rfl (by kernel_rfl) ?_;clear S;intro w14 hk9 hsel S
       refine Ew 0 S hsel rfl rfl (by kernel_rfl) (by kernel_rfl) rfl (fun _=>(Rm (S.tm rfl))) fun a S=>Ew 1 S hsel rfl rfl (by kernel_rfl) (by kernel_rfl) rfl (fun _=>(Rm (S.tm rfl))) fun a S=>Ew 2 S hsel rfl rfl (by kernel_rfl) (by kernel_rfl) rfl (fun _=>(Rm (S.tm rfl))) fun a S=>Ew 3 S hsel rfl rfl (by kernel_rfl) (by kernel_rfl) rfl (fun _=>(Rm (S.tm rfl))) fun a S=>Ew 4 S hsel rfl rfl (by kernel_rfl) (by kernel_rfl) rfl (fun _=>(Iw (S.tm rfl) rfl)) fun a S=>Ew 5 S hsel rfl rfl (by kernel_rfl) (by kernel_rfl) rfl (fun _=>(Rm (S.tm rfl))) fun a S=>Ew 6 S hsel rfl rfl (by kernel_rfl) (by kernel_rfl) rfl (fun _=>(Rm (S.tm rfl))) fun a S=>Ew 7 S hsel rfl rfl (by kernel_rfl) (by kernel_rfl) rfl (fun _=>(Iw (S.tm rfl) rfl)) ?_;clear S;intro a S
       obtain ⟨b9,hg9,hr9⟩:=Gh (a:=a) (x:=.tmp 42) (y:=.tmp 44) (ty:=0) Ss Dm.enc_ok S (i:=0) rfl (Dw hc3).1 (Dw hc3).2 (S.tm rfl) (S.tm rfl)
       refine Ew 8 S hsel rfl rfl (by kernel_rfl) (by kernel_rfl) rfl (fun _=>(hr9 _)) ?_;clear S;intro a S
       clear hr9
       refine Ea 9 S hsel rfl (by kernel_rfl) (by kernel_rfl) (by kernel_rfl) (by kernel_rfl) rfl (fun _ hw=>(Fb isAgg58 sizeOf58 (off:=((W (x4 - 1)).toNat) * 3) (o:=0) (part:=(Dm.enc (Dm.mk ((nth x3 (W (x4 - 1))).Key) ((nth x3 (W (x4 - 1))).Points)))) rfl rfl (S.tm rfl) ((Mg Dm.enc_ok S (i:=0) rfl hg9 (Dw hc3).1 (Hg (e':=.own O 58 3 x3.length (x3.flatMap Dm.enc)))).kept hw))) fun a S=>Ew 10 S hsel rfl rfl (by kernel_rfl) (by kernel_rfl) rfl (fun _=>(Rm (S.tm rfl))) fun a S=>Ew 11 S hsel rfl rfl (by kernel_rfl) (by kernel_rfl) rfl (fun _=>(Rm (S.tm rfl))) ?_;clear S;intro a S
       obtain ⟨b10,hg10,hr10⟩:=Gh (a:=a) (x:=.tmp 47) (y:=.tmp 48) (ty:=0) Ss Dm.enc_ok S (i:=0) rfl (Dw hc4).1 (Dw hc4).2 (S.tm rfl) (S.tm rfl)
       refine Ew 12 S hsel rfl rfl (by kernel_rfl) (by kernel_rfl) rfl (fun _=>(hr10 _)) ?_;clear S;intro a S
       clear hr10
       refine Ea 13 S hsel rfl (by kernel_rfl) (by kernel_rfl) (by kernel_rfl) (by kernel_rfl) rfl (fun _ hw=>(Fb isAgg58 sizeOf58 (off:=x4.toNat * 3) (o:=0) (part:=(Dm.enc (Dm.mk ((nth x3 x4).Key) ((nth x3 x4).Points)))) rfl rfl (S.tm rfl) ((Mg Dm.enc_ok S (i:=0) rfl hg10 (Dw hc4).1 (Hg (e':=.own O 58 3 x3.length (x3.flatMap Dm.enc)))).kept hw))) ?_;clear S;intro a S
       obtain ⟨b11,hg11,hr11⟩:=Gh (a:=a) (x:=.tmp 37) (y:=.tmp 38) (ty:=0) Ss Dm.enc_ok S (i:=0) rfl (Dw hc5).1 (Dw hc5).2 (S.tm rfl) (S.tm rfl)
       refine Ew 14 S hsel rfl rfl (by kernel_rfl) (by kernel_rfl) rfl (fun _=>(hr11 _)) ?_;clear S;intro a S
       clear hr11
       refine Vg 15 (O.ownBlock.toList) rfl (by kernel_rfl) rfl (Ob (c:=0) (j:=x4.toNat) (Dm.mk ((nth x3 (W (x4 - 1))).Key) ((nth x3 (W (x4 - 1))).Points)) Dm.enc_ok S (S.tm rfl) (S.tm rfl) (i:=0) rfl hg11 (Dw hc5).1 sizeOf58 (vs:=[sV ((nth x3 (W (x4 - 1))).Key),iV (((nth x3 (W (x4 - 1))).Points).Num),iV (((nth x3 (W (x4 - 1))).Points).Den)]) rfl rfl rfl rfl rfl ?_);clear S;intro w16 hk11 S
       refine Ld (Vh ?_)
       obtain ⟨b12,hg12,hr12⟩:=Gh (a:=a) (x:=.tmp 39) (y:=.tmp 41) (ty:=0) Ss Dm.enc_ok S (i:=0) rfl (Dw hc6).1 (Dw hc6).2 (S.tm rfl) (S.tm rfl)
       refine Ea 16 S hsel rfl rfl rfl (by kernel_rfl) (by kernel_rfl) rfl (fun _ hw=>(hr12 _)) ?_;clear S;intro a S
       clear hr12
       refine Hb 17 (by kernel_rfl) rfl (Ob (c:=0) (j:=(W (x4 - 1)).toNat) (Dm.mk ((nth x3 x4).Key) ((nth x3 x4).Points)) Dm.enc_ok S (S.tm rfl) (S.tm rfl) (i:=0) rfl hg12 (Dw hc6).1 sizeOf58 (vs:=[sV ((nth x3 x4).Key),iV (((nth x3 x4).Points).Num),iV (((nth x3 x4).Points).Den)]) rfl rfl rfl rfl rfl ?_);clear S;intro w18 hk13 S
       refine Ld (Hy hk13 (Vt (by kernel_rfl) ?_))
       clear hsel
       replace S:=(S.nl [.own O 58 3 ((x3.set x4.toNat (Dm.mk ((nth x3 (W (x4 - 1))).Key) ((nth x3 (W (x4 - 1))).Points))).set ((W (x4 - 1)).toNat) (Dm.mk ((nth x3 x4).Key) ((nth x3 x4).Points))).length (((x3.set x4.toNat (Dm.mk ((nth x3 (W (x4 - 1))).Key) ((nth x3 (W (x4 - 1))).Points))).set ((W (x4 - 1)).toNat) (Dm.mk ((nth x3 x4).Key) ((nth x3 x4).Points))).flatMap Dm.enc)] [true] rfl).k6 0 1 2 3 8 9 rfl
       exact Hp (Tn (Fg (Vm S rfl rfl fun a S=>Vq S Iw rfl rfl rfl fun a S=>Va S rfl rfl fun a S=>Dl (⟨m2,⟨((x3.set x4.toNat (Dm.mk ((nth x3 (W (x4 - 1))).Key) ((nth x3 (W (x4 - 1))).Points))).set ((W (x4 - 1)).toNat) (Dm.mk ((nth x3 x4).Key) ((nth x3 x4).Points))),W (x4 - 1),h,S.nf [true] rfl ⟨rfl,rfl,rfl,rfl,rfl,rfl,trivial⟩⟩,Nat.lt_succ_self _⟩))))
      ·exact wp_exit (Ed (Ed (Gn (Tn (⟨x3,h,S.nf [true] rfl (subR rfl)⟩)))))
    clear S h;rintro a w4 ⟨x3,h,S⟩;rw [hj2] at h;clear hj2 j2
    exact Hp (Tn (Fg (Vm S rfl rfl fun a S=>Vq S Gc rfl rfl rfl fun a S=>Va S rfl rfl fun a S=>Dl (⟨m1,⟨x3,W (x2 + 1),h,S.nf [true] rfl ⟨rfl,rfl,rfl,rfl,rfl,trivial⟩⟩,Nat.lt_succ_self _⟩))))
   ·exact wp_exit (Ed (Ed (Gn (Tn (⟨x1,h,S.nf [true] rfl trivial⟩)))))
 clear S h;rintro a w2 ⟨x1,h,S⟩;rw [hj1] at h;clear hj1 j1
 obtain rfl:=Option.some.inj h
 exact Rp S results141 ⟨(S.holds _ (List.mem_of_getElem? (i:=0) rfl)),rfl⟩
theorem Sz (w : World) (O : Value) (Af : List Dm) (Bc : (LEnt.own O 58 3 Af.length (Af.flatMap Dm.enc)).holds w) (Ah : Int) (Ak : Int) (Bu : Int) (r : (List Dm)) (h : Ks Af Ah Ak Bu = some r) :
    Calls prog 109 [O,iV Ah,iV Ak,iV Bu,.func (.func 78) #[] #[]].toArray w (Ret w (O.ownBlock.toList) fun _ v w'=>(LEnt.own O 58 3 r.length (r.flatMap Dm.enc)).holds w' ∧ v = .tuple #[]):=by
 refine Lb (O.ownBlock.toList) [.own O 58 3 Af.length (Af.flatMap Dm.enc)] func109 rfl ntmps109 rfl (fun e he=>by simp only [List.mem_singleton] at he;subst he;exact Bc) (Ix _) (Jw _) fun a S=>?_
 unfold Ks at h
 replace S:=(S.nl [.own O 58 3 Af.length (Af.flatMap Dm.enc)] [true] rfl).k5 0 1 2 3 4 rfl
 refine Fr (Vk S rfl rfl fun a S=>Dz (Vk S rfl rfl fun a S=>Dl ?_))
 replace S:=S.k6 0 1 2 3 4 10 rfl
 refine Eh (fun a w'=>False) ?_ ?_
 ·refine wp_block (Gr (fun (m1 : Nat) a w'=>∃ x1 : Int,∃ x2 : Int,∃ x3 : Int,∃ x4 : Bool,Gz Af m1 x1 x2 x3 x4 = some r ∧ Sx w (O.ownBlock.toList) nov [.own O 58 3 Af.length (Af.flatMap Dm.enc)] [(0,O),(1,iV x1),(2,iV x2),(3,iV x3),(4,.func (.func 78) #[] #[]),(10,bV x4)] 148 a w') id 4611686018427387904 ⟨Ah,Ak,Bu,true,h,S.nf [true] rfl (subR rfl)⟩ ?_)
  clear S h;rintro m1 a w1 ⟨x1,x2,x3,x4,h,S⟩
  cases m1 with
  | zero=>rw [Gz.eq_1] at h;cases h
  | succ m1 =>
   rw [Gz.eq_2] at h
   refine wp_block (Fr (Vm S rfl rfl fun a S=>Vm S rfl rfl fun a S=>Vb S Iw rfl rfl rfl fun a S=>Va S rfl rfl fun a S=>Dl (Fs (Fs ?_))))
   refine Fg (Vm S rfl rfl fun a S=>Vq S Uj rfl rfl rfl fun a S=>Dl (Fc h (S.tm rfl) (fun hb1 h=>?_) (fun hb1 h=>?_)))
   ·refine Fs (Fg ?_)
    iterate 4 (refine Vm S rfl rfl ?_;clear S;intro a S)
    obtain ⟨r1,hr1,h⟩:=Fa h
    refine Mj 0 S rfl (fun _=>.own O 58 3 r1.length (r1.flatMap Dm.enc)) (fun _=>Dq (vs:=[O,iV x1,iV x2,.func (.func 78) #[] #[]]) ⟨(S.tm rfl),(S.tm rfl),(S.tm rfl),(S.tm rfl),trivial⟩ call141) (Rk _ O Af (S.holds _ (List.mem_of_getElem? (i:=0) rfl)) x1 x2 _ hr1) rfl (fun _ _ _ h=>⟨h.1,fun _ hc=>hc⟩) ?_;clear S;intro v1 a w3 hv1 hk1 hn1 S
    replace hv1:=hv1.2
    subst hv1
    refine Ld ?_
    replace S:=(S.nl [.own O 58 3 r1.length (r1.flatMap Dm.enc)] [true] rfl).k0
    refine Tn (wp_ret (Dv (Gq (Dv (Gq (Dv ?_))))))
    obtain rfl:=Option.some.inj h
    exact Rp S results109 ⟨(S.holds _ (List.mem_of_getElem? (i:=0) rfl)),rfl⟩
   ·refine wp_skip (Tn (Fs (Fr (Vm S rfl rfl fun a S=>Vq S Jk rfl rfl rfl fun a S=>Dl (Fc h (S.tm rfl) (fun hb2 h=>?_) (fun hb2 h=>?_))))))
    ·refine Fs ?_
     cases h
    ·refine wp_skip (Tn (Fs (Fr (Vm S rfl rfl fun a S=>Vu S Ih rfl rfl fun a S=>Ld ?_))))
     replace S:=S.k1 39 rfl
     refine Tn (Fc h (S.tm rfl) (fun hb3 h=>?_) (fun hb3 h=>?_))
     ·refine Fs ?_
      cases h
     ·refine wp_skip (Tn (Fs ?_))
      cases h
 exact fun _ _ h=>h.elim
end Go.Proofs.YtfdmkmnjfhbliaaGreatDoor
