/- Each Go function computes its plain twin,by program. -/
import Derived.Test.YtjofndbcioknfaaGreatDoorWk2
namespace Go.Proofs.YtjofndbcioknfaaGreatDoor
open Go
open Go.Proofs.Tryz
theorem IV (w : World) (O : Nat) (Ao : Ni) (Cb : R32) (Ci : Wm (view w []) Ao Cb) (Ba : Value) (Am : List Eg) (Bi : Slc (view w []) 11 Ba (Am.map Eg.enc)) (Az : (view w []) O = some (.cells (R32.enc Cb ++ [Ba]).toArray 128 (0,0))) (As : ByteArray) (r : (List Ej) × (List (ByteArray × ByteArray)) × Int) (h : Xq Ao Am As = some r) :
    Calls prog 45 [.pointer (some ⟨O,0,none⟩),sV As].toArray w (Ret w [] fun τ v _=>∃ u1 : Value,∃ u2 : Value,v = .tuple #[u1,u2,iV r.2.2] ∧ Ve τ 118 4 u1 r.1.length (r.1.flatMap Ej.enc) ∧ (∃ b : Nat,u2 = .map (some b) ∧ τ b = some (.map (Gx Value.string Value.string r.2.1) r.2.1.length))):=by
 obtain ⟨u1,u2,rfl,hs1,⟨u3,rfl,hs2⟩⟩:=Ci
 replace Az : (view w []) O = some (.cells [u1.val,u3.val,iV Ao.Table.Relay,iV Ao.Table.Most,iV Ao.Final.Size,iV Ao.Final.Many,iV Ao.Final.Reserves,Ba].toArray 128 (0,0)):=Az
 refine Fe func45 rfl ntmps45 rfl fun a S=>?_
 unfold Xq at h
 replace S:=S.k2 0 1 rfl
 refine Fs (Fg ?_)
 iterate 3 (refine Vk S rfl rfl ?_;clear S;intro a S)
 refine Dz (Vm S rfl rfl fun a S=>Vm S rfl rfl ?_);clear S;intro a S
 have hz1:=S.keep.size
 refine Er S (fun _=>Ei (vs:=[.pointer (some ⟨O,0,none⟩),sV As]) ⟨(S.tm rfl),(S.tm rfl),trivial⟩ call87) (LK _ O Ao (R32.mk u1 (R28.mk u3 Ao.Table.Relay Ao.Table.Most) Ao.Final) ⟨u1,(R28.mk u3 Ao.Table.Relay Ao.Table.Most),rfl,(hs1.mono (S.le_arg Ez)),⟨u3,rfl,(hs2.mono (S.le_arg Ez))⟩⟩ Ba Am (Bi.mono (S.le_arg Ez)) ((S.le_arg Ez) _ _ Az) As _ rfl) rfl ?_;clear S;intro v1 a w1 hv1 hk1 hn1 S
 obtain ⟨φ1,hl1,hm1,S⟩:=S.see' hn1 hz1
 obtain ⟨b1,rfl,hq1⟩:=hv1
 replace hq1:=hm1 _ _ hq1
 refine Va S rfl rfl fun a S=>Dz (Sf (κ:=ByteArray) (ν:=ByteArray) S rfl Value.string Value.string ?_);clear S;intro a w2 b2 hz2 hk2 S
 refine Va S rfl rfl fun a S=>Dz (Vk S rfl rfl ?_);clear S;intro a S
 replace S:=S.nil 170 2
 refine Dz (Vk S rfl rfl ?_);clear S;intro a S
 replace S:=S.nil 172 3
 refine Dl (Fs (Fr (Vm S rfl rfl fun a S=>Vm S rfl rfl ?_)));clear S;intro a S
 obtain ⟨r1,hr1,h⟩:=Ga h
 have hz3:=S.keep.size
 refine Er S (fun _=>Ei (vs:=[.pointer (some ⟨O,0,none⟩),sV As]) ⟨(S.tm rfl),(S.tm rfl),trivial⟩ call86) (BC _ O Ao (R32.mk u1 (R28.mk u3 Ao.Table.Relay Ao.Table.Most) Ao.Final) ⟨u1,(R28.mk u3 Ao.Table.Relay Ao.Table.Most),rfl,(hs1.mono (S.le_arg Ez)),⟨u3,rfl,(hs2.mono (S.le_arg Ez))⟩⟩ Ba Am (Bi.mono (S.le_arg Ez)) ((S.le_arg Ez) _ _ Az) As _ hr1) rfl ?_;clear S;intro v2 a w3 hv2 hk3 hn2 S
 obtain ⟨φ2,hl2,hm2,S⟩:=S.see' hn2 hz3
 have hs3:=hv2.mono hm2
 refine lv S (Gn Pn (S.tm rfl) (Gk (Hn Eg.enc_ok hs3))) rfl fun a S=>lv S (Rm rfl) rfl fun a S=>Ld ?_
 replace S:=(S.nl [.own (.slice none 0 0) 172 3 ([] : List Uk).length (([] : List Uk).flatMap Uk.enc),.own (.slice none 0 0) 170 2 ([] : List Kq).length (([] : List Kq).flatMap Kq.enc),.map b2 (Gx Value.string Value.string ([] : List (ByteArray × ByteArray))) ([] : List (ByteArray × ByteArray)).length] [true,true,true] rfl).k7 7 8 9 10 23 24 25 rfl
 refine Tn ?_
 obtain ⟨j1,hj1,h⟩:=Fk h
 refine Fa (fun a w'=>∃ x1 : List Jm,∃ x2 : List Kq,∃ x3 : List (ByteArray × ByteArray),∃ v3 : Value,∃ rs1 : List Uk,∃ v4 : Value,j1 x1 x2 x3 = some r ∧ Lp (Xa φ2) x1 rs1 ∧ Sx w [] φ2 [.own v3 172 3 rs1.length (rs1.flatMap Uk.enc),.own v4 170 2 x2.length (x2.flatMap Kq.enc),.map b2 (Gx Value.string Value.string x3) x3.length] [(8,.map (some b2)),(9,v4),(10,v3)] 72 a w') ?_ ?_
 ·refine wp_block (Hs (fun (ys1 : List Eg) a w'=>∃ i1 : Nat,∃ x1 : List Jm,∃ x2 : List Kq,∃ x3 : List (ByteArray × ByteArray),∃ v3 : Value,∃ rs1 : List Uk,∃ v4 : Value,(∃ dn,r1 = dn ++ ys1 ∧ dn.length = i1) ∧ Nk Ao Am As j1 ys1 i1 x1 x2 x3 = some r ∧ Lp (Xa φ2) x1 rs1 ∧ Sx w [] φ2 [.own v3 172 3 rs1.length (rs1.flatMap Uk.enc),.own v4 170 2 x2.length (x2.flatMap Kq.enc),.map b2 (Gx Value.string Value.string x3) x3.length] [(7,.map (some b1)),(8,.map (some b2)),(9,v4),(10,v3),(23,v2),(24,iV (r1.length : Int)),(25,iV (i1 : Int))] 72 a w') List.length r1 ⟨0,([] : List Jm),([] : List Kq),([] : List (ByteArray × ByteArray)),(.slice none 0 0),([] : List Uk),(.slice none 0 0),⟨[],rfl,rfl⟩,h,.nil,S.nf [true,true,true] rfl (subR rfl)⟩ ?_)
  clear S h;rintro ys1 a w4 ⟨i1,x1,x2,x3,v3,rs1,v4,⟨dn,hd1,hi1⟩,h,hr2,S⟩
  cases ys1 with
  | nil =>
   rw [Nk.eq_1] at h
   refine Fr (Vb S Fp rfl rfl rfl fun a S=>Ld ?_)
   replace S:=S.k8 7 8 9 10 23 24 25 26 rfl
   exact Tn (Fs (wp_cond_false ((S.tm rfl).trans (congrArg Value.bool (Jq hd1 hi1))) (wp_exit (Ew (Ew (Hl (Tn (⟨x1,x2,x3,v3,rs1,v4,h,hr2,S.nf [true,true,true] rfl (subR rfl)⟩))))))))
  | cons y1 ys1 =>
   rw [Nk.eq_2] at h
   refine Fr (Vb S Fp rfl rfl rfl fun a S=>Ld ?_)
   replace S:=S.k8 7 8 9 10 23 24 25 26 rfl
   refine Tn (Fs (wp_cond_true ((S.tm rfl).trans (congrArg Value.bool (Iv hd1 hi1))) (wp_skip (Tn (Fs ?_)))))
   obtain ⟨j2,hj2,h⟩:=Fk h
   refine Fa (fun a w'=>∃ x4 : List Jm,∃ x5 : List Kq,∃ x6 : List (ByteArray × ByteArray),∃ v5 : Value,∃ rs2 : List Uk,∃ v6 : Value,j2 x4 x5 x6 = some r ∧ Lp (Xa φ2) x4 rs2 ∧ Sx w [] φ2 [.own v5 172 3 rs2.length (rs2.flatMap Uk.enc),.own v6 170 2 x5.length (x5.flatMap Kq.enc),.map b2 (Gx Value.string Value.string x6) x6.length] [(7,.map (some b1)),(8,.map (some b2)),(9,v6),(10,v5),(23,v2),(24,iV (r1.length : Int)),(25,iV (i1 : Int))] 72 a w') ?_ ?_
   ·refine wp_block (Fs (Fg ?_))
    obtain ⟨b3,o1,hm3,hr4⟩:=Fv (a:=a) (x:=.tmp 23) (y:=.tmp 25) (ty:=0) Pn (Hn Eg.enc_ok hs3) (Js hd1 hi1) rfl (S.tm rfl) (S.tm rfl)
    refine lv S (hr4 _) rfl ?_;clear S;intro a S
    clear hr4
    refine lv S (Gh isAgg101 sizeOf101 (off:=o1) (o:=0) (part:=(Eg.enc y1)) rfl rfl (S.tm rfl) (hm3.at S.emb)) rfl fun a S=>Iz S zeroValue101 (cs:=[sV An,iV 0,iV 0,iV 0,sV An,sV An,sV An,iV 0,iV 0,sV An,iV 0]) rfl rfl ?_;clear S;intro a w7 b4 hz4 hk4 S
    refine Ft S (S.tm rfl) (S.tm rfl) (i:=0) (off:=0) rfl sizeOf101 (vs:=(Eg.enc y1)) rfl rfl rfl rfl ?_;clear S;intro w8 hk5 S
    refine Dz (Vm S rfl rfl fun a S=>Vf Oq S rfl rfl fun a S=>Vl isAgg9 0 S rfl rfl rfl rfl fun a S=>lv S (JQ (kv:=Value.string) (vv:=(fun x=>Value.agg (Eg.enc x).toArray)) (m:=(Iy Ao Am As)) (key:=y1.Who) (z:=(Eg.mk An 0 0 0 An An An 0 0 An 0)) (S.emb _ _ (hl2 _ _ hq1)) underlying164 (Nu underlying9) zeroValue101 (S.tm rfl) (S.tm rfl)) rfl fun a S=>Vm S rfl rfl fun a S=>Vq S Ia rfl rfl rfl fun a S=>Vq S Ia rfl rfl rfl ?_);clear S;intro a S
    refine Iz S zeroValue101 (cs:=[sV An,iV 0,iV 0,iV 0,sV An,sV An,sV An,iV 0,iV 0,sV An,iV 0]) rfl rfl ?_;clear S;intro a w9 b5 hz5 hk6 S
    refine Ft S (S.tm rfl) (S.tm rfl) (i:=0) (off:=0) rfl sizeOf101 (vs:=(Eg.enc (Et (Iy Ao Am As) y1.Who (Eg.mk An 0 0 0 An An An 0 0 An 0)))) rfl rfl rfl rfl ?_;clear S;intro w10 hk7 S
    refine Va S rfl rfl fun a S=>Ld ?_
    replace S:=(S.nl [.blk b5 (Eg.enc (Et (Iy Ao Am As) y1.Who (Eg.mk An 0 0 0 An An An 0 0 An 0))) 101,.blk b4 (Eg.enc y1) 101,.own v3 172 3 rs1.length (rs1.flatMap Uk.enc),.own v4 170 2 x2.length (x2.flatMap Kq.enc),.map b2 (Gx Value.string Value.string x3) x3.length] [true,true,true,true,true] rfl).k10 7 8 9 10 12 13 14 23 24 25 rfl
    refine Tn (Fs (Fr (Vm S rfl rfl fun a S=>Vu S Ig rfl rfl fun a S=>Dl (Fc h (S.tm rfl) (fun hb1 h=>?_) (fun hb1 h=>?_)))))
    ·exact wp_exit (Ew (Hl (Tn (⟨x1,x2,x3,v3,rs1,v4,h,hr2,S.nf [false,false,true,true,true] rfl (subR rfl)⟩))))
    ·refine wp_skip (Tn (Fr (Vm S rfl rfl fun a S=>Vf Oq S rfl rfl fun a S=>Vl isAgg9 1 S rfl rfl rfl rfl fun a S=>Vf Vp S rfl rfl fun a S=>Vl isAgg9 1 S rfl rfl rfl rfl fun a S=>Qa (kv:=Value.string) (vv:=Value.string) (m:=x3) (key:=y1.Who) (val:=y1.Club) S (i:=4) rfl underlying113 (Nu underlying9) (S.tm rfl) (S.tm rfl) (S.tm rfl) ?_)));clear S;intro w11 hk8 S
     refine Ld ?_
     replace S:=(S.nl [.blk b5 (Eg.enc (Et (Iy Ao Am As) y1.Who (Eg.mk An 0 0 0 An An An 0 0 An 0))) 101,.blk b4 (Eg.enc y1) 101,.own v3 172 3 rs1.length (rs1.flatMap Uk.enc),.own v4 170 2 x2.length (x2.flatMap Kq.enc),.map b2 (Gx Value.string Value.string (Hj x3 y1.Who y1.Club)) (Hj x3 y1.Who y1.Club).length] [true,true,true,true,true] rfl).k9 7 8 9 10 12 13 23 24 25 rfl
     refine Tn (Fr (Vm S rfl rfl fun a S=>Vf Oq S rfl rfl fun a S=>Vl isAgg9 1 S rfl rfl rfl rfl fun a S=>Vf Um S rfl rfl fun a S=>Vl isAgg3 0 S rfl rfl rfl rfl fun a S=>lv S (Nc bt_170 (pv:=[(0,sV y1.Who),(1,iV ((Et (Iy Ao Am As) y1.Who (Eg.mk An 0 0 0 An An An 0 0 An 0)).Time))]) ⟨rfl,(S.tm rfl),rfl,(S.tm rfl),trivial⟩ (cs:=[sV y1.Who,iV ((Et (Iy Ao Am As) y1.Who (Eg.mk An 0 0 0 An An An 0 0 An 0)).Time)]) (by kernel_rfl)) rfl fun a S=>Fq S underlying166 sizeOf170 zeroValue170 rfl rfl (pv:=[(0,.agg #[sV y1.Who,iV ((Et (Iy Ao Am As) y1.Who (Eg.mk An 0 0 0 An An An 0 0 An 0)).Time)])]) ⟨rfl,(S.tm rfl),trivial⟩ (cs:=[sV y1.Who,iV ((Et (Iy Ao Am As) y1.Who (Eg.mk An 0 0 0 An An An 0 0 An 0)).Time)]) (by kernel_rfl) rfl ?_));clear S;intro a w12 b6 hz6 hk9 S
     obtain ⟨hc1,h⟩:=Jc h
     refine Np HI Kq.enc_ok S (S.tm rfl) (i:=4) rfl (S.tm rfl) (j:=0) rfl (ys:=[(Kq.mk y1.Who ((Et (Iy Ao Am As) y1.Who (Eg.mk An 0 0 0 An An An 0 0 An 0)).Time))]) rfl rfl rfl rfl (by have:=Nx hc1;omega) rfl ?_;clear S;intro v7 a w13 hk10 S
     refine Va S rfl rfl fun a S=>Ld ?_
     replace S:=(S.nl [.blk b5 (Eg.enc (Et (Iy Ao Am As) y1.Who (Eg.mk An 0 0 0 An An An 0 0 An 0))) 101,.blk b4 (Eg.enc y1) 101,.own v3 172 3 rs1.length (rs1.flatMap Uk.enc),.own v7 170 2 (x2 ++ [(Kq.mk y1.Who ((Et (Iy Ao Am As) y1.Who (Eg.mk An 0 0 0 An An An 0 0 An 0)).Time))]).length ((x2 ++ [(Kq.mk y1.Who ((Et (Iy Ao Am As) y1.Who (Eg.mk An 0 0 0 An An An 0 0 An 0)).Time))]).flatMap Kq.enc),.map b2 (Gx Value.string Value.string (Hj x3 y1.Who y1.Club)) (Hj x3 y1.Who y1.Club).length] [false,true,true,true,true,true] rfl).k9 7 8 9 10 12 13 23 24 25 rfl
     refine Tn (Fr (Vf Ws S rfl rfl fun a S=>Vl isAgg3 0 S rfl rfl rfl rfl fun a S=>Vq S Jz rfl rfl rfl fun a S=>Dl ?_))
     obtain ⟨j3,hj3,h⟩:=Fk h
     refine Fa (fun a w'=>∃ x7 : List Jm,∃ v8 : Value,∃ rs3 : List Uk,j3 x7 = some r ∧ Lp (Xa φ2) x7 rs3 ∧ Sx w [] φ2 [.own v8 172 3 rs3.length (rs3.flatMap Uk.enc),.own v7 170 2 (x2 ++ [(Kq.mk y1.Who ((Et (Iy Ao Am As) y1.Who (Eg.mk An 0 0 0 An An An 0 0 An 0)).Time))]).length ((x2 ++ [(Kq.mk y1.Who ((Et (Iy Ao Am As) y1.Who (Eg.mk An 0 0 0 An An An 0 0 An 0)).Time))]).flatMap Kq.enc),.map b2 (Gx Value.string Value.string (Hj x3 y1.Who y1.Club)) (Hj x3 y1.Who y1.Club).length] [(7,.map (some b1)),(8,.map (some b2)),(9,v7),(10,v8),(23,v2),(24,iV (r1.length : Int)),(25,iV (i1 : Int))] 72 a w') ?_ ?_
     ·refine Fc h (S.tm rfl) (fun hb2 h=>?_) (fun hb2 h=>?_)
      ·refine Fg (Vm S rfl rfl fun a S=>Vf Oq S rfl rfl fun a S=>Vl isAgg9 1 S rfl rfl rfl rfl fun a S=>Vf Ws S rfl rfl fun a S=>Vl isAgg3 0 S rfl rfl rfl rfl fun a S=>lv S (Nc bt_172 (pv:=[(0,sV y1.Who),(1,iV ((Et (Iy Ao Am As) y1.Who (Eg.mk An 0 0 0 An An An 0 0 An 0)).Fault))]) ⟨rfl,(S.tm rfl),rfl,(S.tm rfl),trivial⟩ (cs:=[sV y1.Who,iV ((Et (Iy Ao Am As) y1.Who (Eg.mk An 0 0 0 An An An 0 0 An 0)).Fault),.slice none 0 0]) (by kernel_rfl)) rfl fun a S=>Fq S underlying167 sizeOf172 zeroValue172 rfl rfl (pv:=[(0,.agg #[sV y1.Who,iV ((Et (Iy Ao Am As) y1.Who (Eg.mk An 0 0 0 An An An 0 0 An 0)).Fault),.slice none 0 0])]) ⟨rfl,(S.tm rfl),trivial⟩ (cs:=[sV y1.Who,iV ((Et (Iy Ao Am As) y1.Who (Eg.mk An 0 0 0 An An An 0 0 An 0)).Fault),.slice none 0 0]) (by kernel_rfl) rfl ?_);clear S;intro a w15 b7 hz7 hk11 S
       obtain ⟨hc2,h⟩:=Jc h
       have hr6 : Lp (Xa φ2) (x1 ++ [(Jm.mk y1.Who ((Et (Iy Ao Am As) y1.Who (Eg.mk An 0 0 0 An An An 0 0 An 0)).Fault) ([] : List ByteArray))]) (rs1 ++ [(Uk.mk y1.Who ((Et (Iy Ao Am As) y1.Who (Eg.mk An 0 0 0 An An An 0 0 An 0)).Fault) ⟨.slice none 0 0,rfl⟩)]):=Lp.app hr2 (Lp.cons ⟨⟨.slice none 0 0,rfl⟩,rfl,(Xj _ _)⟩ Lp.nil)
       refine Np FH Uk.enc_ok S (S.tm rfl) (i:=3) rfl (S.tm rfl) (j:=0) rfl (ys:=[(Uk.mk y1.Who ((Et (Iy Ao Am As) y1.Who (Eg.mk An 0 0 0 An An An 0 0 An 0)).Fault) ⟨.slice none 0 0,rfl⟩)]) rfl rfl rfl rfl (by have:=Nx hc2;have:=Lp.len hr2;simp at this ⊢;omega) rfl ?_;clear S;intro v9 a w16 hk12 S
       refine Va S rfl rfl fun a S=>Ld ?_
       replace S:=(S.nl [.own v9 172 3 (rs1 ++ [(Uk.mk y1.Who ((Et (Iy Ao Am As) y1.Who (Eg.mk An 0 0 0 An An An 0 0 An 0)).Fault) ⟨.slice none 0 0,rfl⟩)]).length ((rs1 ++ [(Uk.mk y1.Who ((Et (Iy Ao Am As) y1.Who (Eg.mk An 0 0 0 An An An 0 0 An 0)).Fault) ⟨.slice none 0 0,rfl⟩)]).flatMap Uk.enc),.own v7 170 2 (x2 ++ [(Kq.mk y1.Who ((Et (Iy Ao Am As) y1.Who (Eg.mk An 0 0 0 An An An 0 0 An 0)).Time))]).length ((x2 ++ [(Kq.mk y1.Who ((Et (Iy Ao Am As) y1.Who (Eg.mk An 0 0 0 An An An 0 0 An 0)).Time))]).flatMap Kq.enc),.map b2 (Gx Value.string Value.string (Hj x3 y1.Who y1.Club)) (Hj x3 y1.Who y1.Club).length] [false,false,false,true,true,true] rfl).k7 7 8 9 10 23 24 25 rfl
       exact Tn (⟨(x1 ++ [(Jm.mk y1.Who ((Et (Iy Ao Am As) y1.Who (Eg.mk An 0 0 0 An An An 0 0 An 0)).Fault) ([] : List ByteArray))]),v9,(rs1 ++ [(Uk.mk y1.Who ((Et (Iy Ao Am As) y1.Who (Eg.mk An 0 0 0 An An An 0 0 An 0)).Fault) ⟨.slice none 0 0,rfl⟩)]),h,hr6,S.nf [true,true,true] rfl (subR rfl)⟩)
      ·exact wp_skip (Tn (⟨x1,v3,rs1,h,hr2,S.nf [false,false,true,true,true] rfl (subR rfl)⟩))
     clear S h;rintro a w14 ⟨x7,v8,rs3,h,hr5,S⟩;rw [hj3] at h;clear hj3 j3
     exact Im (Tn (⟨x7,(x2 ++ [(Kq.mk y1.Who ((Et (Iy Ao Am As) y1.Who (Eg.mk An 0 0 0 An An An 0 0 An 0)).Time))]),(Hj x3 y1.Who y1.Club),v8,rs3,v7,h,hr5,S.nf [true,true,true] rfl (subR rfl)⟩))
   clear S h;rintro a w6 ⟨x4,x5,x6,v5,rs2,v6,h,hr3,S⟩;rw [hj2] at h;clear hj2 j2
   exact Tn (Fg (Vq S Gw rfl rfl rfl fun a S=>Vm S rfl rfl fun a S=>Dl (⟨ys1,⟨i1 + 1,x4,x5,x6,v5,rs2,v6,⟨_,(hd1).trans (List.append_cons _ _ _),by simp [hi1]⟩,h,hr3,S.nf [true,true,true] rfl ⟨rfl,rfl,rfl,rfl,rfl,rfl,(congrArg (fun z=>some (Value.int .i64 z)) (Iw hd1 hi1 (Kh (Hn Eg.enc_ok hs3)))),trivial⟩⟩,Nat.lt_succ_self _⟩)))
 clear S h;rintro a w5 ⟨x1,x2,x3,v3,rs1,v4,h,hr2,S⟩;rw [hj1] at h;clear hj1 j1
 refine Tn (Fr (Vm S rfl rfl fun a S=>Vm S rfl rfl ?_));clear S;intro a S
 obtain ⟨r2,hr7,h⟩:=Ga h
 have hz8:=S.keep.size
 refine Er S (fun _=>Ei (vs:=[v4,v3]) ⟨(S.tm rfl),(S.tm rfl),trivial⟩ call88) (LM _ v4 x2 (AP Kq.enc_ok S (i:=1) rfl (Ik (e':=.own v4 170 2 x2.length (x2.flatMap Kq.enc)))) v3 x1 rs1 (AP Uk.enc_ok S (i:=0) rfl (Ik (e':=.own v3 172 3 rs1.length (rs1.flatMap Uk.enc)))) (JX (S.le_new Ez) hr2) _ hr7) rfl ?_;clear S;intro v10 a w17 hv3 hk13 hn3 S
 obtain ⟨u6,rfl,ho3⟩:=hv3
 obtain ⟨φ3,hl3,hm4,S⟩:=S.see' hn3 hz8
 have hs4:=ho3.mono hm4
 refine Vm S rfl rfl fun a S=>Vq S Ia rfl rfl rfl fun a S=>Vq S Ia rfl rfl rfl fun a S=>Va S rfl rfl fun a S=>Va S rfl rfl fun a S=>Dl (Fs (Fg ?_))
 iterate 3 (refine Vm S rfl rfl ?_;clear S;intro a S)
 iterate 3 (refine Va S rfl rfl ?_;clear S;intro a S)
 refine Ld ?_
 replace S:=S.d1.d0.k3 4 5 6 rfl
 refine Tn (wp_ret ?_)
 obtain rfl:=Option.some.inj h
 exact f_ret3 S results45 rfl rfl rfl ⟨_,_,rfl,((hs4).mono S.le_newer),⟨_,rfl,S.map_ret (i:=0) rfl rfl⟩⟩
theorem ER (w : World) (Ah : Eh) (Aj : Eh) (r : Int) (h : Oh Ah Aj = r) :
    Calls prog 47 [.agg (Eh.enc Ah).toArray,.agg (Eh.enc Aj).toArray].toArray w (Ret w [] fun _ v _=>v = iV r):=by
 refine Fe func47 rfl ntmps47 rfl fun a S=>?_
 unfold Oh at h
 replace S:=S.k2 0 1 rfl
 refine Fr (Mk S (S.tm rfl) (cs:=(Eh.enc Ah)) rfl rfl ?_);clear S;intro a w1 b1 hz1 hk1 S
 refine Mk S (S.tm rfl) (cs:=(Eh.enc Aj)) rfl rfl ?_;clear S;intro a w2 b2 hz2 hk2 S
 refine Vk S rfl rfl fun a S=>Dl (Fs (Fr (Vf Ot S rfl rfl fun a S=>Vl isAgg3 1 S rfl rfl rfl rfl fun a S=>Vq S Jn rfl rfl rfl fun a S=>Vf Ot S rfl rfl fun a S=>Vl isAgg3 0 S rfl rfl rfl rfl ?_)));clear S;intro a S
 refine Vq S Jn rfl rfl rfl fun a S=>lv S (NE underlying4 (S.tm rfl) (S.tm rfl)) rfl fun a S=>Dl (Fc h (S.tm rfl) (fun hb1 h=>?_) (fun hb1 h=>?_))
 ·refine Fr (Vf Ot S rfl rfl fun a S=>Vl isAgg3 0 S rfl rfl rfl rfl fun a S=>Vf Ot S rfl rfl fun a S=>Vl isAgg3 1 S rfl rfl rfl rfl fun a S=>Vb S Jt rfl rfl rfl fun a S=>Va S rfl rfl fun a S=>Ld ?_)
  replace S:=S.n0.k1 4 rfl
  refine Tn (wp_ret (Ek ?_))
  subst h
  exact Fd S results47 rfl rfl
 ·refine wp_skip (Tn (Fs (Fr (Vf Ot S rfl rfl fun a S=>Vl isAgg3 1 S rfl rfl rfl rfl fun a S=>Vf Ot S rfl rfl fun a S=>Vl isAgg3 0 S rfl rfl rfl rfl fun a S=>Vb S Nt rfl rfl rfl fun a S=>Ld ?_))))
  replace S:=(S.nl [.blk b2 (Eh.enc Aj) 120,.blk b1 (Eh.enc Ah) 120] [true,true] rfl).k3 2 3 21 rfl
  refine Tn (Fc h (S.tm rfl) (fun hb2 h=>?_) (fun hb2 h=>?_))
  ·refine Fr (Vf Ot S rfl rfl fun a S=>Vl isAgg3 1 S rfl rfl rfl rfl fun a S=>Vf Ot S rfl rfl fun a S=>Vl isAgg3 0 S rfl rfl rfl rfl fun a S=>Vb S Jt rfl rfl rfl fun a S=>Va S rfl rfl fun a S=>Dl (wp_ret ?_))
   refine Ek ?_
   subst h
   exact Fd S results47 rfl rfl
  ·refine wp_skip (Tn (Fr (Vf Yt S rfl rfl fun a S=>Vl isAgg9 1 S rfl rfl rfl rfl fun a S=>Vf Yt S rfl rfl fun a S=>Vl isAgg9 0 S rfl rfl rfl rfl fun a S=>Er S (fun _=>Ei (vs:=[sV Ah.Who,sV Aj.Who]) ⟨(S.tm rfl),(S.tm rfl),trivial⟩ call48) (Pb _ Ah.Who Aj.Who _ rfl) rfl ?_)));clear S;intro v1 a w3 hv1 hk3 hn1 S
   subst hv1
   refine Va S rfl rfl fun a S=>Dl (wp_ret ?_)
   subst h
   exact Fd S results47 rfl rfl
set_option maxRecDepth 20000 in
theorem Nn (w : World) (U : Value) (Ak : List Eh) (Bh : (LEnt.own U 120 5 Ak.length (Ak.flatMap Eh.enc)).holds w) (Ah : Int) (Aj : Int) (r : (List Eh)) (h : Ie Ak Ah Aj = some r) :
    Calls prog 125 [U,iV Ah,iV Aj,.func (.func 47) #[] #[]].toArray w (Ret w (U.ownBlock.toList) fun _ v w'=>(LEnt.own U 120 5 r.length (r.flatMap Eh.enc)).holds w' ∧ v = .tuple #[]):=by
 refine Nb (U.ownBlock.toList) [.own U 120 5 Ak.length (Ak.flatMap Eh.enc)] func125 rfl ntmps125 rfl (fun e he=>by simp only [List.mem_singleton] at he;subst he;exact Bh) (Kw _) (Mv _) fun a S=>?_
 unfold Ie at h
 replace S:=(S.nl [.own U 120 5 Ak.length (Ak.flatMap Eh.enc)] [true] rfl).k4 0 1 2 3 rfl
 refine Fr (Vm S rfl rfl fun a S=>Vq S Gw rfl rfl rfl fun a S=>Va S rfl rfl fun a S=>Dl ?_)
 replace S:=S.k5 0 1 2 3 8 rfl
 obtain ⟨j1,hj1,h⟩:=Fk h
 refine Fa (fun a w'=>∃ x1 : List Eh,j1 x1 = some r ∧ Sx w (U.ownBlock.toList) nov [.own U 120 5 x1.length (x1.flatMap Eh.enc)] [] 53 a w') ?_ ?_
 ·refine wp_block (Hs (fun (m1 : Nat) a w'=>∃ x1 : List Eh,∃ x2 : Int,Fz Aj Ah j1 m1 x1 x2 = some r ∧ Sx w (U.ownBlock.toList) nov [.own U 120 5 x1.length (x1.flatMap Eh.enc)] [(0,U),(1,iV Ah),(2,iV Aj),(3,.func (.func 47) #[] #[]),(8,iV x2)] 53 a w') id ((Aj - (W (Ah + 1))).toNat + 2) ⟨Ak,W (Ah + 1),h,S.nf [true] rfl (subR rfl)⟩ ?_)
  clear S h;rintro m1 a w1 ⟨x1,x2,h,S⟩
  cases m1 with
  | zero=>rw [Fz.eq_1] at h;cases h
  | succ m1 =>
   rw [Fz.eq_2] at h
   refine Fs (Fr (Vm S rfl rfl fun a S=>Vm S rfl rfl fun a S=>Vb S Fp rfl rfl rfl fun a S=>Dl (Fc h (S.tm rfl) (fun hb1 h=>?_) (fun hb1 h=>?_))))
   ·refine wp_skip (Tn (Fs (wp_block (Fr (Vm S rfl rfl fun a S=>Va S rfl rfl fun a S=>Dl ?_)))))
    replace S:=S.k6 0 1 2 3 8 9 rfl
    obtain ⟨j2,hj2,h⟩:=Fk h
    refine Fa (fun a w'=>∃ x3 : List Eh,j2 x3 = some r ∧ Sx w (U.ownBlock.toList) nov [.own U 120 5 x3.length (x3.flatMap Eh.enc)] [(0,U),(1,iV Ah),(2,iV Aj),(3,.func (.func 47) #[] #[]),(8,iV x2)] 53 a w') ?_ ?_
    ·refine wp_block (Hs (fun (m2 : Nat) a w'=>∃ x3 : List Eh,∃ x4 : Int,Fi Ah j2 m2 x3 x4 = some r ∧ Sx w (U.ownBlock.toList) nov [.own U 120 5 x3.length (x3.flatMap Eh.enc)] [(0,U),(1,iV Ah),(2,iV Aj),(3,.func (.func 47) #[] #[]),(8,iV x2),(9,iV x4)] 53 a w') id ((x2 - Ah).toNat + 2) ⟨x1,x2,h,S.nf [true] rfl (subR rfl)⟩ ?_)
     clear S h;rintro m2 a w3 ⟨x3,x4,h,S⟩
     cases m2 with
     | zero=>rw [Fi.eq_1] at h;cases h
     | succ m2 =>
      rw [Fi.eq_2] at h
      refine Fs (Fs ?_)
      obtain ⟨j3,hj3,h⟩:=Fk h
      refine Fa (fun a w'=>∃ x5 : Bool,j3 x5 = some r ∧ Sx w (U.ownBlock.toList) nov [.own U 120 5 x3.length (x3.flatMap Eh.enc)] [(0,U),(1,iV Ah),(2,iV Aj),(3,.func (.func 47) #[] #[]),(8,iV x2),(9,iV x4),(34,bV x5)] 53 a w') ?_ ?_
      ·rcases Bool.eq_false_or_eq_true (decide (Ah < x4)) with hb2 | hb2
       ·replace h:=Rz h hb2
        obtain ⟨hc1,h⟩:=Jc h
        obtain ⟨hc2,h⟩:=Jc h
        refine Hd [] ([]) Tryz.mixed S rfl (by kernel_rfl) ?_;clear S;intro w7 hk2 hsel S
        refine Eo 0 S hsel rfl rfl rfl (by kernel_rfl) (by kernel_rfl) rfl (fun _ hw=>(Rm (S.tm rfl))) fun a S=>Eo 1 S hsel rfl rfl rfl (by kernel_rfl) (by kernel_rfl) rfl (fun _ hw=>(Rm (S.tm rfl))) fun a S=>Eo 2 S hsel rfl rfl rfl (by kernel_rfl) (by kernel_rfl) rfl (fun _ hw=>(Jz (S.tm rfl) (S.tm rfl))) fun a S=>Eo 3 S hsel rfl rfl rfl (by kernel_rfl) (by kernel_rfl) rfl (fun _ hw=>(Rm (S.tm rfl))) fun a S=>Ey 4 S hsel rfl rfl rfl rfl hb2 rfl rfl (by kernel_rfl) (by kernel_rfl) rfl (fun _ hw=>(Rm (S.tm rfl))) fun a S=>Ey 5 S hsel rfl rfl rfl rfl hb2 rfl rfl (by kernel_rfl) (by kernel_rfl) rfl (fun _ hw=>(Rm (S.tm rfl))) fun a S=>Ey 6 S hsel rfl rfl rfl rfl hb2 rfl rfl (by kernel_rfl) (by kernel_rfl) rfl (fun _ hw=>(Rm (S.tm rfl))) ?_;clear S;intro a S
        obtain ⟨b3,hg3,hr3⟩:=Hy (a:=a) (x:=.tmp 23) (y:=.tmp 24) (ty:=0) Oo Eh.enc_ok S (i:=0) rfl (Es hc1).1 (Es hc1).2 (S.tm rfl) (S.tm rfl)
        refine Ey 7 S hsel rfl rfl rfl rfl hb2 rfl rfl (by kernel_rfl) (by kernel_rfl) rfl (fun _ hw=>(hr3 _)) ?_;clear S;intro a S
        clear hr3
        refine Ey 8 S hsel rfl rfl rfl rfl hb2 rfl rfl (by kernel_rfl) (by kernel_rfl) rfl (fun _ hw=>(Gh isAgg120 sizeOf120 (off:=x4.toNat * 5) (o:=0) (part:=(Eh.enc (nth x3 x4))) rfl rfl (S.tm rfl) ((Pm Eh.enc_ok S (i:=0) rfl hg3 (Es hc1).1 (Ik (e':=.own U 120 5 x3.length (x3.flatMap Eh.enc)))).kept hw))) fun a S=>Ey 9 S hsel rfl rfl rfl rfl hb2 rfl rfl (by kernel_rfl) (by kernel_rfl) rfl (fun _ hw=>(Rm (S.tm rfl))) fun a S=>Ey 10 S hsel rfl rfl rfl rfl hb2 rfl rfl (by kernel_rfl) (by kernel_rfl) rfl (fun _ hw=>(Rm (S.tm rfl))) fun a S=>Ey 11 S hsel rfl rfl rfl rfl hb2 rfl rfl (by kernel_rfl) (by kernel_rfl) rfl (fun _ hw=>(Jt (S.tm rfl) rfl)) ?_;clear S;intro a S
        obtain ⟨b4,hg4,hr4⟩:=Hy (a:=a) (x:=.tmp 27) (y:=.tmp 29) (ty:=0) Oo Eh.enc_ok S (i:=0) rfl (Es hc2).1 (Es hc2).2 (S.tm rfl) (S.tm rfl)
        refine Ey 12 S hsel rfl rfl rfl rfl hb2 rfl rfl (by kernel_rfl) (by kernel_rfl) rfl (fun _ hw=>(hr4 _)) ?_;clear S;intro a S
        clear hr4
        refine Ey 13 S hsel rfl rfl rfl rfl hb2 rfl rfl (by kernel_rfl) (by kernel_rfl) rfl (fun _ hw=>(Gh isAgg120 sizeOf120 (off:=((W (x4 - 1)).toNat) * 5) (o:=0) (part:=(Eh.enc (nth x3 (W (x4 - 1))))) rfl rfl (S.tm rfl) ((Pm Eh.enc_ok S (i:=0) rfl hg4 (Es hc2).1 (Ik (e':=.own U 120 5 x3.length (x3.flatMap Eh.enc)))).kept hw))) fun a S=>Hi 14 (by kernel_rfl) rfl (Em S rfl rfl rfl hb2 (Er S (fun _=>Te (cap:=[]) (S.tm rfl) (vs:=[.agg (Eh.enc (nth x3 x4)).toArray,.agg (Eh.enc (nth x3 (W (x4 - 1)))).toArray]) ⟨(S.tm rfl),(S.tm rfl),trivial⟩ call47) (ER _ (nth x3 x4) (nth x3 (W (x4 - 1))) _ rfl) rfl ?_));clear S;intro v2 a w8 hv2 hk3 hn2 S
        subst hv2
        refine Ld (It hk3 (Kt [15,16] hsel (by kernel_rfl) rfl ?_))
        clear hsel
        refine Fx S rfl rfl rfl rfl hb2 (He S (Fp (S.tm rfl) rfl) rfl fun a S=>Gv S rfl (Qe hb2 (S.tm rfl) (S.tm rfl)) rfl fun a S=>Jb ?_)
        replace S:=S.nk [.own U 120 5 x3.length (x3.flatMap Eh.enc)] [(0,U),(1,iV Ah),(2,iV Aj),(3,.func (.func 47) #[] #[]),(8,iV x2),(9,iV x4),(22,.func (.func 47) #[] #[]),(23,U),(24,iV x4),(25,.pointer (some ⟨b3,x4.toNat * 5,none⟩)),(26,.agg (Eh.enc (nth x3 x4)).toArray),(27,U),(28,iV x4),(29,iV (W (x4 - 1))),(30,.pointer (some ⟨b4,((W (x4 - 1)).toNat) * 5,none⟩)),(31,.agg (Eh.enc (nth x3 (W (x4 - 1)))).toArray),(32,iV (Oh (nth x3 x4) (nth x3 (W (x4 - 1))))),(33,bV (decide ((Oh (nth x3 x4) (nth x3 (W (x4 - 1)))) < 0))),(34,bV (decide ((Oh (nth x3 x4) (nth x3 (W (x4 - 1)))) < 0)))] [true] rfl (subR rfl)
        exact Tn (⟨decide ((Oh (nth x3 x4) (nth x3 (W (x4 - 1)))) < 0),h,S.nf [true] rfl (subR rfl)⟩)
       ·replace h:=Sa h hb2
        refine Hd [] ([]) Tryz.mixed S rfl (by kernel_rfl) ?_;clear S;intro w9 hk4 hsel S
        refine Kt [0,1,2,3,4,5,6,7,8,9,10,11,12,13,14,15,16] hsel (by kernel_rfl) rfl ?_
        clear hsel
        refine Gv S rfl (Rm (S.tm rfl)) rfl fun a S=>Gv S rfl (Rm (S.tm rfl)) rfl fun a S=>Gv S rfl (Jz (S.tm rfl) (S.tm rfl)) rfl fun a S=>Gv S rfl (Rm (S.tm rfl)) rfl ?_;clear S;intro a S
        iterate 12 (refine Qo S rfl rfl rfl rfl (Ka hb2) rfl ?_ rfl;clear S;intro a S)
        refine Gv S rfl (Qf hb2 (S.tm rfl) rfl) rfl fun a S=>Jb ?_
        replace S:=S.k7 0 1 2 3 8 9 34 rfl
        exact Tn (⟨false,h,S.nf [true] rfl (subR rfl)⟩)
      clear S h;rintro a w5 ⟨x5,h,S⟩;rw [hj3] at h;clear hj3 j3
      refine Tn (Fc h (S.tm rfl) (fun hb3 h=>?_) (fun hb3 h=>?_))
      ·refine wp_skip (Tn (Fs (wp_block ?_)))
       obtain ⟨hc3,h⟩:=Jc h
       obtain ⟨hc4,h⟩:=Jc h
       obtain ⟨hc5,h⟩:=Jc h
       obtain ⟨hc6,h⟩:=Jc h
       refine Hd [15,17] ([]) Tryz.mixed S rfl (by kernel_rfl) ?_;clear S;intro w14 hk9 hsel S
       refine Hb 0 S hsel rfl rfl (by kernel_rfl) (by kernel_rfl) rfl (fun _=>(Rm (S.tm rfl))) fun a S=>Hb 1 S hsel rfl rfl (by kernel_rfl) (by kernel_rfl) rfl (fun _=>(Rm (S.tm rfl))) fun a S=>Hb 2 S hsel rfl rfl (by kernel_rfl) (by kernel_rfl) rfl (fun _=>(Rm (S.tm rfl))) fun a S=>Hb 3 S hsel rfl rfl (by kernel_rfl) (by kernel_rfl) rfl (fun _=>(Rm (S.tm rfl))) fun a S=>Hb 4 S hsel rfl rfl (by kernel_rfl) (by kernel_rfl) rfl (fun _=>(Jt (S.tm rfl) rfl)) fun a S=>Hb 5 S hsel rfl rfl (by kernel_rfl) (by kernel_rfl) rfl (fun _=>(Rm (S.tm rfl))) fun a S=>Hb 6 S hsel rfl rfl (by kernel_rfl) (by kernel_rfl) rfl (fun _=>(Rm (S.tm rfl))) fun a S=>Hb 7 S hsel rfl rfl (by kernel_rfl) (by kernel_rfl) rfl (fun _=>(Jt (S.tm rfl) rfl)) ?_;clear S;intro a S
       obtain ⟨b9,hg9,hr9⟩:=Hy (a:=a) (x:=.tmp 42) (y:=.tmp 44) (ty:=0) Oo Eh.enc_ok S (i:=0) rfl (Es hc3).1 (Es hc3).2 (S.tm rfl) (S.tm rfl)
       refine Hb 8 S hsel rfl rfl (by kernel_rfl) (by kernel_rfl) rfl (fun _=>(hr9 _)) ?_;clear S;intro a S
       clear hr9
       refine Eo 9 S hsel rfl (by kernel_rfl) (by kernel_rfl) (by kernel_rfl) (by kernel_rfl) rfl (fun _ hw=>(Gh isAgg120 sizeOf120 (off:=((W (x4 - 1)).toNat) * 5) (o:=0) (part:=(Eh.enc (nth x3 (W (x4 - 1))))) rfl rfl (S.tm rfl) ((Pm Eh.enc_ok S (i:=0) rfl hg9 (Es hc3).1 (Ik (e':=.own U 120 5 x3.length (x3.flatMap Eh.enc)))).kept hw))) fun a S=>Hb 10 S hsel rfl rfl (by kernel_rfl) (by kernel_rfl) rfl (fun _=>(Rm (S.tm rfl))) fun a S=>Hb 11 S hsel rfl rfl (by kernel_rfl) (by kernel_rfl) rfl (fun _=>(Rm (S.tm rfl))) ?_;clear S;intro a S
       obtain ⟨b10,hg10,hr10⟩:=Hy (a:=a) (x:=.tmp 47) (y:=.tmp 48) (ty:=0) Oo Eh.enc_ok S (i:=0) rfl (Es hc4).1 (Es hc4).2 (S.tm rfl) (S.tm rfl)
       refine Hb 12 S hsel rfl rfl (by kernel_rfl) (by kernel_rfl) rfl (fun _=>(hr10 _)) ?_;clear S;intro a S
       clear hr10
       refine Eo 13 S hsel rfl (by kernel_rfl) (by kernel_rfl) (by kernel_rfl) (by kernel_rfl) rfl (fun _ hw=>(Gh isAgg120 sizeOf120 (off:=x4.toNat * 5) (o:=0) (part:=(Eh.enc (nth x3 x4))) rfl rfl (S.tm rfl) ((Pm Eh.enc_ok S (i:=0) rfl hg10 (Es hc4).1 (Ik (e':=.own U 120 5 x3.length (x3.flatMap Eh.enc)))).kept hw))) ?_;clear S;intro a S
       obtain ⟨b11,hg11,hr11⟩:=Hy (a:=a) (x:=.tmp 37) (y:=.tmp 38) (ty:=0) Oo Eh.enc_ok S (i:=0) rfl (Es hc5).1 (Es hc5).2 (S.tm rfl) (S.tm rfl)
       refine Hb 14 S hsel rfl rfl (by kernel_rfl) (by kernel_rfl) rfl (fun _=>(hr11 _)) ?_;clear S;intro a S
       clear hr11
       refine Zb 15 (U.ownBlock.toList) rfl (by kernel_rfl) rfl (Qn (c:=0) (j:=x4.toNat) (nth x3 (W (x4 - 1))) Eh.enc_ok S (S.tm rfl) (S.tm rfl) (i:=0) rfl hg11 (Es hc5).1 sizeOf120 (vs:=[sV ((nth x3 (W (x4 - 1))).Race),sV ((nth x3 (W (x4 - 1))).Who),sV ((nth x3 (W (x4 - 1))).Club),iV ((nth x3 (W (x4 - 1))).Rank),bV ((nth x3 (W (x4 - 1))).Relay)]) rfl rfl rfl rfl rfl ?_);clear S;intro w16 hk11 S
       refine Ld (Zc ?_)
       obtain ⟨b12,hg12,hr12⟩:=Hy (a:=a) (x:=.tmp 39) (y:=.tmp 41) (ty:=0) Oo Eh.enc_ok S (i:=0) rfl (Es hc6).1 (Es hc6).2 (S.tm rfl) (S.tm rfl)
       refine Eo 16 S hsel rfl rfl rfl (by kernel_rfl) (by kernel_rfl) rfl (fun _ hw=>(hr12 _)) ?_;clear S;intro a S
       clear hr12
       refine Hi 17 (by kernel_rfl) rfl (Qn (c:=0) (j:=(W (x4 - 1)).toNat) (nth x3 x4) Eh.enc_ok S (S.tm rfl) (S.tm rfl) (i:=0) rfl hg12 (Es hc6).1 sizeOf120 (vs:=[sV ((nth x3 x4).Race),sV ((nth x3 x4).Who),sV ((nth x3 x4).Club),iV ((nth x3 x4).Rank),bV ((nth x3 x4).Relay)]) rfl rfl rfl rfl rfl ?_);clear S;intro w18 hk13 S
       refine Ld (It hk13 (Xy (by kernel_rfl) ?_))
       clear hsel
       replace S:=(S.nl [.own U 120 5 ((x3.set x4.toNat (nth x3 (W (x4 - 1)))).set ((W (x4 - 1)).toNat) (nth x3 x4)).length (((x3.set x4.toNat (nth x3 (W (x4 - 1)))).set ((W (x4 - 1)).toNat) (nth x3 x4)).flatMap Eh.enc)] [true] rfl).k6 0 1 2 3 8 9 rfl
       exact Im (Tn (Fg (Vm S rfl rfl fun a S=>Vq S Jt rfl rfl rfl fun a S=>Va S rfl rfl fun a S=>Dl (⟨m2,⟨((x3.set x4.toNat (nth x3 (W (x4 - 1)))).set ((W (x4 - 1)).toNat) (nth x3 x4)),W (x4 - 1),h,S.nf [true] rfl ⟨rfl,rfl,rfl,rfl,rfl,rfl,trivial⟩⟩,Nat.lt_succ_self _⟩))))
      ·exact wp_exit (Ew (Ew (Hl (Tn (⟨x3,h,S.nf [true] rfl (subR rfl)⟩)))))
    clear S h;rintro a w4 ⟨x3,h,S⟩;rw [hj2] at h;clear hj2 j2
    exact Im (Tn (Fg (Vm S rfl rfl fun a S=>Vq S Gw rfl rfl rfl fun a S=>Va S rfl rfl fun a S=>Dl (⟨m1,⟨x3,W (x2 + 1),h,S.nf [true] rfl ⟨rfl,rfl,rfl,rfl,rfl,trivial⟩⟩,Nat.lt_succ_self _⟩))))
   ·exact wp_exit (Ew (Ew (Hl (Tn (⟨x1,h,S.nf [true] rfl trivial⟩)))))
 clear S h;rintro a w2 ⟨x1,h,S⟩;rw [hj1] at h;clear hj1 j1
 obtain rfl:=Option.some.inj h
 exact Vg S results125 ⟨(S.holds _ (List.mem_of_getElem? (i:=0) rfl)),rfl⟩
theorem Sr (w : World) (U : Value) (Ak : List Eh) (Bh : (LEnt.own U 120 5 Ak.length (Ak.flatMap Eh.enc)).holds w) (Bb : Int) (r : (List Eh)) (h : Kl Ak Bb = some r) :
    Calls prog 89 [U,iV Bb,.func (.func 47) #[] #[]].toArray w (Ret w (U.ownBlock.toList) fun _ v w'=>(LEnt.own U 120 5 r.length (r.flatMap Eh.enc)).holds w' ∧ v = .tuple #[]):=by
 refine Nb (U.ownBlock.toList) [.own U 120 5 Ak.length (Ak.flatMap Eh.enc)] func89 rfl ntmps89 rfl (fun e he=>by simp only [List.mem_singleton] at he;subst he;exact Bh) (Kw _) (Mv _) fun a S=>?_
 unfold Kl at h
 replace S:=(S.nl [.own U 120 5 Ak.length (Ak.flatMap Eh.enc)] [true] rfl).k3 0 1 2 rfl
 refine Fr (Vk S rfl rfl fun a S=>Dz (Vm S rfl rfl fun a S=>Vk S rfl rfl fun a S=>Va S rfl rfl fun a S=>Ld ?_))
 refine Tn (Fs ?_)
 replace S:=S.k6 0 1 2 6 7 8 rfl
 obtain ⟨j1,hj1,h⟩:=Fk h
 refine Fa (fun a w'=>∃ x1 : List Eh,∃ x2 : Int,j1 x1 x2 = some r ∧ Sx w (U.ownBlock.toList) nov [.own U 120 5 x1.length (x1.flatMap Eh.enc)] [(0,U),(1,iV Bb),(2,.func (.func 47) #[] #[]),(6,iV 20),(7,iV x2)] 63 a w') ?_ ?_
 ·refine wp_block (Hs (fun (m1 : Nat) a w'=>∃ x1 : List Eh,∃ x2 : Int,∃ x3 : Int,Gr Bb j1 m1 x1 x2 x3 = some r ∧ Sx w (U.ownBlock.toList) nov [.own U 120 5 x1.length (x1.flatMap Eh.enc)] [(0,U),(1,iV Bb),(2,.func (.func 47) #[] #[]),(6,iV 20),(7,iV x2),(8,iV x3)] 63 a w') id ((Bb - 20).toNat + 2) ⟨Ak,0,20,h,S.nf [true] rfl (subR rfl)⟩ ?_)
  clear S h;rintro m1 a w1 ⟨x1,x2,x3,h,S⟩
  cases m1 with
  | zero=>rw [Gr.eq_1] at h;cases h
  | succ m1 =>
   rw [Gr.eq_2] at h
   refine Fs (Fr (Vm S rfl rfl fun a S=>Vm S rfl rfl fun a S=>Vb S Vd rfl rfl rfl fun a S=>Dl (Fc h (S.tm rfl) (fun hb1 h=>?_) (fun hb1 h=>?_))))
   ·refine wp_skip (Tn (wp_block (Fs (Fg ?_))))
    iterate 4 (refine Vm S rfl rfl ?_;clear S;intro a S)
    obtain ⟨r1,hr1,h⟩:=Ga h
    refine Pc 0 S rfl (fun _=>.own U 120 5 r1.length (r1.flatMap Eh.enc)) (fun _=>Ei (vs:=[U,iV x2,iV x3,.func (.func 47) #[] #[]]) ⟨(S.tm rfl),(S.tm rfl),(S.tm rfl),(S.tm rfl),trivial⟩ call125) (Nn _ U x1 (S.holds _ (List.mem_of_getElem? (i:=0) rfl)) x2 x3 _ hr1) rfl (fun _ _ _ h=>⟨h.1,fun _ hc=>hc⟩) ?_;clear S;intro v1 a w3 hv1 hk1 hn1 S
    replace hv1:=hv1.2
    subst hv1
    refine Dz (Vm S rfl rfl fun a S=>Va S rfl rfl fun a S=>Ld ?_)
    replace S:=(S.nl [.own U 120 5 r1.length (r1.flatMap Eh.enc)] [true] rfl).k6 0 1 2 6 7 8 rfl
    exact Tn (Fg (Vm S rfl rfl fun a S=>Vm S rfl rfl fun a S=>Vb S Gw rfl rfl rfl fun a S=>Va S rfl rfl fun a S=>Ld (Im (Tn (⟨m1,⟨r1,x3,W (x3 + 20),h,S.nf [true] rfl ⟨rfl,rfl,rfl,rfl,rfl,rfl,trivial⟩⟩,Nat.lt_succ_self _⟩)))))
   ·exact wp_exit (Ew (Ew (Hl (Tn (⟨x1,x2,h,S.nf [true] rfl (subR rfl)⟩)))))
 clear S h;rintro a w2 ⟨x1,x2,h,S⟩;rw [hj1] at h;clear hj1 j1
 refine Tn (Fs (Fg ?_))
 iterate 4 (refine Vm S rfl rfl ?_;clear S;intro a S)
 obtain ⟨r2,hr2,h⟩:=Ga h
 refine Pc 0 S rfl (fun _=>.own U 120 5 r2.length (r2.flatMap Eh.enc)) (fun _=>Ei (vs:=[U,iV x2,iV Bb,.func (.func 47) #[] #[]]) ⟨(S.tm rfl),(S.tm rfl),(S.tm rfl),(S.tm rfl),trivial⟩ call125) (Nn _ U x1 (S.holds _ (List.mem_of_getElem? (i:=0) rfl)) x2 Bb _ hr2) rfl (fun _ _ _ h=>⟨h.1,fun _ hc=>hc⟩) ?_;clear S;intro v2 a w4 hv2 hk2 hn2 S
 replace hv2:=hv2.2
 subst hv2
 refine Dl ?_
 replace S:=(S.nl [.own U 120 5 r2.length (r2.flatMap Eh.enc)] [true] rfl).k2 1 6 rfl
 obtain ⟨j2,hj2,h⟩:=Fk h
 refine Fa (fun a w'=>j2 = some r ∧ Sx w (U.ownBlock.toList) nov [.own U 120 5 r2.length (r2.flatMap Eh.enc)] [] 63 a w') ?_ ?_
 ·refine wp_block (Hs (fun (m2 : Nat) a w'=>∃ x4 : Int,Gt Bb j2 m2 x4 = some r ∧ Sx w (U.ownBlock.toList) nov [.own U 120 5 r2.length (r2.flatMap Eh.enc)] [(1,iV Bb),(6,iV x4)] 63 a w') id ((Bb - 20).toNat + 2) ⟨20,h,S.nf [true] rfl (subR rfl)⟩ ?_)
  clear S h;rintro m2 a w5 ⟨x4,h,S⟩
  cases m2 with
  | zero=>rw [Gt.eq_1] at h;cases h
  | succ m2 =>
   rw [Gt.eq_2] at h
   refine Fs (Fr (Vm S rfl rfl fun a S=>Vm S rfl rfl fun a S=>Vb S Fp rfl rfl rfl fun a S=>Dl (Fc h (S.tm rfl) (fun hb2 h=>?_) (fun hb2 h=>?_))))
   ·refine wp_skip (Tn (wp_block (Fr (Vm S rfl rfl fun a S=>Vu S (AI rfl) rfl rfl fun a S=>Vk S rfl rfl fun a S=>Va S rfl rfl fun a S=>Dl ?_))))
    refine Fs ?_
    replace S:=S.k4 1 6 7 8 rfl
    obtain ⟨j3,hj3,h⟩:=Fk h
    refine Fa (fun a w'=>∃ x5 : Int,j3 x5 = some r ∧ Sx w (U.ownBlock.toList) nov [.own U 120 5 r2.length (r2.flatMap Eh.enc)] [(1,iV Bb),(6,iV x4),(7,iV x5)] 63 a w') ?_ ?_
    ·refine wp_block (Hs (fun (m3 : Nat) a w'=>∃ x5 : Int,∃ x6 : Int,Hu Bb j3 m3 x5 x6 = some r ∧ Sx w (U.ownBlock.toList) nov [.own U 120 5 r2.length (r2.flatMap Eh.enc)] [(1,iV Bb),(6,iV x4),(7,iV x5),(8,iV x6)] 63 a w') id ((Bb - (W (2 * x4))).toNat + 2) ⟨0,W (2 * x4),h,S.nf [true] rfl (subR rfl)⟩ ?_)
     clear S h;rintro m3 a w7 ⟨x5,x6,h,S⟩
     cases m3 with
     | zero=>rw [Hu.eq_1] at h;cases h
     | succ m3 =>
      rw [Hu.eq_2] at h
      refine Fs (Fr (Vm S rfl rfl fun a S=>Vm S rfl rfl fun a S=>Vb S Vd rfl rfl rfl fun a S=>Dl (Fc h (S.tm rfl) (fun hb3 h=>?_) (fun hb3 h=>?_))))
      ·refine wp_skip (Tn (wp_block (Fs ?_)))
       cases h
      ·exact wp_exit (Ew (Ew (Hl (Tn (⟨x5,h,S.nf [true] rfl (subR rfl)⟩)))))
    clear S h;rintro a w8 ⟨x5,h,S⟩;rw [hj3] at h;clear hj3 j3
    refine Tn (Fs (Fr (Vm S rfl rfl fun a S=>Vm S rfl rfl fun a S=>Vb S Gw rfl rfl rfl fun a S=>Va S rfl rfl fun a S=>Dl (Fs ?_))))
    refine Fg (Vm S rfl rfl fun a S=>Vm S rfl rfl fun a S=>Vb S Fp rfl rfl rfl fun a S=>Dl (Fc h (S.tm rfl) (fun hb4 h=>?_) (fun hb4 h=>?_)))
    ·cases h
    ·exact wp_skip (Tn (Fg (Vm S rfl rfl fun a S=>Vq S AI rfl rfl rfl fun a S=>Va S rfl rfl fun a S=>Ld (Im (Tn (⟨m2,⟨W (x4 * 2),h,S.nf [true] rfl ⟨rfl,rfl,trivial⟩⟩,Nat.lt_succ_self _⟩))))))
   ·exact wp_exit (Ew (Ew (Hl (Tn (⟨h,S.nf [true] rfl trivial⟩)))))
 clear S h;rintro a w6 ⟨h,S⟩;rw [hj2] at h;clear hj2 j2
 obtain rfl:=Option.some.inj h
 exact Vg S results89 ⟨(S.holds _ (List.mem_of_getElem? (i:=0) rfl)),rfl⟩
theorem Sd (w : World) (Bc : Value) (Ac : List Eh) (Cs : (LEnt.own Bc 120 5 Ac.length (Ac.flatMap Eh.enc)).holds w) (r : (List Eh)) (h : Ib Ac = some r) :
    Calls prog 46 [Bc,.func (.func 47) #[] #[]].toArray w (Ret w (Bc.ownBlock.toList) fun _ v w'=>(LEnt.own Bc 120 5 r.length (r.flatMap Eh.enc)).holds w' ∧ v = .tuple #[]):=by
 refine Nb (Bc.ownBlock.toList) [.own Bc 120 5 Ac.length (Ac.flatMap Eh.enc)] func46 rfl ntmps46 rfl (fun e he=>by simp only [List.mem_singleton] at he;subst he;exact Cs) (Kw _) (Mv _) fun a S=>?_
 unfold Ib at h
 replace S:=(S.nl [.own Bc 120 5 Ac.length (Ac.flatMap Eh.enc)] [true] rfl).k2 0 1 rfl
 refine Fg (Vm S rfl rfl fun a S=>Vm S rfl rfl fun a S=>lv S (Gn Oo (S.tm rfl) (Qb (S.own_at (i:=0) rfl))) rfl fun a S=>Vm S rfl rfl ?_);clear S;intro a S
 obtain ⟨r1,hr1,h⟩:=Ga h
 refine Pc 0 S rfl (fun _=>.own Bc 120 5 r1.length (r1.flatMap Eh.enc)) (fun _=>Ei (vs:=[Bc,iV (Ac.length : Int),.func (.func 47) #[] #[]]) ⟨(S.tm rfl),(S.tm rfl),(S.tm rfl),trivial⟩ call89) (Sr _ Bc Ac (S.holds _ (List.mem_of_getElem? (i:=0) rfl)) (Ac.length : Int) _ hr1) rfl (fun _ _ _ h=>⟨h.1,fun _ hc=>hc⟩) ?_;clear S;intro v1 a w1 hv1 hk1 hn1 S
 replace hv1:=hv1.2
 subst hv1
 refine Ld ?_
 obtain rfl:=Option.some.inj h
 exact Vg S results46 ⟨(S.holds _ (List.mem_of_getElem? (i:=0) rfl)),rfl⟩
theorem CA (w : World) (Ah : Int) (Aj : Int) (r : Int) (h : Mi Ah Aj = r) :
    Calls prog 175 [iV Ah,iV Aj].toArray w (Ret w [] fun _ v _=>v = iV r):=by
 refine Fe func175 rfl ntmps175 rfl fun a S=>?_
 unfold Mi at h
 replace S:=S.k2 0 1 rfl
 refine Fr (Vk S rfl rfl fun a S=>Dl (Fs (Fr (Vm S rfl rfl fun a S=>Vq S Jn rfl rfl rfl fun a S=>Ld ?_))))
 refine Tn ?_
 obtain ⟨j1,hj1,h⟩:=Fk h
 refine Fa (fun a w'=>∃ x1 : Int,j1 x1 = r ∧ Sx w [] nov [] [(0,iV x1),(1,iV Aj)] 12 a w') ?_ ?_
 ·refine Fc h (S.tm rfl) (fun hb1 h=>?_) (fun hb1 h=>?_)
  ·exact Fg (Vk S rfl rfl fun a S=>Dl (⟨301,h,S.nf [] rfl (subR rfl)⟩))
  ·exact wp_skip (Tn (⟨Ah,h,S.nf [] rfl (subR rfl)⟩))
 clear S h;rintro a w1 ⟨x1,h,S⟩;rw [hj1] at h;clear hj1 j1
 refine Tn (Fs (Fr (Vm S rfl rfl fun a S=>Vq S Jn rfl rfl rfl fun a S=>Dl ?_)))
 obtain ⟨j2,hj2,h⟩:=Fk h
 refine Fa (fun a w'=>∃ x2 : Int,j2 x2 = r ∧ Sx w [] nov [] [(0,iV x1),(1,iV x2)] 12 a w') ?_ ?_
 ·refine Fc h (S.tm rfl) (fun hb2 h=>?_) (fun hb2 h=>?_)
  ·exact Fg (Vk S rfl rfl fun a S=>Dl (⟨301,h,S.nf [] rfl (subR rfl)⟩))
  ·exact wp_skip (Tn (⟨Aj,h,S.nf [] rfl (subR rfl)⟩))
 clear S h;rintro a w2 ⟨x2,h,S⟩;rw [hj2] at h;clear hj2 j2
 refine Tn (Fr (Vm S rfl rfl fun a S=>Vm S rfl rfl fun a S=>Vb S Jt rfl rfl rfl fun a S=>Va S rfl rfl fun a S=>Dl (wp_ret ?_)))
 subst h
 exact Fd S results175 rfl rfl
set_option maxRecDepth 20000 in
theorem GN (w : World) (Ah : Eh) (Aj : Eh) (r : Int) (h : Tg Ah Aj = r) :
    Calls prog 150 [.agg (Eh.enc Ah).toArray,.agg (Eh.enc Aj).toArray].toArray w (Ret w [] fun _ v _=>v = iV r):=by
 refine Fe func150 rfl ntmps150 rfl fun a S=>?_
 unfold Tg at h
 replace S:=S.k2 0 1 rfl
 refine Fr (Mk S (S.tm rfl) (cs:=(Eh.enc Ah)) rfl rfl ?_);clear S;intro a w1 b1 hz1 hk1 S
 refine Mk S (S.tm rfl) (cs:=(Eh.enc Aj)) rfl rfl ?_;clear S;intro a w2 b2 hz2 hk2 S
 refine Vk S rfl rfl fun a S=>Dl (Fs (Hd [] ([]) Tryz.mixed S rfl (by kernel_rfl) ?_));clear S;intro w8 hk8 hsel S
 refine Eo 0 S hsel rfl rfl rfl (by kernel_rfl) (by kernel_rfl) rfl (fun _ hw=>(Gb Ys (S.tm rfl))) fun a S=>Eo 1 S hsel rfl rfl rfl (by kernel_rfl) (by kernel_rfl) rfl (fun _ hw=>(Hw isAgg9 (off:=0) (o:=0) (S.tm rfl) ((S.blk_mem (i:=1) (cells:=(Eh.enc Ah)) (b:=b1) (T:=120) rfl (Ik (e':=.blk b1 (Eh.enc Ah) 120))).kept hw) rfl)) fun a S=>Eo 2 S hsel rfl rfl rfl (by kernel_rfl) (by kernel_rfl) rfl (fun _ hw=>(Gb Ys (S.tm rfl))) fun a S=>Eo 3 S hsel rfl rfl rfl (by kernel_rfl) (by kernel_rfl) rfl (fun _ hw=>(Hw isAgg9 (off:=0) (o:=0) (S.tm rfl) ((S.blk_mem (i:=0) (cells:=(Eh.enc Aj)) (b:=b2) (T:=120) rfl (Ik (e':=.blk b2 (Eh.enc Aj) 120))).kept hw) rfl)) fun a S=>Eo 5 S hsel rfl rfl rfl (by kernel_rfl) (by kernel_rfl) rfl (fun _ hw=>(Gb Ot (S.tm rfl))) fun a S=>Eo 6 S hsel rfl rfl rfl (by kernel_rfl) (by kernel_rfl) rfl (fun _ hw=>(Hw isAgg3 (off:=0) (o:=3) (S.tm rfl) ((S.blk_mem (i:=1) (cells:=(Eh.enc Ah)) (b:=b1) (T:=120) rfl (Ik (e':=.blk b1 (Eh.enc Ah) 120))).kept hw) rfl)) fun a S=>Eo 7 S hsel rfl rfl rfl (by kernel_rfl) (by kernel_rfl) rfl (fun _ hw=>(Gb Ot (S.tm rfl))) fun a S=>Eo 8 S hsel rfl rfl rfl (by kernel_rfl) (by kernel_rfl) rfl (fun _ hw=>(Hw isAgg3 (off:=0) (o:=3) (S.tm rfl) ((S.blk_mem (i:=0) (cells:=(Eh.enc Aj)) (b:=b2) (T:=120) rfl (Ik (e':=.blk b2 (Eh.enc Aj) 120))).kept hw) rfl)) fun a S=>Eo 10 S hsel rfl rfl rfl (by kernel_rfl) (by kernel_rfl) rfl (fun _ hw=>(Gb Yt (S.tm rfl))) fun a S=>Eo 11 S hsel rfl rfl rfl (by kernel_rfl) (by kernel_rfl) rfl (fun _ hw=>(Hw isAgg9 (off:=0) (o:=1) (S.tm rfl) ((S.blk_mem (i:=1) (cells:=(Eh.enc Ah)) (b:=b1) (T:=120) rfl (Ik (e':=.blk b1 (Eh.enc Ah) 120))).kept hw) rfl)) ?_;clear S;intro a S
 refine Eo 12 S hsel rfl rfl rfl (by kernel_rfl) (by kernel_rfl) rfl (fun _ hw=>(Gb Yt (S.tm rfl))) fun a S=>Eo 13 S hsel rfl rfl rfl (by kernel_rfl) (by kernel_rfl) rfl (fun _ hw=>(Hw isAgg9 (off:=0) (o:=1) (S.tm rfl) ((S.blk_mem (i:=0) (cells:=(Eh.enc Aj)) (b:=b2) (T:=120) rfl (Ik (e':=.blk b2 (Eh.enc Aj) 120))).kept hw) rfl)) fun a S=>Hi 4 (by kernel_rfl) rfl (Er S (fun _=>Ei (vs:=[sV Ah.Race,sV Aj.Race]) ⟨(S.tm rfl),(S.tm rfl),trivial⟩ call48) (Pb _ Ah.Race Aj.Race _ rfl) rfl ?_);clear S;intro v5 a w9 hv5 hk9 hn5 S
 subst hv5
 refine Ld (It hk9 (Hi 9 (by kernel_rfl) rfl (Er S (fun _=>Ei (vs:=[iV Ah.Rank,iV Aj.Rank]) ⟨(S.tm rfl),(S.tm rfl),trivial⟩ call175) (CA _ Ah.Rank Aj.Rank _ rfl) rfl ?_)));clear S;intro v6 a w10 hv6 hk10 hn6 S
 subst hv6
 refine Ld (It hk10 (Hi 14 (by kernel_rfl) rfl (Er S (fun _=>Ei (vs:=[sV Ah.Who,sV Aj.Who]) ⟨(S.tm rfl),(S.tm rfl),trivial⟩ call48) (Pb _ Ah.Who Aj.Who _ rfl) rfl ?_)));clear S;intro v7 a w11 hv7 hk11 hn7 S
 subst hv7
 refine Ld (It hk11 (Hi 15 (by kernel_rfl) rfl (Fq S underlying22 sizeOf3 zeroValue3 rfl rfl (pv:=[(0,iV (Ho Ah.Race Aj.Race)),(1,iV (Mi Ah.Rank Aj.Rank)),(2,iV (Ho Ah.Who Aj.Who))]) ⟨rfl,(S.tm rfl),rfl,(S.tm rfl),rfl,(S.tm rfl),trivial⟩ (cs:=[iV (Ho Ah.Race Aj.Race),iV (Mi Ah.Rank Aj.Rank),iV (Ho Ah.Who Aj.Who)]) (by kernel_rfl) rfl ?_)));clear S;intro a w12 b4 hz4 hk12 S
 refine Ld (It hk12 (Hi 16 (by kernel_rfl) rfl (Er S (fun _=>Ei (vs:=[.slice (some ⟨b4,0,none⟩) 3 3]) ⟨(S.tm rfl),trivial⟩ call140) (AO _ (.slice (some ⟨b4,0,none⟩) 3 3) [(Ho Ah.Race Aj.Race),(Mi Ah.Rank Aj.Rank),(Ho Ah.Who Aj.Who)] (Lg Ju S (i:=0) rfl rfl rfl rfl ((Ik (e':=.blk b4 [iV (Ho Ah.Race Aj.Race),iV (Mi Ah.Rank Aj.Rank),iV (Ho Ah.Who Aj.Who)] 3)) _ rfl)) _ rfl) rfl ?_)));clear S;intro v8 a w13 hv8 hk13 hn8 S
 subst hv8
 refine Ld (It hk13 (Kt [17] hsel (by kernel_rfl) rfl ?_))
 clear hsel
 refine Gv S rfl (Ra (S.tm rfl)) rfl fun a S=>Jb ?_
 replace S:=S.n0.k1 4 rfl
 refine Tn (wp_ret ?_)
 subst h
 exact Fd S results150 rfl rfl
set_option maxRecDepth 20000 in
theorem CF (w : World) (ψ : View) (hψ : View.le ψ (view w [])) (Ab : Value) (Ad : List Eh) (Ae : Slc ψ 5 Ab (Ad.map Eh.enc)) (r : (List (List Eh))) (h : Tw Ad = some r) :
    Calls prog 129 [Ab].toArray w (Ret w [] fun τ v _=>VC (join ψ τ) 1 RS.enc AE v r):=by
 refine Fe func129 rfl ntmps129 rfl fun a S=>?_
 unfold Tw at h
 replace S:=S.k1 0 rfl
 refine Fr (Vk S rfl rfl fun a S=>Dz (Vk S rfl rfl ?_));clear S;intro a S
 replace S:=S.nil 116 1
 refine Dl (Fs (Fr (Vk S rfl rfl fun a S=>Dl ?_)))
 replace S:=(S.nl [.own (.slice none 0 0) 116 1 ([] : List RS).length (([] : List RS).flatMap RS.enc)] [true] rfl).k3 0 3 4 rfl
 obtain ⟨j1,hj1,h⟩:=Fk h
 refine Fa (fun a w'=>∃ x1 : List (List Eh),∃ v1 : Value,∃ rs1 : List RS,j1 x1 = some r ∧ Lp (AE (join ψ nov)) x1 rs1 ∧ Sx w [] nov [.own v1 116 1 rs1.length (rs1.flatMap RS.enc)] [(3,v1)] 41 a w') ?_ ?_
 ·refine wp_block (Hs (fun (m1 : Nat) a w'=>∃ x1 : List (List Eh),∃ x2 : Int,∃ v1 : Value,∃ rs1 : List RS,Mj Ad j1 m1 x1 x2 = some r ∧ Lp (AE (join ψ nov)) x1 rs1 ∧ Sx w [] nov [.own v1 116 1 rs1.length (rs1.flatMap RS.enc)] [(0,Ab),(3,v1),(4,iV x2)] 41 a w') id (((Ad.length : Int) - 0).toNat + 2) ⟨([] : List (List Eh)),0,(.slice none 0 0),([] : List RS),h,.nil,S.nf [true] rfl (subR rfl)⟩ ?_)
  clear S h;rintro m1 a w1 ⟨x1,x2,v1,rs1,h,hr1,S⟩
  cases m1 with
  | zero=>rw [Mj.eq_1] at h;cases h
  | succ m1 =>
   rw [Mj.eq_2] at h
   refine Fs (Fr (Vm S rfl rfl fun a S=>Vm S rfl rfl fun a S=>lv S (Gn Oo (S.tm rfl) (Gk Ae)) rfl fun a S=>Vb S Fp rfl rfl rfl fun a S=>Dl (Fc h (S.tm rfl) (fun hb1 h=>?_) (fun hb1 h=>?_))))
   ·refine wp_skip (Tn (wp_block (Fr (Vm S rfl rfl fun a S=>Vq S Gw rfl rfl rfl fun a S=>Va S rfl rfl fun a S=>Dl (Fs ?_)))))
    replace S:=S.k4 0 3 4 5 rfl
    obtain ⟨j2,hj2,h⟩:=Fk h
    refine Fa (fun a w'=>∃ x3 : Int,j2 x3 = some r ∧ Sx w [] nov [.own v1 116 1 rs1.length (rs1.flatMap RS.enc)] [(0,Ab),(3,v1),(4,iV x2),(5,iV x3)] 41 a w') ?_ ?_
    ·refine wp_block (Hs (fun (m2 : Nat) a w'=>∃ x3 : Int,Oe Ad x2 j2 m2 x3 = some r ∧ Sx w [] nov [.own v1 116 1 rs1.length (rs1.flatMap RS.enc)] [(0,Ab),(3,v1),(4,iV x2),(5,iV x3)] 41 a w') id (((Ad.length : Int) - (W (x2 + 1))).toNat + 2) ⟨W (x2 + 1),h,S.nf [true] rfl (subR rfl)⟩ ?_)
     clear S h;rintro m2 a w3 ⟨x3,h,S⟩
     cases m2 with
     | zero=>rw [Oe.eq_1] at h;cases h
     | succ m2 =>
      rw [Oe.eq_2] at h
      refine Fs (Fs (Hd [] ([]) Tryz.mixed S rfl (by kernel_rfl) ?_));clear S;intro w5 hk1 hsel S
      refine Kt [0,1,2,3,4,5,6,7,8,9,10,11,12,13,14,15,16] hsel (by kernel_rfl) rfl ?_
      clear hsel
      refine Gv S rfl (Rm (S.tm rfl)) rfl fun a S=>Gv S rfl (Rm (S.tm rfl)) rfl fun a S=>Gv S rfl (Gn Oo (S.tm rfl) (Gk Ae)) rfl fun a S=>Gv S rfl (Fp (S.tm rfl) (S.tm rfl)) rfl fun a S=>Gv S rfl (Rm (S.tm rfl)) rfl ?_;clear S;intro a S
      obtain ⟨j3,hj3,h⟩:=Fk h
      refine Zn 12 (fun a w'=>∃ c1,j3 c1 = some r ∧ Keep [] w5 w' ∧ Sx w [] nov [.own v1 116 1 rs1.length (rs1.flatMap RS.enc)] [(0,Ab),(3,v1),(4,iV x2),(5,iV x3),(28,bV c1)] 41 a w') ?_ ?_
      ·rcases Bool.eq_false_or_eq_true (decide (x3 < (Ad.length : Int))) with hb2 | hb2
       ·replace h:=Rz h hb2
        refine Fx S rfl rfl rfl rfl hb2 (He S (Rm (S.tm rfl)) rfl fun a S=>Fx S rfl rfl rfl rfl hb2 (He S (Rm (S.tm rfl)) rfl fun a S=>Fx S rfl rfl rfl rfl hb2 ?_))
        obtain ⟨hc1,h⟩:=Jc h
        obtain ⟨b1,o1,hm1,hr2⟩:=Fv (a:=a) (x:=.tmp 17) (y:=.tmp 18) (ty:=0) Oo Ae (Es hc1).1 (Es hc1).2 (S.tm rfl) (S.tm rfl)
        refine He S (hr2 _) rfl ?_;clear S;intro a S
        clear hr2
        refine Fx S rfl rfl rfl rfl hb2 (He S (Gb Ys (S.tm rfl)) rfl fun a S=>Fx S rfl rfl rfl rfl hb2 (He S (Hw isAgg9 (off:=o1) (o:=0) (S.tm rfl) (hm1.at (NR hψ S.emb0)) rfl) rfl fun a S=>Fx S rfl rfl rfl rfl hb2 (He S (Rm (S.tm rfl)) rfl fun a S=>Fx S rfl rfl rfl rfl hb2 (He S (Rm (S.tm rfl)) rfl fun a S=>Fx S rfl rfl rfl rfl hb2 ?_))))
        obtain ⟨hc2,h⟩:=Jc h
        obtain ⟨b2,o2,hm2,hr3⟩:=Fv (a:=a) (x:=.tmp 22) (y:=.tmp 23) (ty:=0) Oo Ae (Es hc2).1 (Es hc2).2 (S.tm rfl) (S.tm rfl)
        refine He S (hr3 _) rfl ?_;clear S;intro a S
        clear hr3
        exact Fx S rfl rfl rfl rfl hb2 (He S (Gb Ys (S.tm rfl)) rfl fun a S=>Fx S rfl rfl rfl rfl hb2 (He S (Hw isAgg9 (off:=o2) (o:=0) (S.tm rfl) (hm2.at (NR hψ S.emb0)) rfl) rfl fun a S=>Fx S rfl rfl rfl rfl hb2 (He S (Wv (S.tm rfl) (S.tm rfl)) rfl fun a S=>Gv S rfl (Ii hb2 (S.tm rfl) (S.tm rfl)) rfl fun a S=>Jb (⟨_,h,Keep.refl _ _,S.nf [true] rfl (subR rfl)⟩))))
       ·replace h:=Sa h hb2
        iterate 11 (refine Qo S rfl rfl rfl rfl (Ka hb2) rfl ?_ rfl;clear S;intro a S)
        exact Gv S rfl (Ij true hb2 (S.tm rfl) rfl) rfl fun a S=>Jb (⟨_,h,Keep.refl _ _,S.nf [true] rfl (subR rfl)⟩)
      clear S h;rintro a w6 ⟨c1,h,hk2,S⟩;rw [hj3] at h;clear hj3 j3
      refine Jb ?_
      replace S:=S.k5 0 3 4 5 28 rfl
      refine Tn (Fc h (S.tm rfl) (fun hb3 h=>?_) (fun hb3 h=>?_))
      ·exact wp_skip (Tn (wp_block (Fg (Vm S rfl rfl fun a S=>Vq S Gw rfl rfl rfl fun a S=>Va S rfl rfl fun a S=>Ld (Im (Tn (⟨m2,⟨W (x3 + 1),h,S.nf [true] rfl ⟨rfl,rfl,rfl,rfl,trivial⟩⟩,Nat.lt_succ_self _⟩)))))))
      ·exact wp_exit (Ew (Ew (Hl (Tn (⟨x3,h,S.nf [true] rfl (subR rfl)⟩)))))
    clear S h;rintro a w4 ⟨x3,h,S⟩;rw [hj2] at h;clear hj2 j2
    refine Tn (Fs (Fg ?_))
    iterate 5 (refine Vm S rfl rfl ?_;clear S;intro a S)
    obtain ⟨hc3,h⟩:=Jc h
    obtain ⟨v2,hs1,hr4⟩:=WP (y2:=.tmp 35) (a:=a) (x:=.tmp 32) (y:=.tmp 33) (y':=.tmp 34) (ty:=116) Oo Ae (S.tm rfl) (S.tm rfl) (S.tm rfl) (S.tm rfl) hc3
    refine lv S (hr4 _) rfl ?_;clear S;intro a S
    clear hr4
    refine Fq S underlying221 sizeOf116 zeroValue116 rfl rfl (pv:=[(0,v2)]) ⟨rfl,(S.tm rfl),trivial⟩ (cs:=[v2]) (WO hs1) rfl ?_;clear S;intro a w7 b3 hz1 hk3 S
    obtain ⟨hc4,h⟩:=Jc h
    have hr5 : Lp (AE (join ψ nov)) (x1 ++ [cut Ad x2 x3]) (rs1 ++ [⟨v2,Lo.one (Gk hs1)⟩]):=Lp.app hr1 (Lp.cons (hs1.mono (le_join_left _ _)) Lp.nil)
    refine Np BU RS.enc_ok S (S.tm rfl) (i:=1) rfl (S.tm rfl) (j:=0) rfl (ys:=[⟨v2,Lo.one (Gk hs1)⟩]) rfl rfl rfl rfl (by have:=Nx hc4;have:=Lp.len hr1;simp at this ⊢;omega) rfl ?_;clear S;intro v3 a w8 hk4 S
    exact Va S rfl rfl fun a S=>Dl (Fg (Vm S rfl rfl fun a S=>Va S rfl rfl fun a S=>Ld (Im (Tn (⟨m1,⟨(x1 ++ [cut Ad x2 x3]),x3,v3,(rs1 ++ [⟨v2,Lo.one (Gk hs1)⟩]),h,hr5,S.nf [false,true] rfl ⟨rfl,rfl,rfl,trivial⟩⟩,Nat.lt_succ_self _⟩)))))
   ·exact wp_exit (Ew (Ew (Hl (Tn (⟨x1,v1,rs1,h,hr1,S.nf [true] rfl ⟨rfl,trivial⟩⟩)))))
 clear S h;rintro a w2 ⟨x1,v1,rs1,h,hr1,S⟩;rw [hj1] at h;clear hj1 j1
 refine Tn (Fr (Vm S rfl rfl fun a S=>Va S rfl rfl fun a S=>Dl (wp_ret ?_)))
 obtain ⟨φ1,hl1,hs2,S⟩:=S.freezeT (xs:=rs1) (enc:=RS.enc) (i:=0) rfl (fun _ h=>by cases h)
 have hr6:=(GB (JT hl1) hr1)
 have hs3:=(Hn RS.enc_ok hs2).mono (S.all_right hψ)
 replace S:=S.nk [] [(2,v1),(3,v1),(40,v1)] [] rfl (subR rfl)
 obtain rfl:=Option.some.inj h
 exact Fd S results129 rfl ⟨_,(hs3.mono (Wy hψ S.le_newer)),GB (Wy hψ S.le_newer) hr6⟩
set_option maxRecDepth 20000 in
theorem CM (w : World) (Ac : Eh) (Bz : Nat) (Dx : Value) (Bj : List Eh) (Ed : Slc (view w []) 5 Dx (Bj.map Eh.enc)) (Ca : (view w []) Bz = some (.cells [Dx].toArray 116 (0,0))) (r : Bool) (h : Tx Ac Bj = some r) :
    Calls prog 177 [.agg (Eh.enc Ac).toArray,.pointer (some ⟨Bz,0,none⟩)].toArray w (Ret w [] fun _ v _=>v = bV r):=by
 refine Fe func177 rfl ntmps177 rfl fun a S=>?_
 unfold Tx at h
 replace S:=S.k2 0 1 rfl
 refine Fr (Mk S (S.tm rfl) (cs:=(Eh.enc Ac)) rfl rfl ?_);clear S;intro a w1 b1 hz1 hk1 S
 refine Vk S rfl rfl fun a S=>Dl (Fs (Hd [] ([]) Tryz.mixed S rfl (by kernel_rfl) ?_));clear S;intro w2 hk2 hsel S
 refine Kt [0,1,2,3,4,5,6,7] hsel (by kernel_rfl) rfl ?_
 clear hsel
 refine Gv S rfl (Gb JZ (S.tm rfl)) rfl fun a S=>Gv S rfl (Mg isAgg4 (S.tm rfl) (S.cell (i:=0) rfl rfl)) rfl fun a S=>Gv S rfl (Hw isAgg116 (off:=0) (o:=0) (S.tm rfl) ((Pl Ca).at S.emb0) rfl) rfl ?_;clear S;intro a S
 obtain ⟨hc1,h⟩:=Jc h
 obtain ⟨b2,o1,hm1,hr1⟩:=Fv (a:=a) (x:=.tmp 6) (y:=.const (iV 0)) (ty:=0) Oo Ed (Es hc1).1 (Es hc1).2 (S.tm rfl) rfl
 refine Gv S rfl (hr1 _) rfl ?_;clear S;intro a S
 clear hr1
 refine Gv S rfl (Gb JZ (S.tm rfl)) rfl fun a S=>Gv S rfl (Hw isAgg4 (off:=o1) (o:=4) (S.tm rfl) (hm1.at S.emb0) rfl) rfl fun a S=>Gv S rfl (NE underlying4 (S.tm rfl) (S.tm rfl)) rfl fun a S=>Gv S rfl (Ra (S.tm rfl)) rfl fun a S=>Jb ?_
 replace S:=S.n0.k1 3 rfl
 refine Tn (wp_ret ?_)
 obtain rfl:=Option.some.inj h
 exact Fd S results177 rfl rfl
theorem Ta (w : World) (Au : Value) (Aw : List Eh) (Be : Slc (view w []) 5 Au (Aw.map Eh.enc)) (Ay : Nat) (Cz : Value) (Av : List Eh) (Dp : Slc (view w []) 5 Cz (Av.map Eh.enc)) (Bg : (view w []) Ay = some (.cells [Cz].toArray 116 (0,0))) (r : Int) (h : Ku Aw Av = some r) :
    Calls prog 188 [Au,.func (.func 177) #[] #[.pointer (some ⟨Ay,0,none⟩)]].toArray w (Ret w [] fun _ v _=>v = iV r):=by
 refine Fe func188 rfl ntmps188 rfl fun a S=>?_
 unfold Ku at h
 replace S:=S.k2 0 1 rfl
 refine Fr (Vk S rfl rfl fun a S=>Dl (Fs (Fr (Vm S rfl rfl fun a S=>lv S (Gn Oo (S.tm rfl) (Gk Be)) rfl fun a S=>lv S (Rm rfl) rfl ?_))));clear S;intro a S
 refine Dl ?_
 replace S:=S.k4 0 1 7 8 rfl
 obtain ⟨j1,hj1,h⟩:=Fk h
 refine Fa (fun a w'=>j1 = some r ∧ Sx w [] nov [] [] 19 a w') ?_ ?_
 ·refine wp_block (Hs (fun (ys1 : List Eh) a w'=>∃ i1 : Nat,(∃ dn,Aw = dn ++ ys1 ∧ dn.length = i1) ∧ Gj Av j1 ys1 i1 = some r ∧ Sx w [] nov [] [(0,Au),(1,.func (.func 177) #[] #[.pointer (some ⟨Ay,0,none⟩)]),(7,iV (Aw.length : Int)),(8,iV (i1 : Int))] 19 a w') List.length Aw ⟨0,⟨[],rfl,rfl⟩,h,S.nf [] rfl (subR rfl)⟩ ?_)
  clear S h;rintro ys1 a w1 ⟨i1,⟨dn,hd1,hi1⟩,h,S⟩
  cases ys1 with
  | nil =>
   rw [Gj.eq_1] at h
   refine Fr (Vb S Fp rfl rfl rfl fun a S=>Ld ?_)
   replace S:=S.k5 0 1 7 8 9 rfl
   exact Tn (Fs (wp_cond_false ((S.tm rfl).trans (congrArg Value.bool (Jq hd1 hi1))) (wp_exit (Ew (Ew (Hl (Tn (⟨h,S.nf [] rfl trivial⟩))))))))
  | cons y1 ys1 =>
   rw [Gj.eq_2] at h
   refine Fr (Vb S Fp rfl rfl rfl fun a S=>Ld ?_)
   replace S:=S.k5 0 1 7 8 9 rfl
   refine Tn (Fs (wp_cond_true ((S.tm rfl).trans (congrArg Value.bool (Iv hd1 hi1))) (wp_skip (Tn (Fs (wp_block (Fr (Vm S rfl rfl fun a S=>Va S rfl rfl ?_))))))));clear S;intro a S
   refine Dl (Fs (Fg ?_))
   iterate 3 (refine Vm S rfl rfl ?_;clear S;intro a S)
   obtain ⟨b1,o1,hm1,hr1⟩:=Fv (a:=a) (x:=.tmp 12) (y:=.tmp 13) (ty:=0) Oo Be (Js hd1 hi1) rfl (S.tm rfl) (S.tm rfl)
   refine lv S (hr1 _) rfl ?_;clear S;intro a S
   clear hr1
   refine lv S (Gh isAgg120 sizeOf120 (off:=o1) (o:=0) (part:=(Eh.enc y1)) rfl rfl (S.tm rfl) (hm1.at S.emb0)) rfl ?_;clear S;intro a S
   obtain ⟨r1,hr2,h⟩:=Ga h
   refine Er S (fun _=>Te (cap:=[.pointer (some ⟨Ay,0,none⟩)]) (S.tm rfl) (vs:=[.agg (Eh.enc y1).toArray]) ⟨(S.tm rfl),trivial⟩ call177) (CM _ y1 Ay Cz Av (Dp.mono (S.le_arg Ez)) ((S.le_arg Ez) _ _ Bg) _ hr2) rfl ?_;clear S;intro v1 a w3 hv1 hk1 hn1 S
   subst hv1
   refine Dl (Fc h (S.tm rfl) (fun hb1 h=>?_) (fun hb1 h=>?_))
   ·refine Fr (Vm S rfl rfl fun a S=>Va S rfl rfl fun a S=>Ld ?_)
    replace S:=S.k1 4 rfl
    refine Tn (wp_ret (Gg (Ek (Ek (Gg (Ek (Ek ?_)))))))
    obtain rfl:=Option.some.inj h
    exact Fd S results188 rfl rfl
   ·exact wp_skip (Im (Tn (Fg (Vq S Gw rfl rfl rfl fun a S=>Vm S rfl rfl fun a S=>Dl (⟨ys1,⟨i1 + 1,⟨_,(hd1).trans (List.append_cons _ _ _),by simp [hi1]⟩,h,S.nf [] rfl ⟨rfl,rfl,rfl,(congrArg (fun z=>some (Value.int .i64 z)) (Iw hd1 hi1 (Kh Be))),trivial⟩⟩,Nat.lt_succ_self _⟩)))))
 clear S h;rintro a w2 ⟨h,S⟩;rw [hj1] at h;clear hj1 j1
 refine Tn (Fr (Vk S rfl rfl fun a S=>Dl (wp_ret ?_)))
 obtain rfl:=Option.some.inj h
 exact Fd S results188 rfl rfl
theorem Se (w : World) (Au : Value) (Aw : List Eh) (Be : Slc (view w []) 5 Au (Aw.map Eh.enc)) (Ay : Nat) (Cz : Value) (Av : List Eh) (Dp : Slc (view w []) 5 Cz (Av.map Eh.enc)) (Bg : (view w []) Ay = some (.cells [Cz].toArray 116 (0,0))) (r : Bool) (h : Ki Aw Av = some r) :
    Calls prog 176 [Au,.func (.func 177) #[] #[.pointer (some ⟨Ay,0,none⟩)]].toArray w (Ret w [] fun _ v _=>v = bV r):=by
 refine Fe func176 rfl ntmps176 rfl fun a S=>?_
 unfold Ki at h
 replace S:=S.k2 0 1 rfl
 refine Fr (Vk S rfl rfl fun a S=>Dz (Vm S rfl rfl fun a S=>Vm S rfl rfl ?_));clear S;intro a S
 obtain ⟨r1,hr1,h⟩:=Ga h
 refine Er S (fun _=>Ei (vs:=[Au,.func (.func 177) #[] #[.pointer (some ⟨Ay,0,none⟩)]]) ⟨(S.tm rfl),(S.tm rfl),trivial⟩ call188) (Ta _ Au Aw (Be.mono (S.le_arg Ez)) Ay Cz Av (Dp.mono (S.le_arg Ez)) ((S.le_arg Ez) _ _ Bg) _ hr1) rfl ?_;clear S;intro v1 a w1 hv1 hk1 hn1 S
 subst hv1
 refine Vq S Re rfl rfl rfl fun a S=>Va S rfl rfl fun a S=>Dl (wp_ret ?_)
 obtain rfl:=Option.some.inj h
 exact Fd S results176 rfl rfl
set_option maxRecDepth 20000 in
theorem FO (w : World) (Ab : Value) (Ad : List Eh) (Ae : Slc (view w []) 5 Ab (Ad.map Eh.enc)) (r : Int) (h : Sh Ad = some r) :
    Calls prog 151 [Ab].toArray w (Ret w [] fun _ v _=>v = iV r):=by
 refine Fe func151 rfl ntmps151 rfl fun a S=>?_
 unfold Sh at h
 replace S:=S.k1 0 rfl
 refine Fr (Vk S rfl rfl fun a S=>Dz (Sf (κ:=Ge) (ν:=Bool) S rfl (fun x=>Value.agg (Ge.enc x).toArray) Value.bool ?_));clear S;intro a w1 b1 hz1 hk1 S
 refine Va S rfl rfl fun a S=>Dl (Fs (Fr (Vm S rfl rfl fun a S=>lv S (Gn Oo (S.tm rfl) (Gk Ae)) rfl fun a S=>lv S (Rm rfl) rfl fun a S=>Dl ?_)))
 replace S:=(S.nl [.map b1 (Gx (fun x=>Value.agg (Ge.enc x).toArray) Value.bool ([] : List (Ge × Bool))) ([] : List (Ge × Bool)).length] [true] rfl).k5 0 3 17 18 19 rfl
 obtain ⟨j1,hj1,h⟩:=Fk h
 refine Fa (fun a w'=>∃ x1 : List (Ge × Bool),j1 x1 = some r ∧ Sx w [] nov [.map b1 (Gx (fun x=>Value.agg (Ge.enc x).toArray) Value.bool x1) x1.length] [(0,Ab)] 122 a w') ?_ ?_
 ·refine wp_block (Hs (fun (ys1 : List Eh) a w'=>∃ i1 : Nat,∃ x1 : List (Ge × Bool),(∃ dn,Ad = dn ++ ys1 ∧ dn.length = i1) ∧ Mc j1 ys1 i1 x1 = some r ∧ Sx w [] nov [.map b1 (Gx (fun x=>Value.agg (Ge.enc x).toArray) Value.bool x1) x1.length] [(0,Ab),(3,.map (some b1)),(17,Ab),(18,iV (Ad.length : Int)),(19,iV (i1 : Int))] 122 a w') List.length Ad ⟨0,([] : List (Ge × Bool)),⟨[],rfl,rfl⟩,h,S.nf [true] rfl (subR rfl)⟩ ?_)
  clear S h;rintro ys1 a w2 ⟨i1,x1,⟨dn,hd1,hi1⟩,h,S⟩
  cases ys1 with
  | nil =>
   rw [Mc.eq_1] at h
   refine Fr (Vb S Fp rfl rfl rfl fun a S=>Ld ?_)
   replace S:=S.k6 0 3 17 18 19 20 rfl
   exact Tn (Fs (wp_cond_false ((S.tm rfl).trans (congrArg Value.bool (Jq hd1 hi1))) (wp_exit (Ew (Ew (Hl (Tn (⟨x1,h,S.nf [true] rfl ⟨rfl,trivial⟩⟩))))))))
  | cons y1 ys1 =>
   rw [Mc.eq_2] at h
   refine Fr (Vb S Fp rfl rfl rfl fun a S=>Ld ?_)
   replace S:=S.k6 0 3 17 18 19 20 rfl
   refine Tn (Fs (wp_cond_true ((S.tm rfl).trans (congrArg Value.bool (Iv hd1 hi1))) (wp_skip (Tn (Fs (wp_block (Fs (Fg ?_))))))))
   obtain ⟨b2,o1,hm1,hr1⟩:=Fv (a:=a) (x:=.tmp 17) (y:=.tmp 19) (ty:=0) Oo Ae (Js hd1 hi1) rfl (S.tm rfl) (S.tm rfl)
   refine lv S (hr1 _) rfl ?_;clear S;intro a S
   clear hr1
   refine lv S (Gh isAgg120 sizeOf120 (off:=o1) (o:=0) (part:=(Eh.enc y1)) rfl rfl (S.tm rfl) (hm1.at S.emb0)) rfl fun a S=>Iz S zeroValue120 (cs:=[sV An,sV An,sV An,iV 0,bV false]) rfl rfl ?_;clear S;intro a w4 b3 hz2 hk2 S
   refine Ft S (S.tm rfl) (S.tm rfl) (i:=0) (off:=0) rfl sizeOf120 (vs:=(Eh.enc y1)) rfl rfl rfl rfl ?_;clear S;intro w5 hk3 S
   refine Dl (Fs (Fr (Vm S rfl rfl fun a S=>Vf Ys S rfl rfl fun a S=>Vl isAgg9 0 S rfl rfl rfl rfl fun a S=>Vf Yt S rfl rfl fun a S=>Vl isAgg9 0 S rfl rfl rfl rfl fun a S=>lv S (Nc XJ (pv:=[(0,sV y1.Race),(1,sV y1.Who)]) ⟨rfl,(S.tm rfl),rfl,(S.tm rfl),trivial⟩ (cs:=[sV y1.Race,sV y1.Who]) (by kernel_rfl)) rfl ?_)));clear S;intro a S
   refine lv S (Qu (kv:=(fun x=>Value.agg (Ge.enc x).toArray)) (vv:=Value.bool) (m:=x1) (key:=(Ge.mk y1.Race y1.Who)) (z:=false) (S.map_at (i:=1) rfl) underlying258 PT zeroValue4 (S.tm rfl) (S.tm rfl)) rfl fun a S=>Ld ?_
   replace S:=(S.nl [.blk b3 (Eh.enc y1) 120,.map b1 (Gx (fun x=>Value.agg (Ge.enc x).toArray) Value.bool x1) x1.length] [true,true] rfl).k7 0 3 5 17 18 19 29 rfl
   refine Tn (Fc h (S.tm rfl) (fun hb1 h=>?_) (fun hb1 h=>?_))
   ·refine Fr (Vk S rfl rfl fun a S=>Dl (wp_ret (Ek (Gg (Ek (Ek (Gg ?_)))))))
    refine Ek (Ek ?_)
    obtain rfl:=Option.some.inj h
    exact Fd S results151 rfl rfl
   ·refine wp_skip (Tn (Fg (Vm S rfl rfl fun a S=>Vf Ys S rfl rfl fun a S=>Vl isAgg9 0 S rfl rfl rfl rfl fun a S=>Vf Yt S rfl rfl fun a S=>Vl isAgg9 0 S rfl rfl rfl rfl fun a S=>lv S (Nc XJ (pv:=[(0,sV y1.Race),(1,sV y1.Who)]) ⟨rfl,(S.tm rfl),rfl,(S.tm rfl),trivial⟩ (cs:=[sV y1.Race,sV y1.Who]) (by kernel_rfl)) rfl fun a S=>Qa (kv:=(fun x=>Value.agg (Ge.enc x).toArray)) (vv:=Value.bool) (m:=x1) (key:=(Ge.mk y1.Race y1.Who)) (val:=true) S (i:=1) rfl underlying258 PT (S.tm rfl) (S.tm rfl) rfl ?_)));clear S;intro w6 hk4 S
    exact Ld (Im (Tn (Fg (Vq S Gw rfl rfl rfl fun a S=>Vm S rfl rfl fun a S=>Dl (⟨ys1,⟨i1 + 1,(Hj x1 (Ge.mk y1.Race y1.Who) true),⟨_,(hd1).trans (List.append_cons _ _ _),by simp [hi1]⟩,h,S.nf [false,true] rfl ⟨rfl,rfl,rfl,rfl,(congrArg (fun z=>some (Value.int .i64 z)) (Iw hd1 hi1 (Kh Ae))),trivial⟩⟩,Nat.lt_succ_self _⟩)))))
 clear S h;rintro a w3 ⟨x1,h,S⟩;rw [hj1] at h;clear hj1 j1
 refine Tn (Fr (Vm S rfl rfl ?_));clear S;intro a S
 obtain ⟨r1,hr2,h⟩:=Ga h
 have hz3:=S.keep.size
 refine Er S (fun _=>Ei (vs:=[Ab]) ⟨(S.tm rfl),trivial⟩ call129) (CF _ (join (view w []) nov) (Ry (S.le_arg Ez) (S.le_new Ez)) Ab Ad (Ae.mono (le_join_left _ _)) _ hr2) rfl ?_;clear S;intro v1 a w7 hv1 hk5 hn1 S
 obtain ⟨φ1,hl1,hm2,S⟩:=S.see' hn1 hz3
 obtain ⟨rs1,ho2,hr3⟩:=hv1
 have hs1:=ho2.mono (Vi hl1 hm2)
 have hr4:=GB (Vi hl1 hm2) hr3
 refine Va S rfl rfl fun a S=>Dl (Fs (Fr (Vm S rfl rfl fun a S=>lv S (Gn BU (S.tm rfl) (Vh hs1 hr4)) rfl fun a S=>lv S (Rm rfl) rfl fun a S=>Dl ?_)))
 replace S:=S.n0.k4 6 39 40 41 rfl
 obtain ⟨j2,hj2,h⟩:=Fk h
 refine Fa (fun a w'=>j2 = some r ∧ Sx w [] φ1 [] [(6,v1)] 122 a w') ?_ ?_
 ·refine wp_block (Hs (fun (ys2 : List (List Eh)) a w'=>∃ i2 : Nat,(∃ dn,r1 = dn ++ ys2 ∧ dn.length = i2) ∧ Lh j2 ys2 i2 = some r ∧ Sx w [] φ1 [] [(6,v1),(39,v1),(40,iV (r1.length : Int)),(41,iV (i2 : Int))] 122 a w') List.length r1 ⟨0,⟨[],rfl,rfl⟩,h,S.nf [] rfl (subR rfl)⟩ ?_)
  clear S h;rintro ys2 a w8 ⟨i2,⟨dn,hd2,hi2⟩,h,S⟩
  cases ys2 with
  | nil =>
   rw [Lh.eq_1] at h
   refine Fr (Vb S Fp rfl rfl rfl fun a S=>Ld ?_)
   replace S:=S.k5 6 39 40 41 42 rfl
   exact Tn (Fs (wp_cond_false ((S.tm rfl).trans (congrArg Value.bool (Jq hd2 hi2))) (wp_exit (Ew (Ew (Hl (Tn (⟨h,S.nf [] rfl ⟨rfl,trivial⟩⟩))))))))
  | cons y2 ys2 =>
   rw [Lh.eq_2] at h
   refine Fr (Vb S Fp rfl rfl rfl fun a S=>Ld ?_)
   replace S:=S.k5 6 39 40 41 42 rfl
   refine Tn (Fs (wp_cond_true ((S.tm rfl).trans (congrArg Value.bool (Iv hd2 hi2))) (wp_skip (Tn (Fs (wp_block (Fs (Fg ?_))))))))
   obtain ⟨r2,hg1,hl2⟩:=Lp.at hr4 (Js hd2 hi2)
   have hs2:=hl2
   obtain ⟨b4,o2,hm3,hr5⟩:=Fv (a:=a) (x:=.tmp 39) (y:=.tmp 41) (ty:=0) BU hs1 hg1 rfl (S.tm rfl) (S.tm rfl)
   refine lv S (hr5 _) rfl ?_;clear S;intro a S
   clear hr5
   refine lv S (Hw isAgg116 (off:=o2) (o:=0) (S.tm rfl) (hm3.at (Xl S.emb0 S.emb)) rfl) rfl fun a S=>Iz S zeroValue116 (cs:=[.slice none 0 0]) rfl rfl ?_;clear S;intro a w10 b5 hz4 hk6 S
   refine Ft S (S.tm rfl) (S.tm rfl) (i:=0) (off:=0) rfl sizeOf116 (vs:=[r2.val]) (Lo.cells (Gk hs2)) rfl rfl (Rf (Lo.one (Gk hs2)) rfl) ?_;clear S;intro w11 hk7 S
   refine Dz (Vl isAgg116 0 S rfl rfl rfl rfl fun a S=>lv S (Tr (us:=#[]) (xs:=[].toArray) (ys:=[.tmp 8].toArray) (by simp) (evA ⟨(S.tm rfl),trivial⟩ (vs:=[.pointer (some ⟨b5,0,none⟩)]))) rfl ?_);clear S;intro a S
   obtain ⟨r3,hr6,h⟩:=Ga h
   refine Er S (fun _=>Ei (vs:=[r2.val,.func (.func 177) #[] #[.pointer (some ⟨b5,0,none⟩)]]) ⟨(S.tm rfl),(S.tm rfl),trivial⟩ call176) (Se _ r2.val y2 (hs2.mono (Ry (S.le_arg Ez) (S.le_new Ez))) b5 r2.val y2 (hs2.mono (Ry (S.le_arg Ez) (S.le_new Ez))) (S.blk_view (i:=0) rfl ((Ik (e':=.blk b5 [r2.val] 116)) _ rfl)) _ hr6) rfl ?_;clear S;intro v2 a w12 hv2 hk8 hn2 S
   subst hv2
   refine Dl (Fc h (S.tm rfl) (fun hb2 h=>?_) (fun hb2 h=>?_))
   ·refine Fr (Vk S rfl rfl fun a S=>Dl (wp_ret (Gg (Ek (Ek (Gg (Ek ?_)))))))
    refine Ek ?_
    obtain rfl:=Option.some.inj h
    exact Fd S results151 rfl rfl
   ·exact wp_skip (Im (Tn (Fg (Vq S Gw rfl rfl rfl fun a S=>Vm S rfl rfl fun a S=>Dl (⟨ys2,⟨i2 + 1,⟨_,(hd2).trans (List.append_cons _ _ _),by simp [hi2]⟩,h,S.nf [false] rfl ⟨rfl,rfl,rfl,(congrArg (fun z=>some (Value.int .i64 z)) (Iw hd2 hi2 (Xk hs1 hr4))),trivial⟩⟩,Nat.lt_succ_self _⟩)))))
 clear S h;rintro a w9 ⟨h,S⟩;rw [hj2] at h;clear hj2 j2
 refine Tn (Fs (Fr (Vm S rfl rfl fun a S=>lv S (Gn BU (S.tm rfl) (Vh hs1 hr4)) rfl fun a S=>lv S (Rm rfl) rfl fun a S=>Dl ?_)))
 replace S:=S.k4 6 49 50 51 rfl
 obtain ⟨j3,hj3,h⟩:=Fk h
 refine Fa (fun a w'=>j3 = some r ∧ Sx w [] φ1 [] [(6,v1)] 122 a w') ?_ ?_
 ·refine wp_block (Hs (fun (ys3 : List (List Eh)) a w'=>∃ i3 : Nat,(∃ dn,r1 = dn ++ ys3 ∧ dn.length = i3) ∧ Kp j3 ys3 i3 = some r ∧ Sx w [] φ1 [] [(6,v1),(49,v1),(50,iV (r1.length : Int)),(51,iV (i3 : Int))] 122 a w') List.length r1 ⟨0,⟨[],rfl,rfl⟩,h,S.nf [] rfl (subR rfl)⟩ ?_)
  clear S h;rintro ys3 a w13 ⟨i3,⟨dn,hd3,hi3⟩,h,S⟩
  cases ys3 with
  | nil =>
   rw [Kp.eq_1] at h
   refine Fr (Vb S Fp rfl rfl rfl fun a S=>Ld ?_)
   replace S:=S.k5 6 49 50 51 52 rfl
   exact Tn (Fs (wp_cond_false ((S.tm rfl).trans (congrArg Value.bool (Jq hd3 hi3))) (wp_exit (Ew (Ew (Hl (Tn (⟨h,S.nf [] rfl ⟨rfl,trivial⟩⟩))))))))
  | cons y3 ys3 =>
   rw [Kp.eq_2] at h
   refine Fr (Vb S Fp rfl rfl rfl fun a S=>Ld ?_)
   replace S:=S.k5 6 49 50 51 52 rfl
   refine Tn (Fs (wp_cond_true ((S.tm rfl).trans (congrArg Value.bool (Iv hd3 hi3))) (wp_skip (Tn (Fs (wp_block (Fs (Fg ?_))))))))
   obtain ⟨r4,hg2,hl3⟩:=Lp.at hr4 (Js hd3 hi3)
   have hs3:=hl3
   obtain ⟨b6,o3,hm4,hr7⟩:=Fv (a:=a) (x:=.tmp 49) (y:=.tmp 51) (ty:=0) BU hs1 hg2 rfl (S.tm rfl) (S.tm rfl)
   refine lv S (hr7 _) rfl ?_;clear S;intro a S
   clear hr7
   refine lv S (Hw isAgg116 (off:=o3) (o:=0) (S.tm rfl) (hm4.at (Xl S.emb0 S.emb)) rfl) rfl fun a S=>Va S rfl rfl fun a S=>Dz (Vm S rfl rfl fun a S=>lv S (Gn Oo (S.tm rfl) (Gk hs3)) rfl fun a S=>lv S (Rm rfl) rfl fun a S=>Dl ?_)
   replace S:=S.k8 6 10 49 50 51 55 56 57 rfl
   obtain ⟨j4,hj4,h⟩:=Fk h
   refine Fa (fun a w'=>j4 = some r ∧ Sx w [] φ1 [] [(6,v1),(49,v1),(50,iV (r1.length : Int)),(51,iV (i3 : Int))] 122 a w') ?_ ?_
   ·refine wp_block (Hs (fun (ys4 : List Eh) a w'=>∃ i4 : Nat,(∃ dn,y3 = dn ++ ys4 ∧ dn.length = i4) ∧ Md y3 j4 ys4 i4 = some r ∧ Sx w [] φ1 [] [(6,v1),(10,r4.val),(49,v1),(50,iV (r1.length : Int)),(51,iV (i3 : Int)),(55,r4.val),(56,iV (y3.length : Int)),(57,iV (i4 : Int))] 122 a w') List.length y3 ⟨0,⟨[],rfl,rfl⟩,h,S.nf [] rfl (subR rfl)⟩ ?_)
    clear S h;rintro ys4 a w15 ⟨i4,⟨dn,hd4,hi4⟩,h,S⟩
    cases ys4 with
    | nil =>
     rw [Md.eq_1] at h
     refine Fr (Vb S Fp rfl rfl rfl fun a S=>Ld ?_)
     replace S:=S.k9 6 10 49 50 51 55 56 57 58 rfl
     exact Tn (Fs (wp_cond_false ((S.tm rfl).trans (congrArg Value.bool (Jq hd4 hi4))) (wp_exit (Ew (Ew (Hl (Tn (⟨h,S.nf [] rfl (subR rfl)⟩))))))))
    | cons y4 ys4 =>
     rw [Md.eq_2] at h
     refine Fr (Vb S Fp rfl rfl rfl fun a S=>Ld ?_)
     replace S:=S.k9 6 10 49 50 51 55 56 57 58 rfl
     refine Tn (Fs (wp_cond_true ((S.tm rfl).trans (congrArg Value.bool (Iv hd4 hi4))) (wp_skip (Tn (Fs (wp_block (Fr (Vm S rfl rfl ?_))))))));clear S;intro a S
     obtain ⟨b7,o4,hm5,hr8⟩:=Fv (a:=a) (x:=.tmp 55) (y:=.tmp 57) (ty:=0) Oo hs3 (Js hd4 hi4) rfl (S.tm rfl) (S.tm rfl)
     refine lv S (hr8 _) rfl ?_;clear S;intro a S
     clear hr8
     refine lv S (Gh isAgg120 sizeOf120 (off:=o4) (o:=0) (part:=(Eh.enc y4)) rfl rfl (S.tm rfl) (hm5.at (Xl S.emb0 S.emb))) rfl fun a S=>Iz S zeroValue120 (cs:=[sV An,sV An,sV An,iV 0,bV false]) rfl rfl ?_;clear S;intro a w17 b8 hz5 hk9 S
     refine Va S rfl rfl fun a S=>Ft S (S.tm rfl) (S.tm rfl) (i:=0) (off:=0) rfl sizeOf120 (vs:=(Eh.enc y4)) rfl rfl rfl rfl ?_;clear S;intro w18 hk10 S
     refine Dl (Fs (Hd [] ([]) Tryz.mixed S rfl (by kernel_rfl) ?_));clear S;intro w19 hk11 hsel S
     refine Kt [0,1,2,3,4,5,6,7,8,9,10,11,12,13,14,15,16,17,18,19,20,21,22,23,24] hsel (by kernel_rfl) rfl ?_
     clear hsel
     refine Gv S rfl (Gb Ot (S.tm rfl)) rfl fun a S=>Gv S rfl (Mg isAgg3 (S.tm rfl) (S.cell (i:=0) rfl rfl)) rfl fun a S=>Gv S rfl (Jz (S.tm rfl) rfl) rfl fun a S=>Gv S rfl (Rm (S.tm rfl)) rfl fun a S=>Zn 6 (fun a w'=>Keep [] w19 w' ∧ Sx w [] φ1 [.blk b8 (Eh.enc y4) 120] [(6,v1),(10,r4.val),(11,iV (i4 : Int)),(12,.pointer (some ⟨b8,0,none⟩)),(49,v1),(50,iV (r1.length : Int)),(51,iV (i3 : Int)),(55,r4.val),(56,iV (y3.length : Int)),(57,iV (i4 : Int)),(71,bV ((decide (0 < y4.Rank)) && (!decide (y4.Rank = (W ((i4 : Int) + 1))))))] 122 a w') ?_ ?_
     ·rcases Bool.eq_false_or_eq_true (decide (0 < y4.Rank)) with hb3 | hb3
      ·refine Fx S rfl rfl rfl rfl hb3 (He S (Gb Ot (S.tm rfl)) rfl fun a S=>Fx S rfl rfl rfl rfl hb3 (He S (Mg isAgg3 (S.tm rfl) (S.cell (i:=0) rfl rfl)) rfl fun a S=>Fx S rfl rfl rfl rfl hb3 (He S (Rm (S.tm rfl)) rfl fun a S=>Fx S rfl rfl rfl rfl hb3 (He S (Gw (S.tm rfl) rfl) rfl fun a S=>Fx S rfl rfl rfl rfl hb3 (He S (Nt (S.tm rfl) (S.tm rfl)) rfl fun a S=>Gv S rfl (Ii hb3 (S.tm rfl) (S.tm rfl)) rfl ?_)))));clear S;intro a S
       exact Jb (⟨Keep.refl _ _,S.nf [true] rfl (subR rfl)⟩)
      ·iterate 5 (refine Qo S rfl rfl rfl rfl (Ka hb3) rfl ?_ rfl;clear S;intro a S)
       exact Gv S rfl (Ij (!decide (y4.Rank = (W ((i4 : Int) + 1)))) hb3 (S.tm rfl) rfl) rfl fun a S=>Jb (⟨Keep.refl _ _,S.nf [true] rfl (subR rfl)⟩)
     clear S;rintro a w20 ⟨hk12,S⟩
     refine Gv S rfl (Rm (S.tm rfl)) rfl ?_;clear S;intro a S
     obtain ⟨j5,hj5,h⟩:=Fk h
     refine Zn 14 (fun a w'=>∃ c1,j5 c1 = some r ∧ Keep [] w20 w' ∧ Sx w [] φ1 [.blk b8 (Eh.enc y4) 120] [(6,v1),(10,r4.val),(49,v1),(50,iV (r1.length : Int)),(51,iV (i3 : Int)),(55,r4.val),(56,iV (y3.length : Int)),(57,iV (i4 : Int)),(86,bV c1)] 122 a w') ?_ ?_
     ·rcases Bool.eq_false_or_eq_true ((decide (0 < y4.Rank)) && (!decide (y4.Rank = (W ((i4 : Int) + 1))))) with hb4 | hb4
      ·replace h:=Rz h hb4
       refine Fx S rfl rfl rfl rfl hb4 (He S (Rm (S.tm rfl)) rfl fun a S=>Fx S rfl rfl rfl rfl hb4 (He S (Jn (S.tm rfl) rfl) rfl fun a S=>Fx S rfl rfl rfl rfl hb4 (He S (Rm (S.tm rfl)) rfl ?_)));clear S;intro a S
       obtain ⟨j6,hj6,h⟩:=Fk h
       refine Zn 10 (fun a w'=>∃ c2,j6 c2 = some r ∧ Keep [] w20 w' ∧ Sx w [] φ1 [.blk b8 (Eh.enc y4) 120] [(6,v1),(10,r4.val),(49,v1),(50,iV (r1.length : Int)),(51,iV (i3 : Int)),(55,r4.val),(56,iV (y3.length : Int)),(57,iV (i4 : Int)),(72,bV ((decide (0 < y4.Rank)) && (!decide (y4.Rank = (W ((i4 : Int) + 1)))))),(73,iV (i4 : Int)),(74,bV (decide ((i4 : Int) = 0))),(75,bV (decide ((i4 : Int) = 0))),(85,bV c2)] 122 a w') ?_ ?_
       ·rcases Bool.eq_false_or_eq_true (decide ((i4 : Int) = 0)) with hb5 | hb5
        ·replace h:=Rz h hb5
         iterate 9 (refine Qo S rfl rfl rfl rfl (Ng hb5) rfl ?_ rfl;clear S;intro a S)
         exact Fx S rfl rfl rfl rfl hb4 (He S (Lk true hb5 (S.tm rfl) rfl) rfl fun a S=>Jb (⟨_,h,Keep.refl _ _,S.nf [true] rfl (subR rfl)⟩))
        ·replace h:=Sa h hb5
         refine Fx S rfl rfl rfl rfl hb5 (He S (Gb Ot (S.tm rfl)) rfl fun a S=>Fx S rfl rfl rfl rfl hb5 (He S (Mg isAgg3 (S.tm rfl) (S.cell (i:=0) rfl rfl)) rfl fun a S=>Fx S rfl rfl rfl rfl hb5 (He S (Rm (S.tm rfl)) rfl fun a S=>Fx S rfl rfl rfl rfl hb5 (He S (Rm (S.tm rfl)) rfl fun a S=>Fx S rfl rfl rfl rfl hb5 (He S (Jt (S.tm rfl) rfl) rfl fun a S=>Fx S rfl rfl rfl rfl hb5 ?_)))))
         obtain ⟨hc1,h⟩:=Jc h
         obtain ⟨b9,o5,hm6,hr9⟩:=Fv (a:=a) (x:=.tmp 78) (y:=.tmp 80) (ty:=0) Oo hs3 (Es hc1).1 (Es hc1).2 (S.tm rfl) (S.tm rfl)
         refine He S (hr9 _) rfl ?_;clear S;intro a S
         clear hr9
         exact Fx S rfl rfl rfl rfl hb5 (He S (Gb Ot (S.tm rfl)) rfl fun a S=>Fx S rfl rfl rfl rfl hb5 (He S (Hw isAgg3 (off:=o5) (o:=3) (S.tm rfl) (hm6.at (Xl S.emb0 S.emb)) rfl) rfl fun a S=>Fx S rfl rfl rfl rfl hb5 (He S (Nt (S.tm rfl) (S.tm rfl)) rfl fun a S=>Fx S rfl rfl rfl rfl hb4 (He S (Ll hb5 (S.tm rfl) (S.tm rfl)) rfl fun a S=>Jb (⟨_,h,Keep.refl _ _,S.nf [true] rfl (subR rfl)⟩)))))
       clear S h;rintro a w22 ⟨c2,h,hk13,S⟩;rw [hj6] at h;clear hj6 j6
       exact Gv S rfl (Ii hb4 (S.tm rfl) (S.tm rfl)) rfl fun a S=>Jb (⟨_,h,hk13,S.nf [true] rfl (subR rfl)⟩)
      ·replace h:=Sa h hb4
       iterate 3 (refine Qo S rfl rfl rfl rfl (Ka hb4) rfl ?_ rfl;clear S;intro a S)
       iterate 9 (refine s_skipU S rfl rfl rfl rfl rfl ?_;clear S;intro a S)
       exact Qo S rfl rfl rfl rfl (Ka hb4) rfl (fun a S=>Gv S rfl (Ij true hb4 (S.tm rfl) rfl) rfl fun a S=>Jb (⟨_,h,Keep.refl _ _,S.nf [true] rfl (subR rfl)⟩)) rfl
     clear S h;rintro a w21 ⟨c1,h,hk14,S⟩;rw [hj5] at h;clear hj5 j5
     refine Jb ?_
     replace S:=S.n0.k9 6 10 49 50 51 55 56 57 86 rfl
     refine Tn (Fc h (S.tm rfl) (fun hb6 h=>?_) (fun hb6 h=>?_))
     ·refine Fr (Vk S rfl rfl fun a S=>Dl (wp_ret (Gg (Ek (Ek (Gg (Ek ?_)))))))
      refine Gg (Ek (Ek (Gg (Ek (Ek ?_)))))
      obtain rfl:=Option.some.inj h
      exact Fd S results151 rfl rfl
     ·exact wp_skip (Im (Tn (Fg (Vq S Gw rfl rfl rfl fun a S=>Vm S rfl rfl fun a S=>Dl (⟨ys4,⟨i4 + 1,⟨_,(hd4).trans (List.append_cons _ _ _),by simp [hi4]⟩,h,S.nf [] rfl ⟨rfl,rfl,rfl,rfl,rfl,rfl,rfl,(congrArg (fun z=>some (Value.int .i64 z)) (Iw hd4 hi4 (Kh hs3))),trivial⟩⟩,Nat.lt_succ_self _⟩)))))
   clear S h;rintro a w16 ⟨h,S⟩;rw [hj4] at h;clear hj4 j4
   exact Im (Tn (Fg (Vq S Gw rfl rfl rfl fun a S=>Vm S rfl rfl fun a S=>Dl (⟨ys3,⟨i3 + 1,⟨_,(hd3).trans (List.append_cons _ _ _),by simp [hi3]⟩,h,S.nf [] rfl ⟨rfl,rfl,rfl,(congrArg (fun z=>some (Value.int .i64 z)) (Iw hd3 hi3 (Xk hs1 hr4))),trivial⟩⟩,Nat.lt_succ_self _⟩))))
 clear S h;rintro a w14 ⟨h,S⟩;rw [hj3] at h;clear hj3 j3
 refine Tn (Fs (Fr (Vm S rfl rfl fun a S=>lv S (Gn BU (S.tm rfl) (Vh hs1 hr4)) rfl fun a S=>lv S (Rm rfl) rfl fun a S=>Dl ?_)))
 replace S:=S.k3 89 90 91 rfl
 obtain ⟨j7,hj7,h⟩:=Fk h
 refine Fa (fun a w'=>j7 = some r ∧ Sx w [] φ1 [] [] 122 a w') ?_ ?_
 ·refine wp_block (Hs (fun (ys5 : List (List Eh)) a w'=>∃ i5 : Nat,(∃ dn,r1 = dn ++ ys5 ∧ dn.length = i5) ∧ Li j7 ys5 i5 = some r ∧ Sx w [] φ1 [] [(89,v1),(90,iV (r1.length : Int)),(91,iV (i5 : Int))] 122 a w') List.length r1 ⟨0,⟨[],rfl,rfl⟩,h,S.nf [] rfl (subR rfl)⟩ ?_)
  clear S h;rintro ys5 a w23 ⟨i5,⟨dn,hd5,hi5⟩,h,S⟩
  cases ys5 with
  | nil =>
   rw [Li.eq_1] at h
   refine Fr (Vb S Fp rfl rfl rfl fun a S=>Ld ?_)
   replace S:=S.k4 89 90 91 92 rfl
   exact Tn (Fs (wp_cond_false ((S.tm rfl).trans (congrArg Value.bool (Jq hd5 hi5))) (wp_exit (Ew (Ew (Hl (Tn (⟨h,S.nf [] rfl trivial⟩))))))))
  | cons y5 ys5 =>
   rw [Li.eq_2] at h
   refine Fr (Vb S Fp rfl rfl rfl fun a S=>Ld ?_)
   replace S:=S.k4 89 90 91 92 rfl
   refine Tn (Fs (wp_cond_true ((S.tm rfl).trans (congrArg Value.bool (Iv hd5 hi5))) (wp_skip (Tn (Fs (wp_block (Fs (Fg ?_))))))))
   obtain ⟨r5,hg3,hl4⟩:=Lp.at hr4 (Js hd5 hi5)
   have hs4:=hl4
   obtain ⟨b10,o6,hm7,hr10⟩:=Fv (a:=a) (x:=.tmp 89) (y:=.tmp 91) (ty:=0) BU hs1 hg3 rfl (S.tm rfl) (S.tm rfl)
   refine lv S (hr10 _) rfl ?_;clear S;intro a S
   clear hr10
   refine lv S (Hw isAgg116 (off:=o6) (o:=0) (S.tm rfl) (hm7.at (Xl S.emb0 S.emb)) rfl) rfl fun a S=>Va S rfl rfl fun a S=>Dz (Vk S rfl rfl fun a S=>Dl ?_)
   replace S:=S.k5 14 15 89 90 91 rfl
   obtain ⟨j8,hj8,h⟩:=Fk h
   refine Fa (fun a w'=>j8 = some r ∧ Sx w [] φ1 [] [(89,v1),(90,iV (r1.length : Int)),(91,iV (i5 : Int))] 122 a w') ?_ ?_
   ·refine wp_block (Hs (fun (m1 : Nat) a w'=>∃ x2 : Int,Nd y5 j8 m1 x2 = some r ∧ Sx w [] φ1 [] [(14,r5.val),(15,iV x2),(89,v1),(90,iV (r1.length : Int)),(91,iV (i5 : Int))] 122 a w') id (((y5.length : Int) - 10).toNat + 2) ⟨10,h,S.nf [] rfl (subR rfl)⟩ ?_)
    clear S h;rintro m1 a w25 ⟨x2,h,S⟩
    cases m1 with
    | zero=>rw [Nd.eq_1] at h;cases h
    | succ m1 =>
     rw [Nd.eq_2] at h
     refine Fs (Fr (Vm S rfl rfl fun a S=>Vm S rfl rfl fun a S=>lv S (Gn Oo (S.tm rfl) (Gk hs4)) rfl fun a S=>Vb S Fp rfl rfl rfl fun a S=>Dl (Fc h (S.tm rfl) (fun hb7 h=>?_) (fun hb7 h=>?_))))
     ·refine wp_skip (Tn (Fs (wp_block (Fs (Hd [] ([]) Tryz.mixed S rfl (by kernel_rfl) ?_)))));clear S;intro w27 hk15 hsel S
      refine Kt [0,1,2,3,4,5,6,7,8,9,10,11,12,13,14,15,16,17,18,19] hsel (by kernel_rfl) rfl ?_
      clear hsel
      refine Gv S rfl (Rm (S.tm rfl)) rfl fun a S=>Gv S rfl (Rm (S.tm rfl)) rfl ?_;clear S;intro a S
      obtain ⟨hc2,h⟩:=Jc h
      obtain ⟨b11,o7,hm8,hr11⟩:=Fv (a:=a) (x:=.tmp 101) (y:=.tmp 102) (ty:=0) Oo hs4 (Es hc2).1 (Es hc2).2 (S.tm rfl) (S.tm rfl)
      refine Gv S rfl (hr11 _) rfl ?_;clear S;intro a S
      clear hr11
      refine Gv S rfl (Gb Ot (S.tm rfl)) rfl fun a S=>Gv S rfl (Hw isAgg3 (off:=o7) (o:=3) (S.tm rfl) (hm8.at (Xl S.emb0 S.emb)) rfl) rfl fun a S=>Gv S rfl (Jz (S.tm rfl) rfl) rfl fun a S=>Gv S rfl (Rm (S.tm rfl)) rfl ?_;clear S;intro a S
      obtain ⟨j9,hj9,h⟩:=Fk h
      refine Zn 13 (fun a w'=>∃ c3,j9 c3 = some r ∧ Keep [] w27 w' ∧ Sx w [] φ1 [] [(14,r5.val),(15,iV x2),(89,v1),(90,iV (r1.length : Int)),(91,iV (i5 : Int)),(120,bV c3)] 122 a w') ?_ ?_
      ·rcases Bool.eq_false_or_eq_true (decide (0 < ((nth y5 x2).Rank))) with hb8 | hb8
       ·replace h:=Rz h hb8
        refine Fx S rfl rfl rfl rfl hb8 (He S (Rm (S.tm rfl)) rfl fun a S=>Fx S rfl rfl rfl rfl hb8 (He S (Rm (S.tm rfl)) rfl fun a S=>Fx S rfl rfl rfl rfl hb8 ?_))
        obtain ⟨hc3,h⟩:=Jc h
        obtain ⟨b12,o8,hm9,hr12⟩:=Fv (a:=a) (x:=.tmp 108) (y:=.tmp 109) (ty:=0) Oo hs4 (Es hc3).1 (Es hc3).2 (S.tm rfl) (S.tm rfl)
        refine He S (hr12 _) rfl ?_;clear S;intro a S
        clear hr12
        refine Fx S rfl rfl rfl rfl hb8 (He S (Gb Ot (S.tm rfl)) rfl fun a S=>Fx S rfl rfl rfl rfl hb8 (He S (Hw isAgg3 (off:=o8) (o:=3) (S.tm rfl) (hm9.at (Xl S.emb0 S.emb)) rfl) rfl fun a S=>Fx S rfl rfl rfl rfl hb8 (He S (Rm (S.tm rfl)) rfl fun a S=>Fx S rfl rfl rfl rfl hb8 (He S (Rm (S.tm rfl)) rfl fun a S=>Fx S rfl rfl rfl rfl hb8 (He S (Jt (S.tm rfl) rfl) rfl fun a S=>Fx S rfl rfl rfl rfl hb8 ?_)))))
        obtain ⟨hc4,h⟩:=Jc h
        obtain ⟨b13,o9,hm10,hr13⟩:=Fv (a:=a) (x:=.tmp 113) (y:=.tmp 115) (ty:=0) Oo hs4 (Es hc4).1 (Es hc4).2 (S.tm rfl) (S.tm rfl)
        refine He S (hr13 _) rfl ?_;clear S;intro a S
        clear hr13
        exact Fx S rfl rfl rfl rfl hb8 (He S (Gb Ot (S.tm rfl)) rfl fun a S=>Fx S rfl rfl rfl rfl hb8 (He S (Hw isAgg3 (off:=o9) (o:=3) (S.tm rfl) (hm10.at (Xl S.emb0 S.emb)) rfl) rfl fun a S=>Fx S rfl rfl rfl rfl hb8 (He S (Jn (S.tm rfl) (S.tm rfl)) rfl fun a S=>Gv S rfl (Ii hb8 (S.tm rfl) (S.tm rfl)) rfl fun a S=>Jb (⟨_,h,Keep.refl _ _,S.nf [] rfl (subR rfl)⟩))))
       ·replace h:=Sa h hb8
        iterate 12 (refine Qo S rfl rfl rfl rfl (Ka hb8) rfl ?_ rfl;clear S;intro a S)
        exact Gv S rfl (Ij true hb8 (S.tm rfl) rfl) rfl fun a S=>Jb (⟨_,h,Keep.refl _ _,S.nf [] rfl (subR rfl)⟩)
      clear S h;rintro a w28 ⟨c3,h,hk16,S⟩;rw [hj9] at h;clear hj9 j9
      refine Jb ?_
      replace S:=S.k6 14 15 89 90 91 120 rfl
      refine Tn (Fc h (S.tm rfl) (fun hb9 h=>?_) (fun hb9 h=>?_))
      ·refine Fr (Vk S rfl rfl fun a S=>Dl (wp_ret (Gg (Ek (Ek (Gg (Ek ?_)))))))
       refine Gg (Ek (Ek (Gg (Ek (Ek ?_)))))
       obtain rfl:=Option.some.inj h
       exact Fd S results151 rfl rfl
      ·exact wp_skip (Im (Tn (Fg (Vm S rfl rfl fun a S=>Vq S Gw rfl rfl rfl fun a S=>Va S rfl rfl fun a S=>Dl (⟨m1,⟨W (x2 + 1),h,S.nf [] rfl ⟨rfl,rfl,rfl,rfl,rfl,trivial⟩⟩,Nat.lt_succ_self _⟩)))))
     ·exact wp_exit (Ew (Ew (Hl (Tn (⟨h,S.nf [] rfl (subR rfl)⟩)))))
   clear S h;rintro a w26 ⟨h,S⟩;rw [hj8] at h;clear hj8 j8
   exact Im (Tn (Fg (Vq S Gw rfl rfl rfl fun a S=>Vm S rfl rfl fun a S=>Dl (⟨ys5,⟨i5 + 1,⟨_,(hd5).trans (List.append_cons _ _ _),by simp [hi5]⟩,h,S.nf [] rfl ⟨rfl,rfl,(congrArg (fun z=>some (Value.int .i64 z)) (Iw hd5 hi5 (Xk hs1 hr4))),trivial⟩⟩,Nat.lt_succ_self _⟩))))
 clear S h;rintro a w24 ⟨h,S⟩;rw [hj7] at h;clear hj7 j7
 refine Tn (Fr (Vk S rfl rfl fun a S=>Dl (wp_ret ?_)))
 obtain rfl:=Option.some.inj h
 exact Fd S results151 rfl rfl
set_option maxRecDepth 20000 in
theorem CN (w : World) (Ab : Value) (Ad : List Eh) (Ae : Slc (view w []) 5 Ab (Ad.map Eh.enc)) (r : Int) (h : Ru Ad = some r) :
    Calls prog 128 [Ab].toArray w (Ret w [] fun _ v _=>v = iV r):=by
 refine Fe func128 rfl ntmps128 rfl fun a S=>?_
 unfold Ru at h
 replace S:=S.k1 0 rfl
 refine Fr (Vk S rfl rfl fun a S=>Dl (Fs (Fr (Vm S rfl rfl fun a S=>lv S (Gn Oo (S.tm rfl) (Gk Ae)) rfl fun a S=>Vq S Jz rfl rfl rfl ?_))));clear S;intro a S
 refine Dl (Fc h (S.tm rfl) (fun hb1 h=>?_) (fun hb1 h=>?_))
 ·refine Fr (Vk S rfl rfl fun a S=>Dl (wp_ret (Ek ?_)))
  obtain rfl:=Option.some.inj h
  exact Fd S results128 rfl rfl
 ·refine wp_skip (Tn (Fs (Fr (Vm S rfl rfl fun a S=>lv S (Gn Oo (S.tm rfl) (Gk Ae)) rfl fun a S=>lv S (Rm rfl) rfl fun a S=>Dl ?_))))
  replace S:=S.k4 0 8 9 10 rfl
  obtain ⟨j1,hj1,h⟩:=Fk h
  refine Fa (fun a w'=>j1 = some r ∧ Sx w [] nov [] [(0,Ab)] 58 a w') ?_ ?_
  ·refine wp_block (Hs (fun (ys1 : List Eh) a w'=>∃ i1 : Nat,(∃ dn,Ad = dn ++ ys1 ∧ dn.length = i1) ∧ Kn Ad j1 ys1 i1 = some r ∧ Sx w [] nov [] [(0,Ab),(8,Ab),(9,iV (Ad.length : Int)),(10,iV (i1 : Int))] 58 a w') List.length Ad ⟨0,⟨[],rfl,rfl⟩,h,S.nf [] rfl (subR rfl)⟩ ?_)
   clear S h;rintro ys1 a w1 ⟨i1,⟨dn,hd1,hi1⟩,h,S⟩
   cases ys1 with
   | nil =>
    rw [Kn.eq_1] at h
    refine Fr (Vb S Fp rfl rfl rfl fun a S=>Ld ?_)
    replace S:=S.k5 0 8 9 10 11 rfl
    exact Tn (Fs (wp_cond_false ((S.tm rfl).trans (congrArg Value.bool (Jq hd1 hi1))) (wp_exit (Ew (Ew (Hl (Tn (⟨h,S.nf [] rfl ⟨rfl,trivial⟩⟩))))))))
   | cons y1 ys1 =>
    rw [Kn.eq_2] at h
    refine Fr (Vb S Fp rfl rfl rfl fun a S=>Ld ?_)
    replace S:=S.k5 0 8 9 10 11 rfl
    refine Tn (Fs (wp_cond_true ((S.tm rfl).trans (congrArg Value.bool (Iv hd1 hi1))) (wp_skip (Tn (Fs (wp_block (Fr (Vm S rfl rfl ?_))))))));clear S;intro a S
    obtain ⟨b1,o1,hm1,hr1⟩:=Fv (a:=a) (x:=.tmp 8) (y:=.tmp 10) (ty:=0) Oo Ae (Js hd1 hi1) rfl (S.tm rfl) (S.tm rfl)
    refine lv S (hr1 _) rfl ?_;clear S;intro a S
    clear hr1
    refine lv S (Gh isAgg120 sizeOf120 (off:=o1) (o:=0) (part:=(Eh.enc y1)) rfl rfl (S.tm rfl) (hm1.at S.emb0)) rfl fun a S=>Iz S zeroValue120 (cs:=[sV An,sV An,sV An,iV 0,bV false]) rfl rfl ?_;clear S;intro a w3 b2 hz1 hk1 S
    refine Va S rfl rfl fun a S=>Ft S (S.tm rfl) (S.tm rfl) (i:=0) (off:=0) rfl sizeOf120 (vs:=(Eh.enc y1)) rfl rfl rfl rfl ?_;clear S;intro w4 hk2 S
    refine Dl (wp_block (Fr (Vf Ys S rfl rfl fun a S=>Vl isAgg9 0 S rfl rfl rfl rfl ?_)));clear S;intro a S
    obtain ⟨r1,hr2,h⟩:=Ga h
    refine Er S (fun _=>Ei (vs:=[sV y1.Race]) ⟨(S.tm rfl),trivial⟩ call107) (Jp _ y1.Race _ hr2) rfl ?_;clear S;intro v1 a w5 hv1 hk3 hn1 S
    subst hv1
    refine Vu S Ig rfl rfl fun a S=>Vm S rfl rfl ?_;clear S;intro a S
    obtain ⟨j2,hj2,h⟩:=Fk h
    refine Io 5 (fun a w'=>∃ c1,j2 c1 = some r ∧ Keep [] w5 w' ∧ Sx w [] nov [.blk b2 (Eh.enc y1) 120] [(0,Ab),(3,iV (i1 : Int)),(4,.pointer (some ⟨b2,0,none⟩)),(8,Ab),(9,iV (Ad.length : Int)),(10,iV (i1 : Int)),(25,bV c1)] 58 a w') ?_ ?_
    ·rcases Bool.eq_false_or_eq_true (!r1) with hb2 | hb2
     ·replace h:=Rz h hb2
      iterate 4 (refine Hk S rfl rfl rfl (Ng hb2) rfl ?_ rfl;clear S;intro a S)
      exact Vq S (Lk true hb2) rfl rfl rfl fun a S=>Dl (⟨_,h,Keep.refl _ _,S.nf [true] rfl (subR rfl)⟩)
     ·replace h:=Sa h hb2
      refine Em S rfl rfl rfl hb2 (Vf Yt S rfl rfl fun a S=>Em S rfl rfl rfl hb2 (Vl isAgg9 0 S rfl rfl rfl rfl fun a S=>Em S rfl rfl rfl hb2 ?_))
      obtain ⟨r2,hr3,h⟩:=Ga h
      refine Er S (fun _=>Ei (vs:=[sV y1.Who]) ⟨(S.tm rfl),trivial⟩ call107) (Jp _ y1.Who _ hr3) rfl ?_;clear S;intro v2 a w7 hv2 hk4 hn2 S
      subst hv2
      exact Em S rfl rfl rfl hb2 (Vu S Ig rfl rfl fun a S=>lv S (Ll hb2 (S.tm rfl) (S.tm rfl)) rfl fun a S=>Dl (⟨_,h,hk4,S.nf [true] rfl (subR rfl)⟩))
    clear S h;rintro a w6 ⟨c1,h,hk5,S⟩;rw [hj2] at h;clear hj2 j2
    refine Vm S rfl rfl ?_;clear S;intro a S
    obtain ⟨j3,hj3,h⟩:=Fk h
    refine Io 10 (fun a w'=>∃ c2,j3 c2 = some r ∧ Keep [] w6 w' ∧ Sx w [] nov [.blk b2 (Eh.enc y1) 120] [(0,Ab),(3,iV (i1 : Int)),(4,.pointer (some ⟨b2,0,none⟩)),(8,Ab),(9,iV (Ad.length : Int)),(10,iV (i1 : Int)),(36,bV c2)] 58 a w') ?_ ?_
    ·rcases Bool.eq_false_or_eq_true c1 with hb3 | hb3
     ·replace h:=Rz h hb3
      iterate 4 (refine Hk S rfl rfl rfl (Ng hb3) rfl ?_ rfl;clear S;intro a S)
      iterate 4 (refine BM S rfl rfl rfl rfl ?_;clear S;intro a S)
      exact Hk S rfl rfl rfl (Ng hb3) rfl (fun a S=>Vq S (Lk true hb3) rfl rfl rfl fun a S=>Dl (⟨_,h,Keep.refl _ _,S.nf [true] rfl (subR rfl)⟩)) rfl
     ·replace h:=Sa h hb3
      refine Em S rfl rfl rfl hb3 (Vf DF S rfl rfl fun a S=>Em S rfl rfl rfl hb3 (Vl isAgg9 0 S rfl rfl rfl rfl fun a S=>Em S rfl rfl rfl hb3 (Vq S DZ rfl rfl rfl fun a S=>Em S rfl rfl rfl hb3 (Vm S rfl rfl ?_))));clear S;intro a S
      obtain ⟨j4,hj4,h⟩:=Fk h
      refine Io 5 (fun a w'=>∃ c3,j4 c3 = some r ∧ Keep [] w6 w' ∧ Sx w [] nov [.blk b2 (Eh.enc y1) 120] [(0,Ab),(3,iV (i1 : Int)),(4,.pointer (some ⟨b2,0,none⟩)),(8,Ab),(9,iV (Ad.length : Int)),(10,iV (i1 : Int)),(26,bV c1),(27,.pointer (some ⟨b2,2,none⟩)),(28,sV y1.Club),(29,bV (!decide (y1.Club = An))),(30,bV (!decide (y1.Club = An))),(35,bV c3)] 58 a w') ?_ ?_
      ·rcases Bool.eq_false_or_eq_true (!decide (y1.Club = An)) with hb4 | hb4
       ·replace h:=Rz h hb4
        refine Em S rfl rfl rfl hb4 (Vf DF S rfl rfl fun a S=>Em S rfl rfl rfl hb4 (Vl isAgg9 0 S rfl rfl rfl rfl fun a S=>Em S rfl rfl rfl hb4 ?_))
        obtain ⟨r3,hr4,h⟩:=Ga h
        refine Er S (fun _=>Ei (vs:=[sV y1.Club]) ⟨(S.tm rfl),trivial⟩ call107) (Jp _ y1.Club _ hr4) rfl ?_;clear S;intro v3 a w10 hv3 hk6 hn3 S
        subst hv3
        exact Em S rfl rfl rfl hb4 (Vu S Ig rfl rfl fun a S=>Em S rfl rfl rfl hb3 (lv S (Ii hb4 (S.tm rfl) (S.tm rfl)) rfl fun a S=>Dl (⟨_,h,hk6,S.nf [true] rfl (subR rfl)⟩)))
       ·replace h:=Sa h hb4
        iterate 4 (refine Hk S rfl rfl rfl (Ka hb4) rfl ?_ rfl;clear S;intro a S)
        exact Em S rfl rfl rfl hb3 (Vq S (Ij true hb4) rfl rfl rfl fun a S=>Dl (⟨_,h,Keep.refl _ _,S.nf [true] rfl (subR rfl)⟩))
      clear S h;rintro a w9 ⟨c3,h,hk7,S⟩;rw [hj4] at h;clear hj4 j4
      exact lv S (Ll hb3 (S.tm rfl) (S.tm rfl)) rfl fun a S=>Dl (⟨_,h,hk7,S.nf [true] rfl (subR rfl)⟩)
    clear S h;rintro a w8 ⟨c2,h,hk8,S⟩;rw [hj3] at h;clear hj3 j3
    refine Va S rfl rfl fun a S=>Dl (Fc h (S.tm rfl) (fun hb5 h=>?_) (fun hb5 h=>?_))
    ·refine Fr (Vk S rfl rfl fun a S=>Dl (wp_ret (Gg (Gg (Ek (Ek (Gg ?_)))))))
     refine Ek (Ek ?_)
     obtain rfl:=Option.some.inj h
     exact Fd S results128 rfl rfl
    ·refine Fr (Vf Ot S rfl rfl fun a S=>Vl isAgg3 0 S rfl rfl rfl rfl fun a S=>Er S (fun _=>Ei (vs:=[iV y1.Rank,iV 0,iV 300]) ⟨(S.tm rfl),rfl,rfl,trivial⟩ call65) (Gl _ y1.Rank 0 300 _ rfl) rfl ?_);clear S;intro v4 a w11 hv4 hk9 hn4 S
     subst hv4
     refine Vu S Ig rfl rfl fun a S=>Va S rfl rfl fun a S=>Dl (Fc h (S.tm rfl) (fun hb6 h=>?_) (fun hb6 h=>?_))
     ·refine Fr (Vk S rfl rfl fun a S=>Dl (wp_ret (Gg (Gg (Ek (Ek (Gg ?_)))))))
      refine Ek (Ek ?_)
      obtain rfl:=Option.some.inj h
      exact Fd S results128 rfl rfl
     ·refine Fs ?_
      obtain ⟨j5,hj5,h⟩:=Fk h
      refine Fa (fun a w'=>∃ x1 : Bool,j5 x1 = some r ∧ Sx w [] nov [] [(0,Ab),(8,Ab),(9,iV (Ad.length : Int)),(10,iV (i1 : Int)),(42,bV x1)] 58 a w') ?_ ?_
      ·rcases Bool.eq_false_or_eq_true (decide (0 < (i1 : Int))) with hb7 | hb7
       ·replace h:=Rz h hb7
        obtain ⟨hc1,h⟩:=Jc h
        refine Hd [] ([]) Tryz.mixed S rfl (by kernel_rfl) ?_;clear S;intro w14 hk11 hsel S
        refine Eo 0 S hsel rfl rfl rfl (by kernel_rfl) (by kernel_rfl) rfl (fun _ hw=>(Rm (S.tm rfl))) fun a S=>Eo 1 S hsel rfl rfl rfl (by kernel_rfl) (by kernel_rfl) rfl (fun _ hw=>(Jz (S.tm rfl) rfl)) fun a S=>Eo 2 S hsel rfl rfl rfl (by kernel_rfl) (by kernel_rfl) rfl (fun _ hw=>(Rm (S.tm rfl))) fun a S=>Ey 3 S hsel rfl rfl rfl rfl hb7 rfl rfl (by kernel_rfl) (by kernel_rfl) rfl (fun _ hw=>(Rm (S.tm rfl))) fun a S=>Ey 4 S hsel rfl rfl rfl rfl hb7 rfl rfl (by kernel_rfl) (by kernel_rfl) rfl (fun _ hw=>(Rm (S.tm rfl))) fun a S=>Ey 5 S hsel rfl rfl rfl rfl hb7 rfl rfl (by kernel_rfl) (by kernel_rfl) rfl (fun _ hw=>(Jt (S.tm rfl) rfl)) ?_;clear S;intro a S
        obtain ⟨b4,o3,hm3,hr6⟩:=Fv (a:=a) (x:=.tmp 46) (y:=.tmp 48) (ty:=0) Oo (Ae.mono (S.le_arg Ez)) (Es hc1).1 (Es hc1).2 (S.tm rfl) (S.tm rfl)
        refine Ey 6 S hsel rfl rfl rfl rfl hb7 rfl rfl (by kernel_rfl) (by kernel_rfl) rfl (fun _ hw=>hr6 _) ?_;clear S;intro a S
        clear hr6
        refine Ey 7 S hsel rfl rfl rfl rfl hb7 rfl rfl (by kernel_rfl) (by kernel_rfl) rfl (fun _ hw=>(Gh isAgg120 sizeOf120 (off:=o3) (o:=0) (part:=(Eh.enc (nth Ad (W ((i1 : Int) - 1))))) rfl rfl (S.tm rfl) (hm3.kept hw))) fun a S=>Ey 8 S hsel rfl rfl rfl rfl hb7 rfl rfl (by kernel_rfl) (by kernel_rfl) rfl (fun _ hw=>(Gh isAgg120 sizeOf120 (off:=0) (o:=0) (part:=(Eh.enc y1)) rfl rfl (S.tm rfl) ((S.blk_mem (i:=0) (cells:=(Eh.enc y1)) (b:=b2) (T:=120) rfl (Ik (e':=.blk b2 (Eh.enc y1) 120))).kept hw))) fun a S=>Hi 9 (by kernel_rfl) rfl (Em S rfl rfl rfl hb7 (Er S (fun _=>Ei (vs:=[.agg (Eh.enc (nth Ad (W ((i1 : Int) - 1)))).toArray,.agg (Eh.enc y1).toArray]) ⟨(S.tm rfl),(S.tm rfl),trivial⟩ call150) (GN _ (nth Ad (W ((i1 : Int) - 1))) y1 _ rfl) rfl ?_));clear S;intro v6 a w15 hv6 hk12 hn6 S
        subst hv6
        refine Ld (It hk12 (Kt [10,11,12] hsel (by kernel_rfl) rfl ?_))
        clear hsel
        refine Fx S rfl rfl rfl rfl hb7 (He S (Re (S.tm rfl) rfl) rfl fun a S=>Gv S rfl (Qe hb7 (S.tm rfl) (S.tm rfl)) rfl fun a S=>Gv S rfl (Ra (S.tm rfl)) rfl fun a S=>Jb ?_)
        replace S:=S.n0.k13 0 8 9 10 42 46 47 48 49 50 51 52 53 rfl
        exact Tn (⟨decide (0 ≤ (Tg (nth Ad (W ((i1 : Int) - 1))) y1)),h,S.nf [] rfl (subR rfl)⟩)
       ·replace h:=Sa h hb7
        refine Hd [] ([]) Tryz.mixed S rfl (by kernel_rfl) ?_;clear S;intro w16 hk13 hsel S
        refine Kt [0,1,2,3,4,5,6,7,8,9,10,11,12] hsel (by kernel_rfl) rfl ?_
        clear hsel
        refine Gv S rfl (Rm (S.tm rfl)) rfl fun a S=>Gv S rfl (Jz (S.tm rfl) rfl) rfl fun a S=>Gv S rfl (Rm (S.tm rfl)) rfl ?_;clear S;intro a S
        iterate 8 (refine Qo S rfl rfl rfl rfl (Ka hb7) rfl ?_ rfl;clear S;intro a S)
        refine Gv S rfl (Qf hb7 (S.tm rfl) rfl) rfl fun a S=>Gv S rfl (Ra (S.tm rfl)) rfl fun a S=>Jb ?_
        replace S:=S.n0.k5 0 8 9 10 42 rfl
        exact Tn (⟨false,h,S.nf [] rfl (subR rfl)⟩)
      clear S h;rintro a w12 ⟨x1,h,S⟩;rw [hj5] at h;clear hj5 j5
      refine Tn (Fc h (S.tm rfl) (fun hb8 h=>?_) (fun hb8 h=>?_))
      ·refine Fr (Vk S rfl rfl fun a S=>Dl (wp_ret (Gg (Gg (Ek (Ek (Gg ?_)))))))
       refine Ek (Ek ?_)
       obtain rfl:=Option.some.inj h
       exact Fd S results128 rfl rfl
      ·exact wp_skip (Im (Im (Tn (Fg (Vq S Gw rfl rfl rfl fun a S=>Vm S rfl rfl fun a S=>Dl (⟨ys1,⟨i1 + 1,⟨_,(hd1).trans (List.append_cons _ _ _),by simp [hi1]⟩,h,S.nf [] rfl ⟨rfl,rfl,rfl,(congrArg (fun z=>some (Value.int .i64 z)) (Iw hd1 hi1 (Kh Ae))),trivial⟩⟩,Nat.lt_succ_self _⟩))))))
  clear S h;rintro a w2 ⟨h,S⟩;rw [hj1] at h;clear hj1 j1
  refine Tn (Fr (Vm S rfl rfl ?_));clear S;intro a S
  obtain ⟨r4,hr7,h⟩:=Ga h
  refine Er S (fun _=>Ei (vs:=[Ab]) ⟨(S.tm rfl),trivial⟩ call151) (FO _ Ab Ad (Ae.mono (S.le_arg Ez)) _ hr7) rfl ?_;clear S;intro v7 a w17 hv7 hk14 hn7 S
  subst hv7
  refine Va S rfl rfl fun a S=>Dl (wp_ret ?_)
  obtain rfl:=Option.some.inj h
  exact Fd S results128 rfl rfl
theorem ES (w : World) (Ax : Nh) (Cl : R28) (Ct : Zp (view w []) Ax Cl) (Ab : Value) (Ad : List Eh) (Ae : Slc (view w []) 5 Ab (Ad.map Eh.enc)) (r : Int) (h : Th Ax Ad = some r) :
    Calls prog 91 [.agg (R28.enc Cl).toArray,Ab].toArray w (Ret w [] fun _ v _=>v = iV r):=by
 obtain ⟨u1,rfl,hs1⟩:=Ct
 refine Fe func91 rfl ntmps91 rfl fun a S=>?_
 unfold Th at h
 replace S:=S.k2 0 1 rfl
 refine Fr (Mk S (S.tm rfl) (cs:=[u1.val,iV Ax.Relay,iV Ax.Most]) rfl rfl ?_);clear S;intro a w1 b1 hz1 hk1 S
 refine Vk S rfl rfl fun a S=>Dl (Fs (Fr (lv S (Gh isAgg28 sizeOf28 (off:=0) (o:=0) (part:=[u1.val,iV Ax.Relay,iV Ax.Most]) rfl rfl (S.tm rfl) (S.cellsAt (i:=0) rfl)) rfl ?_)));clear S;intro a S
 obtain ⟨r1,hr1,h⟩:=Ga h
 refine Er S (fun _=>Ei (vs:=[.agg (R28.enc (R28.mk u1 Ax.Relay Ax.Most)).toArray]) ⟨(S.tm rfl),trivial⟩ call116) (Yu _ Ax (R28.mk u1 Ax.Relay Ax.Most) ⟨u1,rfl,(hs1.mono (S.le_arg Ez))⟩ _ hr1) rfl ?_;clear S;intro v1 a w2 hv1 hk2 hn1 S
 subst hv1
 refine Va S rfl rfl fun a S=>Dz (Vm S rfl rfl fun a S=>Vq S Nt rfl rfl rfl fun a S=>Dl (Fc h (S.tm rfl) (fun hb1 h=>?_) (fun hb1 h=>?_)))
 ·refine Fr (Vm S rfl rfl fun a S=>Va S rfl rfl fun a S=>Dl (wp_ret (Ek ?_)))
  obtain rfl:=Option.some.inj h
  exact Fd S results91 rfl rfl
 ·refine wp_skip (Tn (Fr (Vm S rfl rfl ?_)));clear S;intro a S
  obtain ⟨r2,hr2,h⟩:=Ga h
  refine Er S (fun _=>Ei (vs:=[Ab]) ⟨(S.tm rfl),trivial⟩ call128) (CN _ Ab Ad (Ae.mono (S.le_arg Ez)) _ hr2) rfl ?_;clear S;intro v2 a w3 hv2 hk3 hn2 S
  subst hv2
  refine Va S rfl rfl fun a S=>Dl (wp_ret ?_)
  obtain rfl:=Option.some.inj h
  exact Fd S results91 rfl rfl
theorem KF (w : World) (r : Fo) (h : Me = r) :
    Calls prog 152 [].toArray w (Ret w [] fun _ v _=>v = .agg (Fo.enc r).toArray):=by
 refine Fe func152 rfl ntmps152 rfl fun a S=>?_
 unfold Me at h
 replace S:=S.k0
 refine Fr (Iz S zeroValue49 (cs:=[iV 0,iV 0]) rfl rfl ?_);clear S;intro a w1 b1 hz1 hk1 S
 refine Dz (lv S (Nc XH (pv:=[(0,iV 0),(1,iV 1)]) ⟨rfl,rfl,rfl,rfl,trivial⟩ (cs:=[iV 0,iV 1]) (by kernel_rfl)) rfl fun a S=>Ft S (S.tm rfl) (S.tm rfl) (i:=0) (off:=0) rfl sizeOf49 (vs:=[iV 0,iV 1]) rfl rfl rfl rfl ?_);clear S;intro w2 hk2 S
 refine Dl (wp_ret ?_)
 subst h
 exact Wh S (rs:=[.cell 0 49]) (vs:=[.agg #[iV 0,iV 1]]) results152 ⟨(Qy (off:=0) S rfl isAgg49 sizeOf49 rfl (S.cellsAt (i:=0) rfl)),trivial⟩ rfl rfl
theorem GO (w : World) (Ah : Int) (Aj : Int) (r : Fo) (h : Rv Ah Aj = some r) :
    Calls prog 153 [iV Ah,iV Aj].toArray w (Ret w [] fun _ v _=>v = .agg (Fo.enc r).toArray):=by
 refine Fe func153 rfl ntmps153 rfl fun a S=>?_
 unfold Rv at h
 replace S:=S.k2 0 1 rfl
 refine Fr (Iz S zeroValue49 (cs:=[iV 0,iV 0]) rfl rfl ?_);clear S;intro a w1 b1 hz1 hk1 S
 refine Dz (Vm S rfl rfl fun a S=>Vm S rfl rfl fun a S=>Va S rfl rfl fun a S=>Va S rfl rfl fun a S=>Dl (Fs ?_))
 replace S:=(S.nl [.blk b1 [iV 0,iV 0] 49] [true] rfl).k5 0 1 4 5 6 rfl
 obtain ⟨j1,hj1,h⟩:=Fk h
 refine Fa (fun a w'=>∃ x2 : Int,j1 x2 = some r ∧ Sx w [] nov [.blk b1 [iV 0,iV 0] 49] [(0,iV Ah),(1,iV Aj),(4,.pointer (some ⟨b1,0,none⟩)),(6,iV x2)] 22 a w') ?_ ?_
 ·refine wp_block (Hs (fun (m1 : Nat) a w'=>∃ x1 : Int,∃ x2 : Int,Mu j1 m1 x1 x2 = some r ∧ Sx w [] nov [.blk b1 [iV 0,iV 0] 49] [(0,iV Ah),(1,iV Aj),(4,.pointer (some ⟨b1,0,none⟩)),(5,iV x1),(6,iV x2)] 22 a w') id ((Ah - 0).toNat + 2) ⟨Ah,Aj,h,S.nf [true] rfl (subR rfl)⟩ ?_)
  clear S h;rintro m1 a w2 ⟨x1,x2,h,S⟩
  cases m1 with
  | zero=>rw [Mu.eq_1] at h;cases h
  | succ m1 =>
   rw [Mu.eq_2] at h
   refine Fs (Fr (Vm S rfl rfl fun a S=>Vq S Jz rfl rfl rfl fun a S=>Dl (Fc h (S.tm rfl) (fun hb1 h=>?_) (fun hb1 h=>?_))))
   ·refine wp_skip (Tn (wp_block (Fg (Vm S rfl rfl fun a S=>Vm S rfl rfl ?_))));clear S;intro a S
    obtain ⟨hc1,h⟩:=Jc h
    exact lv S (CP (S.tm rfl) (S.tm rfl) (Wg hc1)) rfl fun a S=>Vm S rfl rfl fun a S=>Va S rfl rfl fun a S=>Va S rfl rfl fun a S=>Ld (Im (Tn (⟨m1,⟨Int.tmod x2 x1,x1,h,S.nf [true] rfl ⟨rfl,rfl,rfl,rfl,rfl,trivial⟩⟩,Nat.lt_succ_self _⟩)))
   ·exact wp_exit (Ew (Ew (Hl (Tn (⟨x2,h,S.nf [true] rfl (subR rfl)⟩)))))
 clear S h;rintro a w3 ⟨x2,h,S⟩;rw [hj1] at h;clear hj1 j1
 refine Tn (Fs ?_)
 obtain ⟨hc2,h⟩:=Jc h
 obtain ⟨hc3,h⟩:=Jc h
 refine Hd [] ([b1]) Tryz.mixed S rfl (by kernel_rfl) ?_;clear S;intro w5 hk3 hsel S
 refine Eo 0 S hsel rfl rfl rfl (by kernel_rfl) (by kernel_rfl) rfl (fun _ hw=>(Rm (S.tm rfl))) fun a S=>Eo 1 S hsel rfl rfl rfl (by kernel_rfl) (by kernel_rfl) rfl (fun _ hw=>(Rm (S.tm rfl))) fun a S=>Eo 2 S hsel rfl rfl rfl (by kernel_rfl) (by kernel_rfl) rfl (fun _ hw=>(FD (S.tm rfl) (S.tm rfl) (Wg hc2))) fun a S=>Eo 3 S hsel rfl rfl rfl (by kernel_rfl) (by kernel_rfl) rfl (fun _ hw=>(Rm (S.tm rfl))) fun a S=>Eo 4 S hsel rfl rfl rfl (by kernel_rfl) (by kernel_rfl) rfl (fun _ hw=>(Rm (S.tm rfl))) fun a S=>Eo 5 S hsel rfl rfl rfl (by kernel_rfl) (by kernel_rfl) rfl (fun _ hw=>(FD (S.tm rfl) (S.tm rfl) (Wg hc3))) fun a S=>Eo 6 S hsel rfl rfl rfl (by kernel_rfl) (by kernel_rfl) rfl (fun _ hw=>(Nc XH (pv:=[(0,iV (W (Int.tdiv Ah x2))),(1,iV (W (Int.tdiv Aj x2)))]) ⟨rfl,(S.tm rfl),rfl,(S.tm rfl),trivial⟩ (cs:=[iV (W (Int.tdiv Ah x2)),iV (W (Int.tdiv Aj x2))]) (by kernel_rfl))) fun a S=>Hi 7 (by kernel_rfl) rfl (Ft S (S.tm rfl) (S.tm rfl) (i:=0) (off:=0) rfl sizeOf49 (vs:=[iV (W (Int.tdiv Ah x2)),iV (W (Int.tdiv Aj x2))]) rfl rfl rfl rfl ?_);clear S;intro w6 hk4 S
 refine Ld (It hk4 (Xy (by kernel_rfl) ?_))
 clear hsel
 replace S:=(S.nl [.blk b1 [iV (W (Int.tdiv Ah x2)),iV (W (Int.tdiv Aj x2))] 49] [true] rfl).k1 4 rfl
 refine Tn (wp_ret ?_)
 obtain rfl:=Option.some.inj h
 exact Wh S (rs:=[.cell 4 49]) (vs:=[.agg #[iV (W (Int.tdiv Ah x2)),iV (W (Int.tdiv Aj x2))]]) results153 ⟨(Qy (off:=0) S rfl isAgg49 sizeOf49 rfl (S.cellsAt (i:=0) rfl)),trivial⟩ rfl rfl
set_option maxRecDepth 20000 in
theorem KG (w : World) (Ax : Nh) (Cl : R28) (Ct : Zp (view w []) Ax Cl) (Ab : Value) (Ad : List Eh) (Ae : Slc (view w []) 5 Ab (Ad.map Eh.enc)) (r : (List En)) (h : Yp Ax Ad = some r) :
    Calls prog 130 [.agg (R28.enc Cl).toArray,Ab].toArray w (Ret w [] fun τ v _=>Ve τ 180 7 v r.length (r.flatMap En.enc)):=by
 obtain ⟨u1,rfl,hs1⟩:=Ct
 refine Fe func130 rfl ntmps130 rfl fun a S=>?_
 unfold Yp at h
 replace S:=S.k2 0 1 rfl
 refine Fr (Mk S (S.tm rfl) (cs:=[u1.val,iV Ax.Relay,iV Ax.Most]) rfl rfl ?_);clear S;intro a w1 b1 hz1 hk1 S
 refine Vk S rfl rfl fun a S=>Dz (Vk S rfl rfl ?_);clear S;intro a S
 replace S:=S.nil 180 7
 refine Dz (Vk S rfl rfl ?_);clear S;intro a S
 replace S:=S.nil 3 1
 refine Dz (Sf (κ:=ByteArray) (ν:=Int) S rfl Value.string (Value.int .i64) ?_);clear S;intro a w2 b2 hz2 hk2 S
 refine Va S rfl rfl fun a S=>Dl (Fs (Fr (Vm S rfl rfl fun a S=>lv S (Gn Oo (S.tm rfl) (Gk Ae)) rfl fun a S=>lv S (Rm rfl) rfl fun a S=>Dl ?_)))
 replace S:=(S.nl [.map b2 (Gx Value.string (Value.int .i64) ([] : List (ByteArray × Int))) ([] : List (ByteArray × Int)).length,.own (.slice none 0 0) 3 1 ([] : List Int).length (([] : List Int).flatMap eInt),.own (.slice none 0 0) 180 7 ([] : List En).length (([] : List En).flatMap En.enc),.blk b1 [u1.val,iV Ax.Relay,iV Ax.Most] 28] [true,true,true,true] rfl).k8 1 2 5 6 7 16 17 18 rfl
 obtain ⟨j1,hj1,h⟩:=Fk h
 refine Fa (fun a w'=>∃ x1 : List (ByteArray × Int),∃ x2 : List Int,∃ x3 : List En,∃ v1 : Value,∃ v2 : Value,j1 x1 x2 x3 = some r ∧ Sx w [] nov [.map b2 (Gx Value.string (Value.int .i64) x1) x1.length,.own v1 3 1 x2.length (x2.flatMap eInt),.own v2 180 7 x3.length (x3.flatMap En.enc),.blk b1 [u1.val,iV Ax.Relay,iV Ax.Most] 28] [(1,Ab),(2,.pointer (some ⟨b1,0,none⟩)),(5,v2),(6,v1)] 132 a w') ?_ ?_
 ·refine wp_block (Hs (fun (ys1 : List Eh) a w'=>∃ i1 : Nat,∃ x1 : List (ByteArray × Int),∃ x2 : List Int,∃ x3 : List En,∃ v1 : Value,∃ v2 : Value,(∃ dn,Ad = dn ++ ys1 ∧ dn.length = i1) ∧ Ob Ax j1 ys1 i1 x1 x2 x3 = some r ∧ Sx w [] nov [.map b2 (Gx Value.string (Value.int .i64) x1) x1.length,.own v1 3 1 x2.length (x2.flatMap eInt),.own v2 180 7 x3.length (x3.flatMap En.enc),.blk b1 [u1.val,iV Ax.Relay,iV Ax.Most] 28] [(1,Ab),(2,.pointer (some ⟨b1,0,none⟩)),(5,v2),(6,v1),(7,.map (some b2)),(16,Ab),(17,iV (Ad.length : Int)),(18,iV (i1 : Int))] 132 a w') List.length Ad ⟨0,([] : List (ByteArray × Int)),([] : List Int),([] : List En),(.slice none 0 0),(.slice none 0 0),⟨[],rfl,rfl⟩,h,S.nf [true,true,true,true] rfl (subR rfl)⟩ ?_)
  clear S h;rintro ys1 a w3 ⟨i1,x1,x2,x3,v1,v2,⟨dn,hd1,hi1⟩,h,S⟩
  cases ys1 with
  | nil =>
   rw [Ob.eq_1] at h
   refine Fr (Vb S Fp rfl rfl rfl fun a S=>Ld ?_)
   replace S:=S.k9 1 2 5 6 7 16 17 18 19 rfl
   exact Tn (Fs (wp_cond_false ((S.tm rfl).trans (congrArg Value.bool (Jq hd1 hi1))) (wp_exit (Ew (Ew (Hl (Tn (⟨x1,x2,x3,v1,v2,h,S.nf [true,true,true,true] rfl (subR rfl)⟩))))))))
  | cons y1 ys1 =>
   rw [Ob.eq_2] at h
   refine Fr (Vb S Fp rfl rfl rfl fun a S=>Ld ?_)
   replace S:=S.k9 1 2 5 6 7 16 17 18 19 rfl
   refine Tn (Fs (wp_cond_true ((S.tm rfl).trans (congrArg Value.bool (Iv hd1 hi1))) (wp_skip (Tn (Fs ?_)))))
   obtain ⟨j2,hj2,h⟩:=Fk h
   refine Fa (fun a w'=>∃ x4 : List (ByteArray × Int),∃ x5 : List Int,∃ x6 : List En,∃ v3 : Value,∃ v4 : Value,j2 x4 x5 x6 = some r ∧ Sx w [] nov [.map b2 (Gx Value.string (Value.int .i64) x4) x4.length,.own v3 3 1 x5.length (x5.flatMap eInt),.own v4 180 7 x6.length (x6.flatMap En.enc),.blk b1 [u1.val,iV Ax.Relay,iV Ax.Most] 28] [(1,Ab),(2,.pointer (some ⟨b1,0,none⟩)),(5,v4),(6,v3),(7,.map (some b2)),(16,Ab),(17,iV (Ad.length : Int)),(18,iV (i1 : Int))] 132 a w') ?_ ?_
   ·refine wp_block (Fs (Fg ?_))
    obtain ⟨b3,o1,hm1,hr1⟩:=Fv (a:=a) (x:=.tmp 16) (y:=.tmp 18) (ty:=0) Oo Ae (Js hd1 hi1) rfl (S.tm rfl) (S.tm rfl)
    refine lv S (hr1 _) rfl ?_;clear S;intro a S
    clear hr1
    refine lv S (Gh isAgg120 sizeOf120 (off:=o1) (o:=0) (part:=(Eh.enc y1)) rfl rfl (S.tm rfl) (hm1.at S.emb0)) rfl fun a S=>Iz S zeroValue120 (cs:=[sV An,sV An,sV An,iV 0,bV false]) rfl rfl ?_;clear S;intro a w6 b4 hz3 hk3 S
    refine Ft S (S.tm rfl) (S.tm rfl) (i:=0) (off:=0) rfl sizeOf120 (vs:=(Eh.enc y1)) rfl rfl rfl rfl ?_;clear S;intro w7 hk4 S
    refine Dl (Fs (Fr (Vf Ot S rfl rfl fun a S=>Vl isAgg3 0 S rfl rfl rfl rfl fun a S=>Vq S Jn rfl rfl rfl fun a S=>Vm S rfl rfl fun a S=>Io 4 (fun a w'=>Keep [] w7 w' ∧ Sx w [] nov [.blk b4 (Eh.enc y1) 120,.map b2 (Gx Value.string (Value.int .i64) x1) x1.length,.own v1 3 1 x2.length (x2.flatMap eInt),.own v2 180 7 x3.length (x3.flatMap En.enc),.blk b1 [u1.val,iV Ax.Relay,iV Ax.Most] 28] [(1,Ab),(2,.pointer (some ⟨b1,0,none⟩)),(5,v2),(6,v1),(7,.map (some b2)),(9,.pointer (some ⟨b4,0,none⟩)),(16,Ab),(17,iV (Ad.length : Int)),(18,iV (i1 : Int)),(29,bV ((decide (y1.Rank = 0)) || (decide (y1.Club = An))))] 132 a w') ?_ ?_)))
    ·rcases Bool.eq_false_or_eq_true (decide (y1.Rank = 0)) with hb1 | hb1
     ·iterate 3 (refine Hk S rfl rfl rfl (Ng hb1) rfl ?_ rfl;clear S;intro a S)
      exact lv S (Lk (decide (y1.Club = An)) hb1 (S.tm rfl) rfl) rfl fun a S=>Dl (⟨Keep.refl _ _,S.nf [true,true,true,true,true] rfl (subR rfl)⟩)
     ·exact Em S rfl rfl rfl hb1 (Vf DF S rfl rfl fun a S=>Em S rfl rfl rfl hb1 (Vl isAgg9 0 S rfl rfl rfl rfl fun a S=>Em S rfl rfl rfl hb1 (Vq S Wv rfl rfl rfl fun a S=>lv S (Ll hb1 (S.tm rfl) (S.tm rfl)) rfl fun a S=>Dl (⟨Keep.refl _ _,S.nf [true,true,true,true,true] rfl (subR rfl)⟩))))
    clear S;rintro a w8 ⟨hk5,S⟩
    refine Dl (Fc h (S.tm rfl) (fun hb2 h=>?_) (fun hb2 h=>?_))
    ·exact wp_exit (Ew (Hl (Tn (⟨x1,x2,x3,v1,v2,h,S.nf [false,true,true,true,true] rfl (subR rfl)⟩))))
    ·refine wp_skip (Tn (Fs (Fr (Vm S rfl rfl fun a S=>Vf DF S rfl rfl fun a S=>Vl isAgg9 0 S rfl rfl rfl rfl fun a S=>lv S (Qu (kv:=Value.string) (vv:=(Value.int .i64)) (m:=x1) (key:=y1.Club) (z:=0) (S.map_at (i:=1) rfl) underlying98 (Nu underlying9) zeroValue3 (S.tm rfl) (S.tm rfl)) rfl fun a S=>Vq S Gw rfl rfl rfl fun a S=>Qa (kv:=Value.string) (vv:=(Value.int .i64)) (m:=x1) (key:=y1.Club) (val:=W ((Et x1 y1.Club 0) + 1)) S (i:=1) rfl underlying98 (Nu underlying9) (S.tm rfl) (S.tm rfl) (S.tm rfl) ?_))));clear S;intro w9 hk6 S
     refine Ld ?_
     replace S:=(S.nl [.blk b4 (Eh.enc y1) 120,.map b2 (Gx Value.string (Value.int .i64) (Hj x1 y1.Club (W ((Et x1 y1.Club 0) + 1)))) (Hj x1 y1.Club (W ((Et x1 y1.Club 0) + 1))).length,.own v1 3 1 x2.length (x2.flatMap eInt),.own v2 180 7 x3.length (x3.flatMap En.enc),.blk b1 [u1.val,iV Ax.Relay,iV Ax.Most] 28] [true,true,true,true,true] rfl).k9 1 2 5 6 7 9 16 17 18 rfl
     refine Tn (Fr (Vf NW S rfl rfl fun a S=>Vl isAgg3 4 S rfl rfl rfl rfl fun a S=>Vq S Jn rfl rfl rfl fun a S=>Vm S rfl rfl fun a S=>Io 8 (fun a w'=>Keep [] w9 w' ∧ Sx w [] nov [.blk b4 (Eh.enc y1) 120,.map b2 (Gx Value.string (Value.int .i64) (Hj x1 y1.Club (W ((Et x1 y1.Club 0) + 1)))) (Hj x1 y1.Club (W ((Et x1 y1.Club 0) + 1))).length,.own v1 3 1 x2.length (x2.flatMap eInt),.own v2 180 7 x3.length (x3.flatMap En.enc),.blk b1 [u1.val,iV Ax.Relay,iV Ax.Most] 28] [(1,Ab),(2,.pointer (some ⟨b1,0,none⟩)),(5,v2),(6,v1),(7,.map (some b2)),(9,.pointer (some ⟨b4,0,none⟩)),(16,Ab),(17,iV (Ad.length : Int)),(18,iV (i1 : Int)),(46,bV ((decide (Ax.Most = 0)) || (decide ((Et (Hj x1 y1.Club (W ((Et x1 y1.Club 0) + 1))) y1.Club 0) ≤ Ax.Most))))] 132 a w') ?_ ?_))
     ·rcases Bool.eq_false_or_eq_true (decide (Ax.Most = 0)) with hb3 | hb3
      ·iterate 7 (refine Hk S rfl rfl rfl (Ng hb3) rfl ?_ rfl;clear S;intro a S)
       exact lv S (Lk (decide ((Et (Hj x1 y1.Club (W ((Et x1 y1.Club 0) + 1))) y1.Club 0) ≤ Ax.Most)) hb3 (S.tm rfl) rfl) rfl fun a S=>Dl (⟨Keep.refl _ _,S.nf [true,true,true,true,true] rfl (subR rfl)⟩)
      ·refine Em S rfl rfl rfl hb3 (Vm S rfl rfl fun a S=>Em S rfl rfl rfl hb3 (Vf DF S rfl rfl fun a S=>Em S rfl rfl rfl hb3 (Vl isAgg9 0 S rfl rfl rfl rfl fun a S=>Em S rfl rfl rfl hb3 (lv S (Qu (kv:=Value.string) (vv:=(Value.int .i64)) (m:=(Hj x1 y1.Club (W ((Et x1 y1.Club 0) + 1)))) (key:=y1.Club) (z:=0) (S.map_at (i:=1) rfl) underlying98 (Nu underlying9) zeroValue3 (S.tm rfl) (S.tm rfl)) rfl fun a S=>Em S rfl rfl rfl hb3 (Vf NW S rfl rfl fun a S=>Em S rfl rfl rfl hb3 ?_)))))
       exact Vl isAgg3 4 S rfl rfl rfl rfl fun a S=>Em S rfl rfl rfl hb3 (Vb S Vd rfl rfl rfl fun a S=>lv S (Ll hb3 (S.tm rfl) (S.tm rfl)) rfl fun a S=>Dl (⟨Keep.refl _ _,S.nf [true,true,true,true,true] rfl (subR rfl)⟩))
     clear S;rintro a w10 ⟨hk7,S⟩
     refine Dl ?_
     obtain ⟨j3,hj3,h⟩:=Fk h
     refine Fa (fun a w'=>∃ x7 : List Int,∃ v5 : Value,j3 x7 = some r ∧ Sx w [] nov [.blk b4 (Eh.enc y1) 120,.map b2 (Gx Value.string (Value.int .i64) (Hj x1 y1.Club (W ((Et x1 y1.Club 0) + 1)))) (Hj x1 y1.Club (W ((Et x1 y1.Club 0) + 1))).length,.own v5 3 1 x7.length (x7.flatMap eInt),.own v2 180 7 x3.length (x3.flatMap En.enc),.blk b1 [u1.val,iV Ax.Relay,iV Ax.Most] 28] [(1,Ab),(2,.pointer (some ⟨b1,0,none⟩)),(5,v2),(6,v5),(7,.map (some b2)),(9,.pointer (some ⟨b4,0,none⟩)),(16,Ab),(17,iV (Ad.length : Int)),(18,iV (i1 : Int))] 132 a w') ?_ ?_
     ·refine Fc h (S.tm rfl) (fun hb4 h=>?_) (fun hb4 h=>?_)
      ·refine Fg (Vm S rfl rfl fun a S=>Vm S rfl rfl fun a S=>lv S (Gn DC (S.tm rfl) (Qb (S.own_at (i:=3) rfl))) rfl fun a S=>Fq S underlying22 sizeOf3 zeroValue3 rfl rfl (pv:=[(0,iV (x3.length : Int))]) ⟨rfl,(S.tm rfl),trivial⟩ (cs:=[iV (x3.length : Int)]) (by kernel_rfl) rfl ?_);clear S;intro a w12 b5 hz4 hk8 S
       obtain ⟨hc1,h⟩:=Jc h
       refine Np Qh Ju S (S.tm rfl) (i:=3) rfl (S.tm rfl) (j:=0) rfl (ys:=[(x3.length : Int)]) rfl rfl rfl rfl (by have:=Nx hc1;omega) rfl ?_;clear S;intro v6 a w13 hk9 S
       refine Va S rfl rfl fun a S=>Ld ?_
       replace S:=(S.nl [.blk b4 (Eh.enc y1) 120,.map b2 (Gx Value.string (Value.int .i64) (Hj x1 y1.Club (W ((Et x1 y1.Club 0) + 1)))) (Hj x1 y1.Club (W ((Et x1 y1.Club 0) + 1))).length,.own v6 3 1 (x2 ++ [(x3.length : Int)]).length ((x2 ++ [(x3.length : Int)]).flatMap eInt),.own v2 180 7 x3.length (x3.flatMap En.enc),.blk b1 [u1.val,iV Ax.Relay,iV Ax.Most] 28] [false,true,true,true,true,true] rfl).k9 1 2 5 6 7 9 16 17 18 rfl
       exact Tn (⟨(x2 ++ [(x3.length : Int)]),v6,h,S.nf [true,true,true,true,true] rfl (subR rfl)⟩)
      ·exact wp_skip (Tn (⟨x2,v1,h,S.nf [true,true,true,true,true] rfl (subR rfl)⟩))
     clear S h;rintro a w11 ⟨x7,v5,h,S⟩;rw [hj3] at h;clear hj3 j3
     refine Tn ?_
     obtain ⟨hc2,h⟩:=Jc h
     refine Hd [] (v2.ownBlock.toList) Tryz.mixed S rfl (by kernel_rfl) ?_;clear S;intro w17 hk13 hsel S
     refine Eo 0 S hsel rfl rfl rfl (by kernel_rfl) (by kernel_rfl) rfl (fun _ hw=>(Rm (S.tm rfl))) fun a S=>Eo 1 S hsel rfl rfl rfl (by kernel_rfl) (by kernel_rfl) rfl (fun _ hw=>(Gh isAgg120 sizeOf120 (off:=0) (o:=0) (part:=(Eh.enc y1)) rfl rfl (S.tm rfl) ((S.blk_mem (i:=0) (cells:=(Eh.enc y1)) (b:=b4) (T:=120) rfl (Nf (i:=3) (j:=0) (e:=.own v2 180 7 x3.length (x3.flatMap En.enc)) (e':=.blk b4 (Eh.enc y1) 120) S rfl rfl rfl)).kept hw))) fun a S=>Hi 2 (by kernel_rfl) rfl (Er S (fun _=>Ei (vs:=[]) trivial call152) (KF _ _ rfl) rfl ?_);clear S;intro v9 a w18 hv2 hk14 hn2 S
     subst hv2
     refine Ld (It (Keep.none hk14) (Eo 3 S hsel rfl rfl rfl (by kernel_rfl) (by kernel_rfl) rfl (fun _ hw=>(Nc bt_180 (pv:=[(0,.agg (Eh.enc y1).toArray),(1,.agg (Fo.enc Me).toArray)]) ⟨rfl,(S.tm rfl),rfl,(S.tm rfl),trivial⟩ (cs:=[sV y1.Race,sV y1.Who,sV y1.Club,iV y1.Rank,bV y1.Relay,iV Me.Num,iV Me.Den]) (by kernel_rfl))) fun a S=>Hi 4 (by kernel_rfl) rfl (Fq S underlying177 sizeOf180 zeroValue180 rfl rfl (pv:=[(0,.agg (En.enc (En.mk y1 Me)).toArray)]) ⟨rfl,(S.tm rfl),trivial⟩ (cs:=[sV y1.Race,sV y1.Who,sV y1.Club,iV y1.Rank,bV y1.Relay,iV Me.Num,iV Me.Den]) (by kernel_rfl) rfl ?_)));clear S;intro a w19 b7 hz6 hk15 S
     refine Ld (It (Keep.none hk15) (Hi 5 (by kernel_rfl) rfl ?_))
     refine Np DC En.enc_ok S (S.tm rfl) (i:=4) rfl (S.tm rfl) (j:=0) rfl (ys:=[(En.mk y1 Me)]) rfl rfl rfl rfl (by have:=Nx hc2;omega) rfl ?_;clear S;intro v10 a w20 hk16 S
     refine Ld (It hk16 (Kt [6] hsel (by kernel_rfl) rfl ?_))
     clear hsel
     refine Gv S rfl (Ra (S.tm rfl)) rfl fun a S=>Jb ?_
     replace S:=(S.nl [.map b2 (Gx Value.string (Value.int .i64) (Hj x1 y1.Club (W ((Et x1 y1.Club 0) + 1)))) (Hj x1 y1.Club (W ((Et x1 y1.Club 0) + 1))).length,.own v5 3 1 x7.length (x7.flatMap eInt),.own v10 180 7 (x3 ++ [(En.mk y1 Me)]).length ((x3 ++ [(En.mk y1 Me)]).flatMap En.enc),.blk b1 [u1.val,iV Ax.Relay,iV Ax.Most] 28] [false,false,true,true,true,true] rfl).k8 1 2 5 6 7 16 17 18 rfl
     exact Im (Tn (⟨(Hj x1 y1.Club (W ((Et x1 y1.Club 0) + 1))),x7,(x3 ++ [(En.mk y1 Me)]),v5,v10,h,S.nf [true,true,true,true] rfl (subR rfl)⟩))
   clear S h;rintro a w5 ⟨x4,x5,x6,v3,v4,h,S⟩;rw [hj2] at h;clear hj2 j2
   exact Tn (Fg (Vq S Gw rfl rfl rfl fun a S=>Vm S rfl rfl fun a S=>Dl (⟨ys1,⟨i1 + 1,x4,x5,x6,v3,v4,⟨_,(hd1).trans (List.append_cons _ _ _),by simp [hi1]⟩,h,S.nf [true,true,true,true] rfl ⟨rfl,rfl,rfl,rfl,rfl,rfl,rfl,(congrArg (fun z=>some (Value.int .i64 z)) (Iw hd1 hi1 (Kh Ae))),trivial⟩⟩,Nat.lt_succ_self _⟩)))
 clear S h;rintro a w4 ⟨x1,x2,x3,v1,v2,h,S⟩;rw [hj1] at h;clear hj1 j1
 refine Tn (Fs (Fr (Vk S rfl rfl fun a S=>Dl ?_)))
 replace S:=S.d0.k5 1 2 5 6 10 rfl
 obtain ⟨j4,hj4,h⟩:=Fk h
 refine Fa (fun a w'=>∃ x8 : List En,∃ v11 : Value,j4 x8 = some r ∧ Sx w [] nov [.own v1 3 1 x2.length (x2.flatMap eInt),.own v11 180 7 x8.length (x8.flatMap En.enc),.blk b1 [u1.val,iV Ax.Relay,iV Ax.Most] 28] [(5,v11)] 132 a w') ?_ ?_
 ·refine wp_block (Hs (fun (m1 : Nat) a w'=>∃ x8 : List En,∃ x9 : Int,∃ v11 : Value,Lj x2 Ad Ax j4 m1 x8 x9 = some r ∧ Sx w [] nov [.own v1 3 1 x2.length (x2.flatMap eInt),.own v11 180 7 x8.length (x8.flatMap En.enc),.blk b1 [u1.val,iV Ax.Relay,iV Ax.Most] 28] [(1,Ab),(2,.pointer (some ⟨b1,0,none⟩)),(5,v11),(6,v1),(10,iV x9)] 132 a w') id (((x2.length : Int) - 0).toNat + 2) ⟨x3,0,v2,h,S.nf [true,true,true] rfl (subR rfl)⟩ ?_)
  clear S h;rintro m1 a w21 ⟨x8,x9,v11,h,S⟩
  cases m1 with
  | zero=>rw [Lj.eq_1] at h;cases h
  | succ m1 =>
   rw [Lj.eq_2] at h
   refine Fs (Fr (Vm S rfl rfl fun a S=>Vm S rfl rfl fun a S=>lv S (Gn Qh (S.tm rfl) (Qb (S.own_at (i:=0) rfl))) rfl fun a S=>Vb S Fp rfl rfl rfl fun a S=>Dl (Fc h (S.tm rfl) (fun hb5 h=>?_) (fun hb5 h=>?_))))
   ·refine wp_skip (Tn (wp_block (Fr (Vm S rfl rfl fun a S=>Va S rfl rfl fun a S=>Vk S rfl rfl fun a S=>Dl (Fs ?_)))))
    replace S:=S.k7 1 2 5 6 10 11 12 rfl
    obtain ⟨j5,hj5,h⟩:=Fk h
    refine Fa (fun a w'=>∃ x10 : Int,∃ x11 : Int,j5 x10 x11 = some r ∧ Sx w [] nov [.own v1 3 1 x2.length (x2.flatMap eInt),.own v11 180 7 x8.length (x8.flatMap En.enc),.blk b1 [u1.val,iV Ax.Relay,iV Ax.Most] 28] [(1,Ab),(2,.pointer (some ⟨b1,0,none⟩)),(5,v11),(6,v1),(10,iV x9),(11,iV x10),(12,iV x11)] 132 a w') ?_ ?_
    ·refine wp_block (Hs (fun (m2 : Nat) a w'=>∃ x10 : Int,∃ x11 : Int,Oc Ax x2 x8 x9 j5 m2 x10 x11 = some r ∧ Sx w [] nov [.own v1 3 1 x2.length (x2.flatMap eInt),.own v11 180 7 x8.length (x8.flatMap En.enc),.blk b1 [u1.val,iV Ax.Relay,iV Ax.Most] 28] [(1,Ab),(2,.pointer (some ⟨b1,0,none⟩)),(5,v11),(6,v1),(10,iV x9),(11,iV x10),(12,iV x11)] 132 a w') id (((x2.length : Int) - x9).toNat + 2) ⟨x9,0,h,S.nf [true,true,true] rfl (subR rfl)⟩ ?_)
     clear S h;rintro m2 a w23 ⟨x10,x11,h,S⟩
     cases m2 with
     | zero=>rw [Oc.eq_1] at h;cases h
     | succ m2 =>
      rw [Oc.eq_2] at h
      refine Fs (Fs (Hd [] ([]) Tryz.mixed S rfl (by kernel_rfl) ?_));clear S;intro w25 hk17 hsel S
      refine Kt [0,1,2,3,4,5,6,7,8,9,10,11,12,13,14,15,16,17,18,19,20,21,22,23,24] hsel (by kernel_rfl) rfl ?_
      clear hsel
      refine Gv S rfl (Rm (S.tm rfl)) rfl fun a S=>Gv S rfl (Rm (S.tm rfl)) rfl fun a S=>Gv S rfl (Gn Qh (S.tm rfl) (Qb (S.own_at (i:=0) rfl))) rfl fun a S=>Gv S rfl (Fp (S.tm rfl) (S.tm rfl)) rfl fun a S=>Gv S rfl (Rm (S.tm rfl)) rfl ?_;clear S;intro a S
      obtain ⟨j6,hj6,h⟩:=Fk h
      refine Zn 20 (fun a w'=>∃ c1,j6 c1 = some r ∧ Keep [] w25 w' ∧ Sx w [] nov [.own v1 3 1 x2.length (x2.flatMap eInt),.own v11 180 7 x8.length (x8.flatMap En.enc),.blk b1 [u1.val,iV Ax.Relay,iV Ax.Most] 28] [(1,Ab),(2,.pointer (some ⟨b1,0,none⟩)),(5,v11),(6,v1),(10,iV x9),(11,iV x10),(12,iV x11),(88,bV c1)] 132 a w') ?_ ?_
      ·rcases Bool.eq_false_or_eq_true (decide (x10 < (x2.length : Int))) with hb6 | hb6
       ·replace h:=Rz h hb6
        refine Fx S rfl rfl rfl rfl hb6 (He S (Rm (S.tm rfl)) rfl fun a S=>Fx S rfl rfl rfl rfl hb6 (He S (Rm (S.tm rfl)) rfl fun a S=>Fx S rfl rfl rfl rfl hb6 (He S (Rm (S.tm rfl)) rfl fun a S=>Fx S rfl rfl rfl rfl hb6 ?_)))
        obtain ⟨hc3,h⟩:=Jc h
        obtain ⟨b8,hg1,hr2⟩:=Hy (a:=a) (x:=.tmp 70) (y:=.tmp 71) (ty:=0) Qh Ju S (i:=0) rfl (Es hc3).1 (Es hc3).2 (S.tm rfl) (S.tm rfl)
        refine He S (hr2 _) rfl ?_;clear S;intro a S
        clear hr2
        refine Fx S rfl rfl rfl rfl hb6 (He S (Hw isAgg3 (off:=x10.toNat * 1) (o:=0) (S.tm rfl) (Up Ju S (i:=0) rfl hg1 (Es hc3).1) rfl) rfl fun a S=>Fx S rfl rfl rfl rfl hb6 ?_)
        obtain ⟨hc4,h⟩:=Jc h
        obtain ⟨b9,hg2,hr3⟩:=Hy (a:=a) (x:=.tmp 69) (y:=.tmp 73) (ty:=0) DC En.enc_ok S (i:=1) rfl (Es hc4).1 (Es hc4).2 (S.tm rfl) (S.tm rfl)
        refine He S (hr3 _) rfl ?_;clear S;intro a S
        clear hr3
        refine Fx S rfl rfl rfl rfl hb6 (He S (Gb GJ (S.tm rfl)) rfl fun a S=>Fx S rfl rfl rfl rfl hb6 (He S (Gb Ot (S.tm rfl)) rfl fun a S=>Fx S rfl rfl rfl rfl hb6 (He S (Hw isAgg3 (off:=((nth x2 x10).toNat) * 7) (o:=3) (S.tm rfl) (Up En.enc_ok S (i:=1) rfl hg2 (Es hc4).1) rfl) rfl fun a S=>Fx S rfl rfl rfl rfl hb6 (He S (Rm (S.tm rfl)) rfl fun a S=>Fx S rfl rfl rfl rfl hb6 (He S (Rm (S.tm rfl)) rfl fun a S=>Fx S rfl rfl rfl rfl hb6 ?_)))))
        refine He S (Rm (S.tm rfl)) rfl fun a S=>Fx S rfl rfl rfl rfl hb6 ?_
        obtain ⟨hc5,h⟩:=Jc h
        obtain ⟨b10,hg3,hr4⟩:=Hy (a:=a) (x:=.tmp 79) (y:=.tmp 80) (ty:=0) Qh Ju S (i:=0) rfl (Es hc5).1 (Es hc5).2 (S.tm rfl) (S.tm rfl)
        refine He S (hr4 _) rfl ?_;clear S;intro a S
        clear hr4
        refine Fx S rfl rfl rfl rfl hb6 (He S (Hw isAgg3 (off:=x9.toNat * 1) (o:=0) (S.tm rfl) (Up Ju S (i:=0) rfl hg3 (Es hc5).1) rfl) rfl fun a S=>Fx S rfl rfl rfl rfl hb6 ?_)
        obtain ⟨hc6,h⟩:=Jc h
        obtain ⟨b11,hg4,hr5⟩:=Hy (a:=a) (x:=.tmp 78) (y:=.tmp 82) (ty:=0) DC En.enc_ok S (i:=1) rfl (Es hc6).1 (Es hc6).2 (S.tm rfl) (S.tm rfl)
        refine He S (hr5 _) rfl ?_;clear S;intro a S
        clear hr5
        exact Fx S rfl rfl rfl rfl hb6 (He S (Gb GJ (S.tm rfl)) rfl fun a S=>Fx S rfl rfl rfl rfl hb6 (He S (Gb Ot (S.tm rfl)) rfl fun a S=>Fx S rfl rfl rfl rfl hb6 (He S (Hw isAgg3 (off:=((nth x2 x9).toNat) * 7) (o:=3) (S.tm rfl) (Up En.enc_ok S (i:=1) rfl hg4 (Es hc6).1) rfl) rfl fun a S=>Fx S rfl rfl rfl rfl hb6 (He S (Jn (S.tm rfl) (S.tm rfl)) rfl fun a S=>Gv S rfl (Ii hb6 (S.tm rfl) (S.tm rfl)) rfl fun a S=>Jb (⟨_,h,Keep.refl _ _,S.nf [true,true,true] rfl (subR rfl)⟩)))))
       ·replace h:=Sa h hb6
        iterate 19 (refine Qo S rfl rfl rfl rfl (Ka hb6) rfl ?_ rfl;clear S;intro a S)
        exact Gv S rfl (Ij true hb6 (S.tm rfl) rfl) rfl fun a S=>Jb (⟨_,h,Keep.refl _ _,S.nf [true,true,true] rfl (subR rfl)⟩)
      clear S h;rintro a w26 ⟨c1,h,hk18,S⟩;rw [hj6] at h;clear hj6 j6
      refine Jb ?_
      replace S:=S.k8 1 2 5 6 10 11 12 88 rfl
      refine Tn (Fc h (S.tm rfl) (fun hb7 h=>?_) (fun hb7 h=>?_))
      ·refine wp_skip (Tn (Fs ?_))
       obtain ⟨j7,hj7,h⟩:=Fk h
       refine Fa (fun a w'=>∃ x12 : Int,j7 x12 = some r ∧ Sx w [] nov [.own v1 3 1 x2.length (x2.flatMap eInt),.own v11 180 7 x8.length (x8.flatMap En.enc),.blk b1 [u1.val,iV Ax.Relay,iV Ax.Most] 28] [(1,Ab),(2,.pointer (some ⟨b1,0,none⟩)),(5,v11),(6,v1),(10,iV x9),(11,iV x10),(12,iV x12)] 132 a w') ?_ ?_
       ·refine wp_block (Fr (Vm S rfl rfl fun a S=>Vf BV S rfl rfl fun a S=>Vl isAgg22 2 S rfl rfl rfl rfl fun a S=>lv S (Gn Qh (S.tm rfl) (Gk hs1)) rfl fun a S=>Vb S Fp rfl rfl rfl fun a S=>Dl ?_))
        obtain ⟨j8,hj8,h⟩:=Fk h
        refine Fa (fun a w'=>∃ x13 : Int,j8 x13 = some r ∧ Sx w [] nov [.own v1 3 1 x2.length (x2.flatMap eInt),.own v11 180 7 x8.length (x8.flatMap En.enc),.blk b1 [u1.val,iV Ax.Relay,iV Ax.Most] 28] [(1,Ab),(2,.pointer (some ⟨b1,0,none⟩)),(5,v11),(6,v1),(10,iV x9),(11,iV x10),(12,iV x13)] 132 a w') ?_ ?_
        ·refine Fc h (S.tm rfl) (fun hb8 h=>?_) (fun hb8 h=>?_)
         ·refine Fg (Vm S rfl rfl fun a S=>Vf BV S rfl rfl fun a S=>Vl isAgg22 2 S rfl rfl rfl rfl fun a S=>Vm S rfl rfl ?_);clear S;intro a S
          obtain ⟨hc7,h⟩:=Jc h
          obtain ⟨b12,o6,hm6,hr6⟩:=Fv (a:=a) (x:=.tmp 98) (y:=.tmp 99) (ty:=0) Qh hs1 (Es hc7).1 (Es hc7).2 (S.tm rfl) (S.tm rfl)
          refine lv S (hr6 _) rfl ?_;clear S;intro a S
          clear hr6
          refine lv S (Hw isAgg3 (off:=o6) (o:=0) (S.tm rfl) (hm6.at S.emb0) rfl) rfl fun a S=>Vb S Gw rfl rfl rfl fun a S=>Va S rfl rfl fun a S=>Ld ?_
          replace S:=S.k7 1 2 5 6 10 11 12 rfl
          exact Tn (⟨W (x11 + (nth Ax.Points x10)),h,S.nf [true,true,true] rfl (subR rfl)⟩)
         ·exact wp_skip (Tn (⟨x11,h,S.nf [true,true,true] rfl (subR rfl)⟩))
        clear S h;rintro a w28 ⟨x13,h,S⟩;rw [hj8] at h;clear hj8 j8
        exact Im (Tn (⟨x13,h,S.nf [true,true,true] rfl (subR rfl)⟩))
       clear S h;rintro a w27 ⟨x12,h,S⟩;rw [hj7] at h;clear hj7 j7
       exact Tn (Fg (Vm S rfl rfl fun a S=>Vq S Gw rfl rfl rfl fun a S=>Va S rfl rfl fun a S=>Dl (⟨m2,⟨W (x10 + 1),x12,h,S.nf [true,true,true] rfl ⟨rfl,rfl,rfl,rfl,rfl,rfl,rfl,trivial⟩⟩,Nat.lt_succ_self _⟩)))
      ·exact wp_exit (Ew (Ew (Hl (Tn (⟨x10,x11,h,S.nf [true,true,true] rfl (subR rfl)⟩)))))
    clear S h;rintro a w24 ⟨x10,x11,h,S⟩;rw [hj5] at h;clear hj5 j5
    refine Tn (Fs (Fr (Vm S rfl rfl ?_)));clear S;intro a S
    obtain ⟨hc8,h⟩:=Jc h
    obtain ⟨b13,o7,hm7,hr7⟩:=Fv (a:=a) (x:=.tmp 103) (y:=.const (iV 0)) (ty:=0) Oo Ae (Es hc8).1 (Es hc8).2 (S.tm rfl) rfl
    refine lv S (hr7 _) rfl ?_;clear S;intro a S
    clear hr7
    refine Vf JZ S rfl rfl fun a S=>lv S (Hw isAgg4 (off:=o7) (o:=4) (S.tm rfl) (hm7.at S.emb0) rfl) rfl fun a S=>Dl ?_
    obtain ⟨j9,hj9,h⟩:=Fk h
    refine Fa (fun a w'=>∃ x14 : Int,j9 x14 = some r ∧ Sx w [] nov [.own v1 3 1 x2.length (x2.flatMap eInt),.own v11 180 7 x8.length (x8.flatMap En.enc),.blk b1 [u1.val,iV Ax.Relay,iV Ax.Most] 28] [(1,Ab),(2,.pointer (some ⟨b1,0,none⟩)),(5,v11),(6,v1),(10,iV x9),(11,iV x10),(12,iV x14)] 132 a w') ?_ ?_
    ·refine Fc h (S.tm rfl) (fun hb9 h=>?_) (fun hb9 h=>?_)
     ·refine Fg (Vm S rfl rfl fun a S=>Vf SY S rfl rfl fun a S=>Vl isAgg3 2 S rfl rfl rfl rfl fun a S=>Vb S AI rfl rfl rfl fun a S=>Va S rfl rfl fun a S=>Ld ?_)
      replace S:=S.k7 1 2 5 6 10 11 12 rfl
      exact Tn (⟨W (x11 * Ax.Relay),h,S.nf [true,true,true] rfl (subR rfl)⟩)
     ·exact wp_skip (Tn (⟨x11,h,S.nf [true,true,true] rfl (subR rfl)⟩))
    clear S h;rintro a w29 ⟨x14,h,S⟩;rw [hj9] at h;clear hj9 j9
    refine Tn (Fs (Fs (Fg ?_)))
    iterate 3 (refine Vm S rfl rfl ?_;clear S;intro a S)
    obtain ⟨hc9,h⟩:=Jc h
    obtain ⟨u2,hu1,hr8⟩:=rn_sub2 (a:=a) (x:=.tmp 111) (y:=.tmp 112) (y':=.tmp 113) (ty:=22) Qh S (i:=0) rfl (S.tm rfl) (S.tm rfl) (S.tm rfl) hc9
    refine lv S (hr8 _) rfl ?_;clear S;intro a S
    clear hr8
    refine lv S (Gn Qh (S.tm rfl) (subLen hu1)) rfl fun a S=>lv S (Rm rfl) rfl fun a S=>Dl ?_
    replace S:=S.k10 1 2 5 6 10 11 12 114 115 116 rfl
    obtain ⟨j10,hj10,h⟩:=Fk h
    refine Fa (fun a w'=>∃ x15 : List En,∃ v12 : Value,j10 x15 = some r ∧ Sx w [] nov [.own v1 3 1 x2.length (x2.flatMap eInt),.own v12 180 7 x15.length (x15.flatMap En.enc),.blk b1 [u1.val,iV Ax.Relay,iV Ax.Most] 28] [(1,Ab),(2,.pointer (some ⟨b1,0,none⟩)),(5,v12),(6,v1),(11,iV x10)] 132 a w') ?_ ?_
    ·refine wp_block (Hs (fun (m3 : Nat) a w'=>∃ x15 : List En,∃ x16 : Int,∃ v12 : Value,Mo x10 x9 x14 x2 j10 m3 x15 x16 = some r ∧ Sx w [] nov [.own v1 3 1 x2.length (x2.flatMap eInt),.own v12 180 7 x15.length (x15.flatMap En.enc),.blk b1 [u1.val,iV Ax.Relay,iV Ax.Most] 28] [(1,Ab),(2,.pointer (some ⟨b1,0,none⟩)),(5,v12),(6,v1),(10,iV x9),(11,iV x10),(12,iV x14),(114,u2),(115,iV ((x10.toNat - x9.toNat : Nat) : Int)),(116,iV x16)] 132 a w') id ((((x10.toNat - x9.toNat : Nat) : Int) - 0).toNat + 2) ⟨x8,0,v11,h,S.nf [true,true,true] rfl (subR rfl)⟩ ?_)
     clear S h;rintro m3 a w30 ⟨x15,x16,v12,h,S⟩
     cases m3 with
     | zero=>rw [Mo.eq_1] at h;cases h
     | succ m3 =>
      rw [Mo.eq_2] at h
      refine Fr (Vb S Fp rfl rfl rfl fun a S=>Dl (Fs (Fc h (S.tm rfl) (fun hb10 h=>?_) (fun hb10 h=>?_))))
      ·refine wp_skip (Tn (Fs (wp_block (Fs (Fg ?_)))))
       obtain ⟨hc10,h⟩:=Jc h
       have hj11:=(sub_get (WX S (i:=0) rfl hu1) hc10).1
       obtain ⟨b14,hg5,hr9⟩:=PK (a:=a) (x:=.tmp 114) (y:=.tmp 116) (ty:=0) Qh Ju S (i:=0) rfl hu1 hc10 (S.tm rfl) (S.tm rfl)
       refine lv S (hr9 _) rfl ?_;clear S;intro a S
       clear hr9
       refine lv S (Hw isAgg3 (off:=(x9.toNat + x16.toNat) * 1) (o:=0) (S.tm rfl) (Up Ju S (i:=0) rfl hg5 hj11) rfl) rfl fun a S=>Va S rfl rfl fun a S=>Dl (Fg ?_)
       iterate 5 (refine Vm S rfl rfl ?_;clear S;intro a S)
       refine Vb S Jt rfl rfl rfl ?_;clear S;intro a S
       obtain ⟨r1,hr10,h⟩:=Ga h
       refine Er S (fun _=>Ei (vs:=[iV x14,iV (W (x10 - x9))]) ⟨(S.tm rfl),(S.tm rfl),trivial⟩ call153) (GO _ x14 (W (x10 - x9)) _ hr10) rfl ?_;clear S;intro v13 a w32 hv3 hk19 hn3 S
       subst hv3
       obtain ⟨hc11,h⟩:=Jc h
       obtain ⟨b15,hg6,hr11⟩:=Hy (a:=a) (x:=.tmp 120) (y:=.tmp 121) (ty:=0) DC En.enc_ok S (i:=1) rfl (Es hc11).1 (Es hc11).2 (S.tm rfl) (S.tm rfl)
       refine lv S (hr11 _) rfl ?_;clear S;intro a S
       clear hr11
       refine Vf PS S rfl rfl fun a S=>Qn (c:=5) (j:=(nth (cut x2 x9 x10) x16).toNat) (En.mk ((nth x15 (nth (cut x2 x9 x10) x16)).x_) r1) En.enc_ok S (S.tm rfl) (S.tm rfl) (i:=1) rfl hg6 (Es hc11).1 sizeOf49 (vs:=[iV r1.Num,iV r1.Den]) rfl rfl rfl rfl rfl ?_;clear S;intro w34 hk21 S
       refine Ld ?_
       replace S:=(S.nl [.own v1 3 1 x2.length (x2.flatMap eInt),.own v12 180 7 (x15.set ((nth (cut x2 x9 x10) x16).toNat) (En.mk ((nth x15 (nth (cut x2 x9 x10) x16)).x_) r1)).length ((x15.set ((nth (cut x2 x9 x10) x16).toNat) (En.mk ((nth x15 (nth (cut x2 x9 x10) x16)).x_) r1)).flatMap En.enc),.blk b1 [u1.val,iV Ax.Relay,iV Ax.Most] 28] [true,true,true] rfl).k10 1 2 5 6 10 11 12 114 115 116 rfl
       exact Im (Tn (Fg (Vq S Gw rfl rfl rfl fun a S=>Vm S rfl rfl fun a S=>Dl (⟨m3,⟨(x15.set ((nth (cut x2 x9 x10) x16).toNat) (En.mk ((nth x15 (nth (cut x2 x9 x10) x16)).x_) r1)),W (x16 + 1),v12,h,S.nf [true,true,true] rfl ⟨rfl,rfl,rfl,rfl,rfl,rfl,rfl,rfl,rfl,rfl,trivial⟩⟩,Nat.lt_succ_self _⟩))))
      ·exact wp_exit (Ew (Ew (Hl (Tn (⟨x15,v12,h,S.nf [true,true,true] rfl (subR rfl)⟩)))))
    clear S h;rintro a w31 ⟨x15,v12,h,S⟩;rw [hj10] at h;clear hj10 j10
    exact Tn (Fg (Vm S rfl rfl fun a S=>Va S rfl rfl fun a S=>Ld (Im (Tn (⟨m1,⟨x15,x10,v12,h,S.nf [true,true,true] rfl ⟨rfl,rfl,rfl,rfl,rfl,trivial⟩⟩,Nat.lt_succ_self _⟩)))))
   ·exact wp_exit (Ew (Ew (Hl (Tn (⟨x8,v11,h,S.nf [true,true,true] rfl ⟨rfl,trivial⟩⟩)))))
 clear S h;rintro a w22 ⟨x8,v11,h,S⟩;rw [hj4] at h;clear hj4 j4
 refine Tn (Fr (Vm S rfl rfl fun a S=>Va S rfl rfl fun a S=>Dl (wp_ret ?_)))
 obtain rfl:=Option.some.inj h
 exact Fd S results130 rfl (Uf S (i:=1) rfl rfl)
theorem KH (w : World) (Ax : Nh) (Cl : R28) (Ct : Zp (view w []) Ax Cl) (Ab : Value) (Ad : List Eh) (Ae : Slc (view w []) 5 Ab (Ad.map Eh.enc)) (r : (List En)) (h : Sk Ax Ad = some r) :
    Calls prog 92 [.agg (R28.enc Cl).toArray,Ab].toArray w (Ret w [] fun τ v _=>Ve τ 180 7 v r.length (r.flatMap En.enc)):=by
 obtain ⟨u1,rfl,hs1⟩:=Ct
 refine Fe func92 rfl ntmps92 rfl fun a S=>?_
 unfold Sk at h
 replace S:=S.k2 0 1 rfl
 refine Fr (Mk S (S.tm rfl) (cs:=[u1.val,iV Ax.Relay,iV Ax.Most]) rfl rfl ?_);clear S;intro a w1 b1 hz1 hk1 S
 refine Vk S rfl rfl fun a S=>Dz (Vk S rfl rfl ?_);clear S;intro a S
 replace S:=S.nil 180 7
 refine Dl (Fs (Fr (Vm S rfl rfl ?_)));clear S;intro a S
 obtain ⟨r1,hr1,h⟩:=Ga h
 have hz2:=S.keep.size
 refine Er S (fun _=>Ei (vs:=[Ab]) ⟨(S.tm rfl),trivial⟩ call129) (CF _ (join (view w []) nov) (Ry (S.le_arg Ez) (S.le_new Ez)) Ab Ad (Ae.mono (le_join_left _ _)) _ hr1) rfl ?_;clear S;intro v1 a w2 hv1 hk2 hn1 S
 obtain ⟨φ1,hl1,hm1,S⟩:=S.see' hn1 hz2
 obtain ⟨rs1,ho2,hr2⟩:=hv1
 have hs2:=ho2.mono (Vi hl1 hm1)
 have hr3:=GB (Vi hl1 hm1) hr2
 refine lv S (Gn BU (S.tm rfl) (Vh hs2 hr3)) rfl fun a S=>lv S (Rm rfl) rfl fun a S=>Dl ?_
 replace S:=(S.nl [.own (.slice none 0 0) 180 7 ([] : List En).length (([] : List En).flatMap En.enc),.blk b1 [u1.val,iV Ax.Relay,iV Ax.Most] 28] [true,true] rfl).k5 2 5 9 10 11 rfl
 obtain ⟨j1,hj1,h⟩:=Fk h
 refine Fa (fun a w'=>∃ x1 : List En,∃ φ2 : View,∃ v2 : Value,j1 x1 = some r ∧ View.le φ1 φ2 ∧ Sx w [] φ2 [.own v2 180 7 x1.length (x1.flatMap En.enc),.blk b1 [u1.val,iV Ax.Relay,iV Ax.Most] 28] [(5,v2)] 22 a w') ?_ ?_
 ·refine wp_block (Hs (fun (ys1 : List (List Eh)) a w'=>∃ i1 : Nat,∃ x1 : List En,∃ φ2 : View,∃ v2 : Value,(∃ dn,r1 = dn ++ ys1 ∧ dn.length = i1) ∧ On Ax j1 ys1 i1 x1 = some r ∧ View.le φ1 φ2 ∧ Sx w [] φ2 [.own v2 180 7 x1.length (x1.flatMap En.enc),.blk b1 [u1.val,iV Ax.Relay,iV Ax.Most] 28] [(2,.pointer (some ⟨b1,0,none⟩)),(5,v2),(9,v1),(10,iV (r1.length : Int)),(11,iV (i1 : Int))] 22 a w') List.length r1 ⟨0,([] : List En),φ1,(.slice none 0 0),⟨[],rfl,rfl⟩,h,View.le_refl _,S.nf [true,true] rfl (subR rfl)⟩ ?_)
  clear S h;rintro ys1 a w3 ⟨i1,x1,φ2,v2,⟨dn,hd1,hi1⟩,h,hl2,S⟩
  cases ys1 with
  | nil =>
   rw [On.eq_1] at h
   refine Fr (Vb S Fp rfl rfl rfl fun a S=>Ld ?_)
   replace S:=S.k6 2 5 9 10 11 12 rfl
   exact Tn (Fs (wp_cond_false ((S.tm rfl).trans (congrArg Value.bool (Jq hd1 hi1))) (wp_exit (Ew (Ew (Hl (Tn (⟨x1,φ2,v2,h,hl2,S.nf [true,true] rfl ⟨rfl,trivial⟩⟩))))))))
  | cons y1 ys1 =>
   rw [On.eq_2] at h
   refine Fr (Vb S Fp rfl rfl rfl fun a S=>Ld ?_)
   replace S:=S.k6 2 5 9 10 11 12 rfl
   refine Tn (Fs (wp_cond_true ((S.tm rfl).trans (congrArg Value.bool (Iv hd1 hi1))) (wp_skip (Tn (Fs (wp_block (Fs (Fg ?_))))))))
   obtain ⟨r2,hg1,hl3⟩:=Lp.at hr3 (Js hd1 hi1)
   have hs3:=hl3
   obtain ⟨b2,o1,hm2,hr4⟩:=Fv (a:=a) (x:=.tmp 9) (y:=.tmp 11) (ty:=0) BU hs2 hg1 rfl (S.tm rfl) (S.tm rfl)
   refine lv S (hr4 _) rfl ?_;clear S;intro a S
   clear hr4
   refine lv S (Hw isAgg116 (off:=o1) (o:=0) (S.tm rfl) ((hm2.mono (JT hl2)).at (Xl S.emb0 S.emb)) rfl) rfl fun a S=>Va S rfl rfl fun a S=>Dl (Fg (Vm S rfl rfl fun a S=>lv S (Gh isAgg28 sizeOf28 (off:=0) (o:=0) (part:=[u1.val,iV Ax.Relay,iV Ax.Most]) rfl rfl (S.tm rfl) (S.cellsAt (i:=1) rfl)) rfl fun a S=>Vm S rfl rfl ?_));clear S;intro a S
   obtain ⟨r3,hr5,h⟩:=Ga h
   have hz3:=S.keep.size
   refine Er S (fun _=>Ei (vs:=[.agg (R28.enc (R28.mk u1 Ax.Relay Ax.Most)).toArray,r2.val]) ⟨(S.tm rfl),(S.tm rfl),trivial⟩ call130) (KG _ Ax (R28.mk u1 Ax.Relay Ax.Most) ⟨u1,rfl,(hs1.mono (S.le_arg Ez))⟩ r2.val y1 (hs3.mono (Ry (S.le_arg Ez) (View.le_trans hl2 (S.le_new Ez)))) _ hr5) rfl ?_;clear S;intro v3 a w5 hv2 hk3 hn2 S
   obtain ⟨φ3,hl4,hm3,S⟩:=S.see' hn2 hz3
   have hs4:=hv2.mono hm3
   obtain ⟨hc1,h⟩:=Jc h
   refine HE (Y:=[]) DC En.enc_ok S (S.tm rfl) (i:=0) rfl (S.tm rfl) ((Hn En.enc_ok hs4).mono (S.le_new (fun _ h=>by cases h))) rfl rfl (by have:=Nx hc1;omega) rfl ?_;clear S;intro v4 a w6 hk4 S
   refine Va S rfl rfl fun a S=>Ld (Im (Tn (Fg (Vq S Gw rfl rfl rfl fun a S=>Vm S rfl rfl fun a S=>Ld ?_))))
   replace S:=(S.nl [.own v4 180 7 (x1 ++ r3).length ((x1 ++ r3).flatMap En.enc),.blk b1 [u1.val,iV Ax.Relay,iV Ax.Most] 28] [true,true] rfl).k5 2 5 9 10 11 rfl
   exact Tn (⟨ys1,⟨i1 + 1,(x1 ++ r3),φ3,v4,⟨_,(hd1).trans (List.append_cons _ _ _),by simp [hi1]⟩,h,(View.le_trans hl2 hl4),S.nf [true,true] rfl ⟨rfl,rfl,rfl,rfl,(congrArg (fun z=>some (Value.int .i64 z)) (Iw hd1 hi1 (Xk hs2 hr3))),trivial⟩⟩,Nat.lt_succ_self _⟩)
 clear S h;rintro a w4 ⟨x1,φ2,v2,h,hl2,S⟩;rw [hj1] at h;clear hj1 j1
 refine Tn (Fr (Vm S rfl rfl fun a S=>Va S rfl rfl fun a S=>Dl (wp_ret ?_)))
 obtain rfl:=Option.some.inj h
 exact Fd S results92 rfl (Uf S (i:=0) rfl rfl)
theorem IW (w : World) (Ax : Nh) (Cl : R28) (Ct : Zp (view w []) Ax Cl) (Ab : Value) (Ad : List Eh) (Ae : Slc (view w []) 5 Ab (Ad.map Eh.enc)) (r : (List Lw) × Int) (h : Vx Ax Ad = some r) :
    Calls prog 49 [.agg (R28.enc Cl).toArray,Ab].toArray w (Ret w [] fun τ v _=>∃ u1 : Value,v = .tuple #[u1,iV r.2] ∧ Ve τ 131 3 u1 r.1.length (r.1.flatMap Lw.enc)):=by
 obtain ⟨u1,rfl,hs1⟩:=Ct
 refine Fe func49 rfl ntmps49 rfl fun a S=>?_
 unfold Vx at h
 replace S:=S.k2 0 1 rfl
 refine Fr (Mk S (S.tm rfl) (cs:=[u1.val,iV Ax.Relay,iV Ax.Most]) rfl rfl ?_);clear S;intro a w1 b1 hz1 hk1 S
 refine Vk S rfl rfl fun a S=>Vk S rfl rfl fun a S=>Dl (Fs (Fr (lv S (Gh isAgg28 sizeOf28 (off:=0) (o:=0) (part:=[u1.val,iV Ax.Relay,iV Ax.Most]) rfl rfl (S.tm rfl) (S.cellsAt (i:=0) rfl)) rfl fun a S=>Vm S rfl rfl ?_)));clear S;intro a S
 obtain ⟨r1,hr1,h⟩:=Ga h
 refine Er S (fun _=>Ei (vs:=[.agg (R28.enc (R28.mk u1 Ax.Relay Ax.Most)).toArray,Ab]) ⟨(S.tm rfl),(S.tm rfl),trivial⟩ call91) (ES _ Ax (R28.mk u1 Ax.Relay Ax.Most) ⟨u1,rfl,(hs1.mono (S.le_arg Ez))⟩ Ab Ad (Ae.mono (S.le_arg Ez)) _ hr1) rfl ?_;clear S;intro v1 a w2 hv1 hk2 hn1 S
 subst hv1
 refine Va S rfl rfl fun a S=>Dz (Vm S rfl rfl fun a S=>Vq S Nt rfl rfl rfl fun a S=>Dl (Fc h (S.tm rfl) (fun hb1 h=>?_) (fun hb1 h=>?_)))
 ·refine Fr (Vm S rfl rfl fun a S=>Vk S rfl rfl fun a S=>Va S rfl rfl fun a S=>Dl (wp_ret (Ek ?_)))
  obtain rfl:=Option.some.inj h
  exact Nz S results49 rfl rfl ⟨_,rfl,(Ug _ _ _)⟩
 ·refine wp_skip (Tn (Fr (Vk S rfl rfl ?_)));clear S;intro a S
  replace S:=S.nil 131 3
  refine Dl (Fs (Fr (lv S (Gh isAgg28 sizeOf28 (off:=0) (o:=0) (part:=[u1.val,iV Ax.Relay,iV Ax.Most]) rfl rfl (S.tm rfl) (S.cellsAt (i:=1) rfl)) rfl fun a S=>Vm S rfl rfl ?_)));clear S;intro a S
  obtain ⟨r2,hr2,h⟩:=Ga h
  have hz2:=S.keep.size
  refine Er S (fun _=>Ei (vs:=[.agg (R28.enc (R28.mk u1 Ax.Relay Ax.Most)).toArray,Ab]) ⟨(S.tm rfl),(S.tm rfl),trivial⟩ call92) (KH _ Ax (R28.mk u1 Ax.Relay Ax.Most) ⟨u1,rfl,(hs1.mono (S.le_arg Ez))⟩ Ab Ad (Ae.mono (S.le_arg Ez)) _ hr2) rfl ?_;clear S;intro v2 a w3 hv2 hk3 hn2 S
  obtain ⟨φ1,hl1,hm1,S⟩:=S.see' hn2 hz2
  have hs2:=hv2.mono hm1
  refine lv S (Gn DC (S.tm rfl) (Gk (Hn En.enc_ok hs2))) rfl fun a S=>lv S (Rm rfl) rfl fun a S=>Ld ?_
  replace S:=(S.nl [.own (.slice none 0 0) 131 3 ([] : List Lw).length (([] : List Lw).flatMap Lw.enc)] [true,false] rfl).k4 7 18 19 20 rfl
  refine Tn ?_
  obtain ⟨j1,hj1,h⟩:=Fk h
  refine Fa (fun a w'=>∃ x1 : List Lw,∃ v3 : Value,j1 x1 = some r ∧ Sx w [] φ1 [.own v3 131 3 x1.length (x1.flatMap Lw.enc)] [(7,v3)] 40 a w') ?_ ?_
  ·refine wp_block (Hs (fun (ys1 : List En) a w'=>∃ i1 : Nat,∃ x1 : List Lw,∃ v3 : Value,(∃ dn,r2 = dn ++ ys1 ∧ dn.length = i1) ∧ Nl j1 ys1 i1 x1 = some r ∧ Sx w [] φ1 [.own v3 131 3 x1.length (x1.flatMap Lw.enc)] [(7,v3),(18,v2),(19,iV (r2.length : Int)),(20,iV (i1 : Int))] 40 a w') List.length r2 ⟨0,([] : List Lw),(.slice none 0 0),⟨[],rfl,rfl⟩,h,S.nf [true] rfl (subR rfl)⟩ ?_)
   clear S h;rintro ys1 a w4 ⟨i1,x1,v3,⟨dn,hd1,hi1⟩,h,S⟩
   cases ys1 with
   | nil =>
    rw [Nl.eq_1] at h
    refine Fr (Vb S Fp rfl rfl rfl fun a S=>Ld ?_)
    replace S:=S.k5 7 18 19 20 21 rfl
    exact Tn (Fs (wp_cond_false ((S.tm rfl).trans (congrArg Value.bool (Jq hd1 hi1))) (wp_exit (Ew (Ew (Hl (Tn (⟨x1,v3,h,S.nf [true] rfl ⟨rfl,trivial⟩⟩))))))))
   | cons y1 ys1 =>
    rw [Nl.eq_2] at h
    refine Fr (Vb S Fp rfl rfl rfl fun a S=>Ld ?_)
    replace S:=S.k5 7 18 19 20 21 rfl
    refine Tn (Fs (wp_cond_true ((S.tm rfl).trans (congrArg Value.bool (Iv hd1 hi1))) (wp_skip (Tn (Fs (wp_block (Fs (Fg ?_))))))))
    obtain ⟨b2,o1,hm2,hr3⟩:=Fv (a:=a) (x:=.tmp 18) (y:=.tmp 20) (ty:=0) DC (Hn En.enc_ok hs2) (Js hd1 hi1) rfl (S.tm rfl) (S.tm rfl)
    refine lv S (hr3 _) rfl ?_;clear S;intro a S
    clear hr3
    refine lv S (Gh isAgg180 sizeOf180 (off:=o1) (o:=0) (part:=(En.enc y1)) rfl rfl (S.tm rfl) (hm2.at S.emb)) rfl fun a S=>Iz S zeroValue180 (cs:=[sV An,sV An,sV An,iV 0,bV false,iV 0,iV 0]) rfl rfl ?_;clear S;intro a w6 b3 hz3 hk4 S
    refine Ft S (S.tm rfl) (S.tm rfl) (i:=0) (off:=0) rfl sizeOf180 (vs:=(En.enc y1)) rfl rfl rfl rfl ?_;clear S;intro w7 hk5 S
    refine Dl (Fg (Vm S rfl rfl fun a S=>Vf GJ S rfl rfl fun a S=>Vf Ys S rfl rfl fun a S=>Vl isAgg9 0 S rfl rfl rfl rfl ?_));clear S;intro a S
    obtain ⟨hc1,h⟩:=Jc h
    refine lv S (JB (m:=y1.x_.Race) (n:=Qp) (S.tm rfl) rfl (by have:=Nx hc1;omega)) rfl ?_;clear S;intro a S
    refine Vf GJ S rfl rfl fun a S=>Vf Yt S rfl rfl fun a S=>Vl isAgg9 0 S rfl rfl rfl rfl ?_;clear S;intro a S
    obtain ⟨hc2,h⟩:=Jc h
    refine lv S (JB (m:=(y1.x_.Race ++ Qp)) (n:=y1.x_.Who) (S.tm rfl) (S.tm rfl) (by have:=Nx hc2;omega)) rfl ?_;clear S;intro a S
    refine Vf PS S rfl rfl fun a S=>lv S (Gh isAgg49 sizeOf49 (off:=0) (o:=5) (part:=(Fo.enc y1.points_)) rfl rfl (S.tm rfl) (S.cellsAt (i:=0) rfl)) rfl fun a S=>lv S (Nc bt_131 (pv:=[(0,sV ((y1.x_.Race ++ Qp) ++ y1.x_.Who)),(1,.agg (Fo.enc y1.points_).toArray)]) ⟨rfl,(S.tm rfl),rfl,(S.tm rfl),trivial⟩ (cs:=[sV ((y1.x_.Race ++ Qp) ++ y1.x_.Who),iV y1.points_.Num,iV y1.points_.Den]) (by kernel_rfl)) rfl fun a S=>Fq S underlying124 sizeOf131 zeroValue131 rfl rfl (pv:=[(0,.agg #[sV ((y1.x_.Race ++ Qp) ++ y1.x_.Who),iV y1.points_.Num,iV y1.points_.Den])]) ⟨rfl,(S.tm rfl),trivial⟩ (cs:=[sV ((y1.x_.Race ++ Qp) ++ y1.x_.Who),iV y1.points_.Num,iV y1.points_.Den]) (by kernel_rfl) rfl ?_;clear S;intro a w8 b4 hz4 hk6 S
    obtain ⟨hc3,h⟩:=Jc h
    refine Np RK Lw.enc_ok S (S.tm rfl) (i:=2) rfl (S.tm rfl) (j:=0) rfl (ys:=[(Lw.mk ((y1.x_.Race ++ Qp) ++ y1.x_.Who) y1.points_)]) rfl rfl rfl rfl (by have:=Nx hc3;omega) rfl ?_;clear S;intro v4 a w9 hk7 S
    refine Va S rfl rfl fun a S=>Ld ?_
    replace S:=(S.nl [.own v4 131 3 (x1 ++ [(Lw.mk ((y1.x_.Race ++ Qp) ++ y1.x_.Who) y1.points_)]).length ((x1 ++ [(Lw.mk ((y1.x_.Race ++ Qp) ++ y1.x_.Who) y1.points_)]).flatMap Lw.enc)] [false,false,true] rfl).k4 7 18 19 20 rfl
    exact Im (Tn (Fg (Vq S Gw rfl rfl rfl fun a S=>Vm S rfl rfl fun a S=>Dl (⟨ys1,⟨i1 + 1,(x1 ++ [(Lw.mk ((y1.x_.Race ++ Qp) ++ y1.x_.Who) y1.points_)]),v4,⟨_,(hd1).trans (List.append_cons _ _ _),by simp [hi1]⟩,h,S.nf [true] rfl ⟨rfl,rfl,rfl,(congrArg (fun z=>some (Value.int .i64 z)) (Iw hd1 hi1 (Kh (Hn En.enc_ok hs2)))),trivial⟩⟩,Nat.lt_succ_self _⟩))))
  clear S h;rintro a w5 ⟨x1,v3,h,S⟩;rw [hj1] at h;clear hj1 j1
  refine Tn (Fr (Vm S rfl rfl fun a S=>Va S rfl rfl fun a S=>Vk S rfl rfl fun a S=>Dl (wp_ret ?_)))
  obtain rfl:=Option.some.inj h
  exact Nz S results49 rfl rfl ⟨_,rfl,(Uf S (i:=0) rfl rfl)⟩
theorem HM (w : World) (O : Nat) (Ao : Ni) (Cb : R32) (Ci : Wm (view w []) Ao Cb) (Ba : Value) (Am : List Eg) (Bi : Slc (view w []) 11 Ba (Am.map Eg.enc)) (Az : (view w []) O = some (.cells (R32.enc Cb ++ [Ba]).toArray 128 (0,0))) (Ar : Eu) (r : (List Jy) × Int) (h : Rk Ao Am Ar = some r) :
    Calls prog 21 [.pointer (some ⟨O,0,none⟩),.agg (Eu.enc Ar).toArray].toArray w (Ret w [] fun τ v _=>∃ u1 : Value,v = .tuple #[u1,iV r.2] ∧ Ve τ 51 7 u1 r.1.length (r.1.flatMap Jy.enc)):=by
 obtain ⟨u1,u2,rfl,hs1,⟨u3,rfl,hs2⟩⟩:=Ci
 replace Az : (view w []) O = some (.cells [u1.val,u3.val,iV Ao.Table.Relay,iV Ao.Table.Most,iV Ao.Final.Size,iV Ao.Final.Many,iV Ao.Final.Reserves,Ba].toArray 128 (0,0)):=Az
 refine Fe func21 rfl ntmps21 rfl fun a S=>?_
 unfold Rk at h
 replace S:=S.k2 0 1 rfl
 refine Fr (Mk S (S.tm rfl) (cs:=(Eu.enc Ar)) rfl rfl ?_);clear S;intro a w1 b1 hz1 hk1 S
 refine Vk S rfl rfl fun a S=>Vk S rfl rfl fun a S=>Dz (Vm S rfl rfl fun a S=>Vf Yj S rfl rfl fun a S=>Vl isAgg9 0 S rfl rfl rfl rfl ?_);clear S;intro a S
 obtain ⟨r1,hr1,h⟩:=Ga h
 have hz2:=S.keep.size
 refine Er S (fun _=>Ei (vs:=[.pointer (some ⟨O,0,none⟩),sV Ar.Key]) ⟨(S.tm rfl),(S.tm rfl),trivial⟩ call45) (IV _ O Ao (R32.mk u1 (R28.mk u3 Ao.Table.Relay Ao.Table.Most) Ao.Final) ⟨u1,(R28.mk u3 Ao.Table.Relay Ao.Table.Most),rfl,(hs1.mono (S.le_arg Ez)),⟨u3,rfl,(hs2.mono (S.le_arg Ez))⟩⟩ Ba Am (Bi.mono (S.le_arg Ez)) ((S.le_arg Ez) _ _ Az) Ar.Key _ hr1) rfl ?_;clear S;intro v1 a w2 hv1 hk2 hn1 S
 obtain ⟨u4,u5,rfl,ho1,ho2⟩:=hv1
 obtain ⟨φ1,hl1,hm1,S⟩:=S.see' hn1 hz2
 have hs3:=ho1.mono hm1
 obtain ⟨b2,rfl,hq1⟩:=ho2
 replace hq1:=hm1 _ _ hq1
 refine Vm S rfl rfl ?_;clear S;intro a S
 iterate 3 (refine Vq S Ia rfl rfl rfl ?_;clear S;intro a S)
 iterate 3 (refine Va S rfl rfl ?_;clear S;intro a S)
 refine Ld ?_
 replace S:=(S.nl [.blk b1 (Eu.enc Ar) 38] [true] rfl).k5 0 3 6 7 8 rfl
 refine Tn (Fs (Fr (Vm S rfl rfl fun a S=>Vq S Nt rfl rfl rfl fun a S=>Dl (Fc h (S.tm rfl) (fun hb1 h=>?_) (fun hb1 h=>?_)))))
 ·refine Fr (Vm S rfl rfl fun a S=>Vk S rfl rfl fun a S=>Va S rfl rfl fun a S=>Dl (wp_ret (Ek ?_)))
  obtain rfl:=Option.some.inj h
  exact Nz S results21 rfl rfl ⟨_,rfl,(Ug _ _ _)⟩
 ·refine wp_skip (Tn (Fr (Vk S rfl rfl ?_)));clear S;intro a S
  replace S:=S.nil 120 5
  refine Dl (Fs (Fr (Vm S rfl rfl fun a S=>lv S (Gn Tk (S.tm rfl) (Gk (Hn Ej.enc_ok hs3))) rfl fun a S=>lv S (Rm rfl) rfl fun a S=>Dl ?_)))
  replace S:=(S.nl [.own (.slice none 0 0) 120 5 ([] : List Eh).length (([] : List Eh).flatMap Eh.enc),.blk b1 (Eu.enc Ar) 38] [true,true] rfl).k8 0 3 6 7 9 32 33 34 rfl
  obtain ⟨j1,hj1,h⟩:=Fk h
  refine Fa (fun a w'=>∃ x1 : List Eh,∃ v2 : Value,j1 x1 = some r ∧ Sx w [] φ1 [.own v2 120 5 x1.length (x1.flatMap Eh.enc),.blk b1 (Eu.enc Ar) 38] [(0,.pointer (some ⟨O,0,none⟩)),(3,.pointer (some ⟨b1,0,none⟩)),(6,u4),(7,.map (some b2)),(9,v2)] 123 a w') ?_ ?_
  ·refine wp_block (Hs (fun (ys1 : List Ej) a w'=>∃ i1 : Nat,∃ x1 : List Eh,∃ v2 : Value,(∃ dn,r1.1 = dn ++ ys1 ∧ dn.length = i1) ∧ Mp Ar r1 j1 ys1 i1 x1 = some r ∧ Sx w [] φ1 [.own v2 120 5 x1.length (x1.flatMap Eh.enc),.blk b1 (Eu.enc Ar) 38] [(0,.pointer (some ⟨O,0,none⟩)),(3,.pointer (some ⟨b1,0,none⟩)),(6,u4),(7,.map (some b2)),(9,v2),(32,u4),(33,iV (r1.1.length : Int)),(34,iV (i1 : Int))] 123 a w') List.length r1.1 ⟨0,([] : List Eh),(.slice none 0 0),⟨[],rfl,rfl⟩,h,S.nf [true,true] rfl (subR rfl)⟩ ?_)
   clear S h;rintro ys1 a w3 ⟨i1,x1,v2,⟨dn,hd1,hi1⟩,h,S⟩
   cases ys1 with
   | nil =>
    rw [Mp.eq_1] at h
    refine Fr (Vb S Fp rfl rfl rfl fun a S=>Ld ?_)
    replace S:=S.k9 0 3 6 7 9 32 33 34 35 rfl
    exact Tn (Fs (wp_cond_false ((S.tm rfl).trans (congrArg Value.bool (Jq hd1 hi1))) (wp_exit (Ew (Ew (Hl (Tn (⟨x1,v2,h,S.nf [true,true] rfl (subR rfl)⟩))))))))
   | cons y1 ys1 =>
    rw [Mp.eq_2] at h
    refine Fr (Vb S Fp rfl rfl rfl fun a S=>Ld ?_)
    replace S:=S.k9 0 3 6 7 9 32 33 34 35 rfl
    refine Tn (Fs (wp_cond_true ((S.tm rfl).trans (congrArg Value.bool (Iv hd1 hi1))) (wp_skip (Tn (Fs (wp_block (Fs (Fg ?_))))))))
    obtain ⟨b3,o1,hm2,hr2⟩:=Fv (a:=a) (x:=.tmp 32) (y:=.tmp 34) (ty:=0) Tk (Hn Ej.enc_ok hs3) (Js hd1 hi1) rfl (S.tm rfl) (S.tm rfl)
    refine lv S (hr2 _) rfl ?_;clear S;intro a S
    clear hr2
    refine lv S (Gh isAgg118 sizeOf118 (off:=o1) (o:=0) (part:=(Ej.enc y1)) rfl rfl (S.tm rfl) (hm2.at S.emb)) rfl fun a S=>Iz S zeroValue118 (cs:=[sV An,iV 0,iV 0,iV 0]) rfl rfl ?_;clear S;intro a w5 b4 hz3 hk3 S
    refine Ft S (S.tm rfl) (S.tm rfl) (i:=0) (off:=0) rfl sizeOf118 (vs:=(Ej.enc y1)) rfl rfl rfl rfl ?_;clear S;intro w6 hk4 S
    refine Dl (Fg (Vm S rfl rfl fun a S=>Vf Yj S rfl rfl fun a S=>Vl isAgg9 2 S rfl rfl rfl rfl fun a S=>Vf DD S rfl rfl fun a S=>Vl isAgg9 0 S rfl rfl rfl rfl fun a S=>Vm S rfl rfl fun a S=>Vf DD S rfl rfl fun a S=>Vl isAgg9 0 S rfl rfl rfl rfl ?_));clear S;intro a S
    refine lv S (Qu (kv:=Value.string) (vv:=Value.string) (m:=r1.2.1) (key:=y1.Who) (z:=An) (S.emb _ _ hq1) underlying113 (Nu underlying9) zeroValue9 (S.tm rfl) (S.tm rfl)) rfl fun a S=>Vf DE S rfl rfl fun a S=>Vl isAgg3 0 S rfl rfl rfl rfl fun a S=>Vf GD S rfl rfl fun a S=>Vl isAgg3 2 S rfl rfl rfl rfl fun a S=>Vq S Jz rfl rfl rfl fun a S=>lv S (Nc bt_120 (pv:=[(0,sV Ar.Key),(1,sV y1.Who),(2,sV (Et r1.2.1 y1.Who An)),(3,iV y1.Rank),(4,bV (decide (1 < Ar.Legs)))]) ⟨rfl,(S.tm rfl),rfl,(S.tm rfl),rfl,(S.tm rfl),rfl,(S.tm rfl),rfl,(S.tm rfl),trivial⟩ (cs:=[sV Ar.Key,sV y1.Who,sV (Et r1.2.1 y1.Who An),iV y1.Rank,bV (decide (1 < Ar.Legs))]) (by kernel_rfl)) rfl fun a S=>Fq S underlying116 sizeOf120 zeroValue120 rfl rfl (pv:=[(0,.agg #[sV Ar.Key,sV y1.Who,sV (Et r1.2.1 y1.Who An),iV y1.Rank,bV (decide (1 < Ar.Legs))])]) ⟨rfl,(S.tm rfl),trivial⟩ (cs:=[sV Ar.Key,sV y1.Who,sV (Et r1.2.1 y1.Who An),iV y1.Rank,bV (decide (1 < Ar.Legs))]) (by kernel_rfl) rfl ?_;clear S;intro a w7 b5 hz4 hk5 S
    obtain ⟨hc1,h⟩:=Jc h
    refine Np Oo Eh.enc_ok S (S.tm rfl) (i:=2) rfl (S.tm rfl) (j:=0) rfl (ys:=[(Eh.mk Ar.Key y1.Who (Et r1.2.1 y1.Who An) y1.Rank (decide (1 < Ar.Legs)))]) rfl rfl rfl rfl (by have:=Nx hc1;omega) rfl ?_;clear S;intro v3 a w8 hk6 S
    refine Va S rfl rfl fun a S=>Ld ?_
    replace S:=(S.nl [.own v3 120 5 (x1 ++ [(Eh.mk Ar.Key y1.Who (Et r1.2.1 y1.Who An) y1.Rank (decide (1 < Ar.Legs)))]).length ((x1 ++ [(Eh.mk Ar.Key y1.Who (Et r1.2.1 y1.Who An) y1.Rank (decide (1 < Ar.Legs)))]).flatMap Eh.enc),.blk b1 (Eu.enc Ar) 38] [false,false,true,true] rfl).k8 0 3 6 7 9 32 33 34 rfl
    exact Im (Tn (Fg (Vq S Gw rfl rfl rfl fun a S=>Vm S rfl rfl fun a S=>Dl (⟨ys1,⟨i1 + 1,(x1 ++ [(Eh.mk Ar.Key y1.Who (Et r1.2.1 y1.Who An) y1.Rank (decide (1 < Ar.Legs)))]),v3,⟨_,(hd1).trans (List.append_cons _ _ _),by simp [hi1]⟩,h,S.nf [true,true] rfl ⟨rfl,rfl,rfl,rfl,rfl,rfl,rfl,(congrArg (fun z=>some (Value.int .i64 z)) (Iw hd1 hi1 (Kh (Hn Ej.enc_ok hs3)))),trivial⟩⟩,Nat.lt_succ_self _⟩))))
  clear S h;rintro a w4 ⟨x1,v2,h,S⟩;rw [hj1] at h;clear hj1 j1
  refine Tn (Fr (Vm S rfl rfl ?_));clear S;intro a S
  obtain ⟨r2,hr3,h⟩:=Ga h
  refine Pc 0 S rfl (fun _=>.own v2 120 5 r2.length (r2.flatMap Eh.enc)) (fun _=>Ei (vs:=[v2,.func (.func 47) #[] #[]]) ⟨(S.tm rfl),rfl,trivial⟩ call46) (Sd _ v2 x1 (S.holds _ (List.mem_of_getElem? (i:=0) rfl)) _ hr3) rfl (fun _ _ _ h=>⟨h.1,fun _ hc=>hc⟩) ?_;clear S;intro v4 a w9 hv2 hk7 hn2 S
  replace hv2:=hv2.2
  subst hv2
  refine Dz (Vm S rfl rfl fun a S=>Vu S Jh rfl rfl fun a S=>Vf KA S rfl rfl fun a S=>Vf SZ S rfl rfl fun a S=>lv S (Gh isAgg28 sizeOf28 (off:=0) (o:=1) (part:=[u3.val,iV Ao.Table.Relay,iV Ao.Table.Most]) rfl rfl (S.tm rfl) ((Pl Az).at S.emb0)) rfl fun a S=>Vm S rfl rfl ?_);clear S;intro a S
  obtain ⟨r3,hr4,h⟩:=Ga h
  have hz5:=S.keep.size
  refine Er S (fun _=>Ei (vs:=[.agg (R28.enc (R28.mk u3 Ao.Table.Relay Ao.Table.Most)).toArray,v2]) ⟨(S.tm rfl),(S.tm rfl),trivial⟩ call49) (IW _ Ao.Table (R28.mk u3 Ao.Table.Relay Ao.Table.Most) ⟨u3,rfl,(hs2.mono (S.le_arg Ez))⟩ v2 r2 (AP Eh.enc_ok S (i:=0) rfl (Ik (e':=.own v2 120 5 r2.length (r2.flatMap Eh.enc)))) _ hr4) rfl ?_;clear S;intro v5 a w10 hv3 hk8 hn3 S
  obtain ⟨u6,rfl,ho3⟩:=hv3
  obtain ⟨φ2,hl2,hm3,S⟩:=S.see' hn3 hz5
  have hs4:=ho3.mono hm3
  refine Vm S rfl rfl fun a S=>Vq S Ia rfl rfl rfl fun a S=>Vq S Ia rfl rfl rfl fun a S=>Va S rfl rfl fun a S=>Va S rfl rfl fun a S=>Ld ?_
  replace S:=(S.nl [.blk b1 (Eu.enc Ar) 38] [false,true] rfl).k5 3 6 7 8 12 rfl
  refine Tn (Fs (Fr (Vm S rfl rfl fun a S=>Vq S Nt rfl rfl rfl fun a S=>Dl (Fc h (S.tm rfl) (fun hb2 h=>?_) (fun hb2 h=>?_)))))
  ·refine Fr (Vm S rfl rfl fun a S=>Vk S rfl rfl fun a S=>Va S rfl rfl fun a S=>Dl (wp_ret (Ek ?_)))
   obtain rfl:=Option.some.inj h
   exact Nz S results21 rfl rfl ⟨_,rfl,(Ug _ _ _)⟩
  ·refine wp_skip (Tn (Fr (Sf (κ:=ByteArray) (ν:=Fo) S rfl Value.string (fun x=>Value.agg (Fo.enc x).toArray) ?_)));clear S;intro a w11 b6 hz6 hk9 S
   refine Va S rfl rfl fun a S=>Dl (Fs (Fr (Vm S rfl rfl fun a S=>lv S (Gn RK (S.tm rfl) (Gk (Hn Lw.enc_ok hs4))) rfl fun a S=>lv S (Rm rfl) rfl fun a S=>Dl ?_)))
   replace S:=(S.nl [.map b6 (Gx Value.string (fun x=>Value.agg (Fo.enc x).toArray) ([] : List (ByteArray × Fo))) ([] : List (ByteArray × Fo)).length,.blk b1 (Eu.enc Ar) 38] [true,true] rfl).k7 3 6 7 13 72 73 74 rfl
   obtain ⟨j2,hj2,h⟩:=Fk h
   refine Fa (fun a w'=>∃ x2 : List (ByteArray × Fo),j2 x2 = some r ∧ Sx w [] φ2 [.map b6 (Gx Value.string (fun x=>Value.agg (Fo.enc x).toArray) x2) x2.length,.blk b1 (Eu.enc Ar) 38] [(3,.pointer (some ⟨b1,0,none⟩)),(6,u4),(7,.map (some b2)),(13,.map (some b6))] 123 a w') ?_ ?_
   ·refine wp_block (Hs (fun (ys2 : List Lw) a w'=>∃ i2 : Nat,∃ x2 : List (ByteArray × Fo),(∃ dn,r3.1 = dn ++ ys2 ∧ dn.length = i2) ∧ Nr j2 ys2 i2 x2 = some r ∧ Sx w [] φ2 [.map b6 (Gx Value.string (fun x=>Value.agg (Fo.enc x).toArray) x2) x2.length,.blk b1 (Eu.enc Ar) 38] [(3,.pointer (some ⟨b1,0,none⟩)),(6,u4),(7,.map (some b2)),(13,.map (some b6)),(72,u6),(73,iV (r3.1.length : Int)),(74,iV (i2 : Int))] 123 a w') List.length r3.1 ⟨0,([] : List (ByteArray × Fo)),⟨[],rfl,rfl⟩,h,S.nf [true,true] rfl (subR rfl)⟩ ?_)
    clear S h;rintro ys2 a w12 ⟨i2,x2,⟨dn,hd2,hi2⟩,h,S⟩
    cases ys2 with
    | nil =>
     rw [Nr.eq_1] at h
     refine Fr (Vb S Fp rfl rfl rfl fun a S=>Ld ?_)
     replace S:=S.k8 3 6 7 13 72 73 74 75 rfl
     exact Tn (Fs (wp_cond_false ((S.tm rfl).trans (congrArg Value.bool (Jq hd2 hi2))) (wp_exit (Ew (Ew (Hl (Tn (⟨x2,h,S.nf [true,true] rfl (subR rfl)⟩))))))))
    | cons y2 ys2 =>
     rw [Nr.eq_2] at h
     refine Fr (Vb S Fp rfl rfl rfl fun a S=>Ld ?_)
     replace S:=S.k8 3 6 7 13 72 73 74 75 rfl
     refine Tn (Fs (wp_cond_true ((S.tm rfl).trans (congrArg Value.bool (Iv hd2 hi2))) (wp_skip (Tn (Fs (wp_block (Fs (Fg ?_))))))))
     obtain ⟨b7,o2,hm4,hr5⟩:=Fv (a:=a) (x:=.tmp 72) (y:=.tmp 74) (ty:=0) RK (Hn Lw.enc_ok hs4) (Js hd2 hi2) rfl (S.tm rfl) (S.tm rfl)
     refine lv S (hr5 _) rfl ?_;clear S;intro a S
     clear hr5
     refine lv S (Gh isAgg131 sizeOf131 (off:=o2) (o:=0) (part:=(Lw.enc y2)) rfl rfl (S.tm rfl) (hm4.at S.emb)) rfl fun a S=>Iz S zeroValue131 (cs:=[sV An,iV 0,iV 0]) rfl rfl ?_;clear S;intro a w14 b8 hz7 hk10 S
     refine Ft S (S.tm rfl) (S.tm rfl) (i:=0) (off:=0) rfl sizeOf131 (vs:=(Lw.enc y2)) rfl rfl rfl rfl ?_;clear S;intro w15 hk11 S
     refine Dl (Fg (Vm S rfl rfl fun a S=>Vf XC S rfl rfl fun a S=>Vl isAgg9 0 S rfl rfl rfl rfl fun a S=>Vf XD S rfl rfl fun a S=>lv S (Gh isAgg49 sizeOf49 (off:=0) (o:=1) (part:=(Fo.enc y2.Points)) rfl rfl (S.tm rfl) (S.cellsAt (i:=0) rfl)) rfl fun a S=>Qa (kv:=Value.string) (vv:=(fun x=>Value.agg (Fo.enc x).toArray)) (m:=x2) (key:=y2.Key) (val:=y2.Points) S (i:=1) rfl underlying129 (Nu underlying9) (S.tm rfl) (S.tm rfl) (S.tm rfl) ?_));clear S;intro w16 hk12 S
     refine Ld ?_
     replace S:=(S.nl [.map b6 (Gx Value.string (fun x=>Value.agg (Fo.enc x).toArray) (Hj x2 y2.Key y2.Points)) (Hj x2 y2.Key y2.Points).length,.blk b1 (Eu.enc Ar) 38] [false,true,true] rfl).k7 3 6 7 13 72 73 74 rfl
     exact Im (Tn (Fg (Vq S Gw rfl rfl rfl fun a S=>Vm S rfl rfl fun a S=>Dl (⟨ys2,⟨i2 + 1,(Hj x2 y2.Key y2.Points),⟨_,(hd2).trans (List.append_cons _ _ _),by simp [hi2]⟩,h,S.nf [true,true] rfl ⟨rfl,rfl,rfl,rfl,rfl,rfl,(congrArg (fun z=>some (Value.int .i64 z)) (Iw hd2 hi2 (Kh (Hn Lw.enc_ok hs4)))),trivial⟩⟩,Nat.lt_succ_self _⟩))))
   clear S h;rintro a w13 ⟨x2,h,S⟩;rw [hj2] at h;clear hj2 j2
   refine Tn (Fr (Vk S rfl rfl ?_));clear S;intro a S
   replace S:=S.nil 51 7
   refine Dl (Fs (Fr (Vm S rfl rfl fun a S=>lv S (Gn Tk (S.tm rfl) (Gk (Hn Ej.enc_ok hs3))) rfl fun a S=>lv S (Rm rfl) rfl fun a S=>Dl ?_)))
   replace S:=(S.nl [.own (.slice none 0 0) 51 7 ([] : List Jy).length (([] : List Jy).flatMap Jy.enc),.map b6 (Gx Value.string (fun x=>Value.agg (Fo.enc x).toArray) x2) x2.length,.blk b1 (Eu.enc Ar) 38] [true,true,true] rfl).k7 3 7 13 16 84 85 86 rfl
   obtain ⟨j3,hj3,h⟩:=Fk h
   refine Fa (fun a w'=>∃ x3 : List Jy,∃ v6 : Value,j3 x3 = some r ∧ Sx w [] φ2 [.own v6 51 7 x3.length (x3.flatMap Jy.enc),.map b6 (Gx Value.string (fun x=>Value.agg (Fo.enc x).toArray) x2) x2.length,.blk b1 (Eu.enc Ar) 38] [(16,v6)] 123 a w') ?_ ?_
   ·refine wp_block (Hs (fun (ys3 : List Ej) a w'=>∃ i3 : Nat,∃ x3 : List Jy,∃ v6 : Value,(∃ dn,r1.1 = dn ++ ys3 ∧ dn.length = i3) ∧ Mq Ar r1 x2 j3 ys3 i3 x3 = some r ∧ Sx w [] φ2 [.own v6 51 7 x3.length (x3.flatMap Jy.enc),.map b6 (Gx Value.string (fun x=>Value.agg (Fo.enc x).toArray) x2) x2.length,.blk b1 (Eu.enc Ar) 38] [(3,.pointer (some ⟨b1,0,none⟩)),(7,.map (some b2)),(13,.map (some b6)),(16,v6),(84,u4),(85,iV (r1.1.length : Int)),(86,iV (i3 : Int))] 123 a w') List.length r1.1 ⟨0,([] : List Jy),(.slice none 0 0),⟨[],rfl,rfl⟩,h,S.nf [true,true,true] rfl (subR rfl)⟩ ?_)
    clear S h;rintro ys3 a w17 ⟨i3,x3,v6,⟨dn,hd3,hi3⟩,h,S⟩
    cases ys3 with
    | nil =>
     rw [Mq.eq_1] at h
     refine Fr (Vb S Fp rfl rfl rfl fun a S=>Ld ?_)
     replace S:=S.k8 3 7 13 16 84 85 86 87 rfl
     exact Tn (Fs (wp_cond_false ((S.tm rfl).trans (congrArg Value.bool (Jq hd3 hi3))) (wp_exit (Ew (Ew (Hl (Tn (⟨x3,v6,h,S.nf [true,true,true] rfl ⟨rfl,trivial⟩⟩))))))))
    | cons y3 ys3 =>
     rw [Mq.eq_2] at h
     refine Fr (Vb S Fp rfl rfl rfl fun a S=>Ld ?_)
     replace S:=S.k8 3 7 13 16 84 85 86 87 rfl
     refine Tn (Fs (wp_cond_true ((S.tm rfl).trans (congrArg Value.bool (Iv hd3 hi3))) (wp_skip (Tn (Fs (wp_block (Fs (Fg ?_))))))))
     obtain ⟨b9,o3,hm5,hr6⟩:=Fv (a:=a) (x:=.tmp 84) (y:=.tmp 86) (ty:=0) Tk (Hn Ej.enc_ok hs3) (Js hd3 hi3) rfl (S.tm rfl) (S.tm rfl)
     refine lv S (hr6 _) rfl ?_;clear S;intro a S
     clear hr6
     refine lv S (Gh isAgg118 sizeOf118 (off:=o3) (o:=0) (part:=(Ej.enc y3)) rfl rfl (S.tm rfl) ((hm5.mono hl2).at S.emb)) rfl fun a S=>Iz S zeroValue118 (cs:=[sV An,iV 0,iV 0,iV 0]) rfl rfl ?_;clear S;intro a w19 b10 hz8 hk13 S
     refine Ft S (S.tm rfl) (S.tm rfl) (i:=0) (off:=0) rfl sizeOf118 (vs:=(Ej.enc y3)) rfl rfl rfl rfl ?_;clear S;intro w20 hk14 S
     refine Dz (Vm S rfl rfl fun a S=>Vf Yj S rfl rfl fun a S=>Vl isAgg9 3 S rfl rfl rfl rfl ?_);clear S;intro a S
     obtain ⟨hc2,h⟩:=Jc h
     refine lv S (JB (m:=Ar.Key) (n:=Qp) (S.tm rfl) rfl (by have:=Nx hc2;omega)) rfl ?_;clear S;intro a S
     refine Vf DD S rfl rfl fun a S=>Vl isAgg9 0 S rfl rfl rfl rfl ?_;clear S;intro a S
     obtain ⟨hc3,h⟩:=Jc h
     refine lv S (JB (m:=(Ar.Key ++ Qp)) (n:=y3.Who) (S.tm rfl) (S.tm rfl) (by have:=Nx hc3;omega)) rfl ?_;clear S;intro a S
     refine lv S (JQ (kv:=Value.string) (vv:=(fun x=>Value.agg (Fo.enc x).toArray)) (m:=x2) (key:=(Ar.Key ++ Qp) ++ y3.Who) (z:=(Fo.mk 0 0)) (S.map_at (i:=2) rfl) underlying129 (Nu underlying9) zeroValue49 (S.tm rfl) (S.tm rfl)) rfl fun a S=>Vm S rfl rfl fun a S=>Vq S Ia rfl rfl rfl fun a S=>Vq S Ia rfl rfl rfl fun a S=>Iz S zeroValue49 (cs:=[iV 0,iV 0]) rfl rfl ?_;clear S;intro a w21 b11 hz9 hk15 S
     refine Ft S (S.tm rfl) (S.tm rfl) (i:=0) (off:=0) rfl sizeOf49 (vs:=(Fo.enc (Et x2 ((Ar.Key ++ Qp) ++ y3.Who) (Fo.mk 0 0)))) rfl rfl rfl rfl ?_;clear S;intro w22 hk16 S
     refine Va S rfl rfl fun a S=>Ld ?_
     replace S:=(S.nl [.blk b11 (Fo.enc (Et x2 ((Ar.Key ++ Qp) ++ y3.Who) (Fo.mk 0 0))) 49,.blk b10 (Ej.enc y3) 118,.own v6 51 7 x3.length (x3.flatMap Jy.enc),.map b6 (Gx Value.string (fun x=>Value.agg (Fo.enc x).toArray) x2) x2.length,.blk b1 (Eu.enc Ar) 38] [true,true,true,true,true] rfl).k10 3 7 13 16 18 19 20 84 85 86 rfl
     refine Tn (Fs (Fr (Vm S rfl rfl fun a S=>Vu S Ig rfl rfl fun a S=>Dl ?_)))
     obtain ⟨j4,hj4,h⟩:=Fk h
     refine Fa (fun a w'=>∃ x4 : Int,∃ x5 : Int,j4 x4 x5 = some r ∧ Sx w [] φ2 [.blk b11 [iV x4,iV x5] 49,.blk b10 (Ej.enc y3) 118,.own v6 51 7 x3.length (x3.flatMap Jy.enc),.map b6 (Gx Value.string (fun x=>Value.agg (Fo.enc x).toArray) x2) x2.length,.blk b1 (Eu.enc Ar) 38] [(3,.pointer (some ⟨b1,0,none⟩)),(7,.map (some b2)),(13,.map (some b6)),(16,v6),(18,.pointer (some ⟨b10,0,none⟩)),(19,.pointer (some ⟨b11,0,none⟩)),(84,u4),(85,iV (r1.1.length : Int)),(86,iV (i3 : Int))] 123 a w') ?_ ?_
     ·refine Fc h (S.tm rfl) (fun hb3 h=>?_) (fun hb3 h=>?_)
      ·refine Fg (lv S (Nc XH (pv:=[(0,iV 0),(1,iV 1)]) ⟨rfl,rfl,rfl,rfl,trivial⟩ (cs:=[iV 0,iV 1]) (by kernel_rfl)) rfl fun a S=>Ft S (S.tm rfl) (S.tm rfl) (i:=0) (off:=0) rfl sizeOf49 (vs:=[iV 0,iV 1]) rfl rfl rfl rfl ?_);clear S;intro w24 hk17 S
       exact Dl (⟨0,1,h,S.nf [true,true,true,true,true] rfl (subR rfl)⟩)
      ·exact wp_skip (Tn (⟨(Et x2 ((Ar.Key ++ Qp) ++ y3.Who) (Fo.mk 0 0)).Num,(Et x2 ((Ar.Key ++ Qp) ++ y3.Who) (Fo.mk 0 0)).Den,h,S.nf [true,true,true,true,true] rfl (subR rfl)⟩))
     clear S h;rintro a w23 ⟨x4,x5,h,S⟩;rw [hj4] at h;clear hj4 j4
     refine Tn (Fg (Vm S rfl rfl fun a S=>Vf DE S rfl rfl fun a S=>Vl isAgg3 1 S rfl rfl rfl rfl fun a S=>Vf DD S rfl rfl fun a S=>Vl isAgg9 1 S rfl rfl rfl rfl fun a S=>Vm S rfl rfl fun a S=>Vf DD S rfl rfl fun a S=>Vl isAgg9 1 S rfl rfl rfl rfl fun a S=>lv S (Qu (kv:=Value.string) (vv:=Value.string) (m:=r1.2.1) (key:=y3.Who) (z:=An) (S.emb _ _ (hl2 _ _ hq1)) underlying113 (Nu underlying9) zeroValue9 (S.tm rfl) (S.tm rfl)) rfl ?_));clear S;intro a S
     refine Vf AX S rfl rfl fun a S=>Vl isAgg3 1 S rfl rfl rfl rfl fun a S=>Vf PP S rfl rfl fun a S=>Vl isAgg3 1 S rfl rfl rfl rfl fun a S=>lv S (Gh isAgg49 sizeOf49 (off:=0) (o:=0) (part:=[iV x4,iV x5]) rfl rfl (S.tm rfl) (S.cellsAt (i:=0) rfl)) rfl fun a S=>lv S (Nc bt_51 (pv:=[(0,iV y3.Rank),(1,sV y3.Who),(2,sV (Et r1.2.1 y3.Who An)),(3,iV y3.Time),(4,iV y3.Fault),(5,.agg #[iV x4,iV x5])]) ⟨rfl,(S.tm rfl),rfl,(S.tm rfl),rfl,(S.tm rfl),rfl,(S.tm rfl),rfl,(S.tm rfl),rfl,(S.tm rfl),trivial⟩ (cs:=[iV y3.Rank,sV y3.Who,sV (Et r1.2.1 y3.Who An),iV y3.Time,iV y3.Fault,iV x4,iV x5]) (by kernel_rfl)) rfl fun a S=>Fq S underlying39 sizeOf51 zeroValue51 rfl rfl (pv:=[(0,.agg #[iV y3.Rank,sV y3.Who,sV (Et r1.2.1 y3.Who An),iV y3.Time,iV y3.Fault,iV x4,iV x5])]) ⟨rfl,(S.tm rfl),trivial⟩ (cs:=[iV y3.Rank,sV y3.Who,sV (Et r1.2.1 y3.Who An),iV y3.Time,iV y3.Fault,iV x4,iV x5]) (by kernel_rfl) rfl ?_;clear S;intro a w25 b12 hz10 hk18 S
     obtain ⟨hc4,h⟩:=Jc h
     refine Np PN Jy.enc_ok S (S.tm rfl) (i:=3) rfl (S.tm rfl) (j:=0) rfl (ys:=[(Jy.mk y3.Rank y3.Who (Et r1.2.1 y3.Who An) y3.Time y3.Fault (Fo.mk x4 x5))]) rfl rfl rfl rfl (by have:=Nx hc4;omega) rfl ?_;clear S;intro v7 a w26 hk19 S
     refine Va S rfl rfl fun a S=>Ld ?_
     replace S:=(S.nl [.own v7 51 7 (x3 ++ [(Jy.mk y3.Rank y3.Who (Et r1.2.1 y3.Who An) y3.Time y3.Fault (Fo.mk x4 x5))]).length ((x3 ++ [(Jy.mk y3.Rank y3.Who (Et r1.2.1 y3.Who An) y3.Time y3.Fault (Fo.mk x4 x5))]).flatMap Jy.enc),.map b6 (Gx Value.string (fun x=>Value.agg (Fo.enc x).toArray) x2) x2.length,.blk b1 (Eu.enc Ar) 38] [false,false,false,true,true,true] rfl).k7 3 7 13 16 84 85 86 rfl
     exact Im (Tn (Fg (Vq S Gw rfl rfl rfl fun a S=>Vm S rfl rfl fun a S=>Dl (⟨ys3,⟨i3 + 1,(x3 ++ [(Jy.mk y3.Rank y3.Who (Et r1.2.1 y3.Who An) y3.Time y3.Fault (Fo.mk x4 x5))]),v7,⟨_,(hd3).trans (List.append_cons _ _ _),by simp [hi3]⟩,h,S.nf [true,true,true] rfl ⟨rfl,rfl,rfl,rfl,rfl,rfl,(congrArg (fun z=>some (Value.int .i64 z)) (Iw hd3 hi3 (Kh (Hn Ej.enc_ok hs3)))),trivial⟩⟩,Nat.lt_succ_self _⟩))))
   clear S h;rintro a w18 ⟨x3,v6,h,S⟩;rw [hj3] at h;clear hj3 j3
   refine Tn (Fr (Vm S rfl rfl fun a S=>Va S rfl rfl fun a S=>Vk S rfl rfl fun a S=>Dl (wp_ret ?_)))
   obtain rfl:=Option.some.inj h
   exact Nz S results21 rfl rfl ⟨_,rfl,(Uf S (i:=0) rfl rfl)⟩
theorem IX (w : World) (Ag : Ni) (Cm : R32) (Cu : Wm (view w []) Ag Cm) (Ab : Value) (Ad : List Eg) (Ae : Slc (view w []) 11 Ab (Ad.map Eg.enc)) (As : ByteArray) (Bd : Int) (r : (List Jy) × Int) (h : Xr Ag Ad As Bd = some r) :
    Calls prog 7 [.agg (R32.enc Cm).toArray,Ab,sV As,iV Bd].toArray w (Ret w [] fun τ v _=>∃ u1 : Value,v = .tuple #[u1,iV r.2] ∧ Ve τ 51 7 u1 r.1.length (r.1.flatMap Jy.enc)):=by
 obtain ⟨u1,u2,rfl,hs1,⟨u3,rfl,hs2⟩⟩:=Cu
 refine Fe func7 rfl ntmps7 rfl fun a S=>?_
 unfold Xr at h
 replace S:=S.k4 0 1 2 3 rfl
 refine Fr (Mk S (S.tm rfl) (cs:=[u1.val,u3.val,iV Ag.Table.Relay,iV Ag.Table.Most,iV Ag.Final.Size,iV Ag.Final.Many,iV Ag.Final.Reserves]) rfl rfl ?_);clear S;intro a w1 b1 hz1 hk1 S
 refine Vk S rfl rfl fun a S=>Vk S rfl rfl fun a S=>Dz (lv S (Gh isAgg32 sizeOf32 (off:=0) (o:=0) (part:=[u1.val,u3.val,iV Ag.Table.Relay,iV Ag.Table.Most,iV Ag.Final.Size,iV Ag.Final.Many,iV Ag.Final.Reserves]) rfl rfl (S.tm rfl) (S.cellsAt (i:=0) rfl)) rfl ?_);clear S;intro a S
 iterate 3 (refine Vm S rfl rfl ?_;clear S;intro a S)
 obtain ⟨r1,hr1,h⟩:=Ga h
 have hz2:=S.keep.size
 refine Er S (fun _=>Ei (vs:=[.agg (R32.enc (R32.mk u1 (R28.mk u3 Ag.Table.Relay Ag.Table.Most) Ag.Final)).toArray,Ab,sV As,iV Bd]) ⟨(S.tm rfl),(S.tm rfl),(S.tm rfl),(S.tm rfl),trivial⟩ call20) (PY _ (join (view w []) nov) (Ry (S.le_arg Ez) (S.le_new Ez)) Ag (R32.mk u1 (R28.mk u3 Ag.Table.Relay Ag.Table.Most) Ag.Final) ⟨u1,(R28.mk u3 Ag.Table.Relay Ag.Table.Most),rfl,(hs1.mono (le_join_left _ _)),⟨u3,rfl,(hs2.mono (le_join_left _ _))⟩⟩ Ab Ad (Ae.mono (le_join_left _ _)) As Bd _ hr1) rfl ?_;clear S;intro v1 a w2 hv1 hk2 hn1 S
 obtain ⟨u4,rfl,ho1⟩:=hv1
 obtain ⟨φ1,hl1,hm1,S⟩:=S.see' hn1 hz2
 have hq1:=EM.mono (Ua (Vi hl1 hm1)) (Vi hl1 hm1) ho1
 refine Vm S rfl rfl ?_;clear S;intro a S
 iterate 3 (refine Vq S Ia rfl rfl rfl ?_;clear S;intro a S)
 refine Iz S zeroValue38 (cs:=[sV An,iV 0,iV 0,iV 0,iV 0,iV 0,iV 0,iV 0]) rfl rfl ?_;clear S;intro a w3 b2 hz3 hk3 S
 refine Va S rfl rfl fun a S=>Ft S (S.tm rfl) (S.tm rfl) (i:=0) (off:=0) rfl sizeOf38 (vs:=(Eu.enc r1.2.1)) rfl rfl rfl rfl ?_;clear S;intro w4 hk4 S
 refine Va S rfl rfl fun a S=>Ld ?_
 replace S:=(S.nl [.blk b2 (Eu.enc r1.2.1) 38] [true,false] rfl).k3 10 11 12 rfl
 refine Tn (Fs (Fr (Vm S rfl rfl fun a S=>Vq S Nt rfl rfl rfl fun a S=>Dl (Fc h (S.tm rfl) (fun hb1 h=>?_) (fun hb1 h=>?_)))))
 ·refine Fr (Vm S rfl rfl fun a S=>Vk S rfl rfl fun a S=>Va S rfl rfl fun a S=>Dl (wp_ret (Ek ?_)))
  obtain rfl:=Option.some.inj h
  exact Nz S results7 rfl rfl ⟨_,rfl,(Ug _ _ _)⟩
 ·refine wp_skip (Tn (Fr (Vm S rfl rfl fun a S=>lv S (Gh isAgg38 sizeOf38 (off:=0) (o:=0) (part:=(Eu.enc r1.2.1)) rfl rfl (S.tm rfl) (S.cellsAt (i:=0) rfl)) rfl ?_)));clear S;intro a S
  obtain ⟨r2,hr2,h⟩:=Ga h
  obtain ⟨b3,q1,rfl,hq2,hb2⟩:=hq1.deref hr2
  obtain ⟨u5,u9,rfl,⟨u6,u7,rfl,hs3,⟨u8,rfl,hs4⟩⟩,hs5⟩:=hq2
  replace hb2 : (join (view w []) φ1) b3 = some (.cells [u6.val,u8.val,iV r2.p_.Table.Relay,iV r2.p_.Table.Most,iV r2.p_.Final.Size,iV r2.p_.Final.Many,iV r2.p_.Final.Reserves,u9.val].toArray 128 (0,0)):=hb2
  obtain ⟨r3,hr3,h⟩:=Ga h
  have hz4:=S.keep.size
  refine Er S (fun _=>Ei (vs:=[.pointer (some ⟨b3,0,none⟩),.agg (Eu.enc r1.2.1).toArray]) ⟨(S.tm rfl),(S.tm rfl),trivial⟩ call21) (HM _ b3 r2.p_ (R32.mk u6 (R28.mk u8 r2.p_.Table.Relay r2.p_.Table.Most) r2.p_.Final) ⟨u6,(R28.mk u8 r2.p_.Table.Relay r2.p_.Table.Most),rfl,(hs3.mono (Ry (S.le_arg Ez) (S.le_new Ez))),⟨u8,rfl,(hs4.mono (Ry (S.le_arg Ez) (S.le_new Ez)))⟩⟩ u9.val r2.deeds_ (hs5.mono (Ry (S.le_arg Ez) (S.le_new Ez))) ((Ry (S.le_arg Ez) (S.le_new Ez)) _ _ hb2) r1.2.1 _ hr3) rfl ?_;clear S;intro v2 a w5 hv2 hk5 hn2 S
  obtain ⟨u10,rfl,ho2⟩:=hv2
  obtain ⟨φ2,hl2,hm2,S⟩:=S.see' hn2 hz4
  have hs6:=ho2.mono hm2
  refine Vq S Ia rfl rfl rfl fun a S=>Vq S Ia rfl rfl rfl fun a S=>Va S rfl rfl fun a S=>Va S rfl rfl fun a S=>Dl (wp_ret ?_)
  obtain rfl:=Option.some.inj h
  exact Nz S results7 rfl rfl ⟨_,rfl,((hs6).mono S.le_newer)⟩
theorem Xc (w : World) (Ah : Ex) (Aj : Ex) (r : Int) (h : Ja Ah Aj = r) :
    Calls prog 9 [.agg (Ex.enc Ah).toArray,.agg (Ex.enc Aj).toArray].toArray w (Ret w [] fun _ v _=>v = iV r):=by
 refine Fe func9 rfl ntmps9 rfl fun a S=>?_
 unfold Ja at h
 replace S:=S.k2 0 1 rfl
 refine Fr (Mk S (S.tm rfl) (cs:=(Ex.enc Ah)) rfl rfl ?_);clear S;intro a w1 b1 hz1 hk1 S
 refine Mk S (S.tm rfl) (cs:=(Ex.enc Aj)) rfl rfl ?_;clear S;intro a w2 b2 hz2 hk2 S
 refine Vk S rfl rfl fun a S=>Dl (Fs (Fr (Vf Zf S rfl rfl fun a S=>Vl isAgg9 1 S rfl rfl rfl rfl fun a S=>Vf Zf S rfl rfl fun a S=>Vl isAgg9 0 S rfl rfl rfl rfl fun a S=>Vb S rn_slss rfl rfl rfl ?_)));clear S;intro a S
 refine Dl (Fc h (S.tm rfl) (fun hb1 h=>?_) (fun hb1 h=>?_))
 ·refine Fr (Vk S rfl rfl fun a S=>Dl (wp_ret (Ek ?_)))
  subst h
  exact Fd S results9 rfl rfl
 ·refine wp_skip (Tn (Fr (Vk S rfl rfl fun a S=>Dl (wp_ret ?_))))
  subst h
  exact Fd S results9 rfl rfl
set_option maxRecDepth 20000 in
theorem Ox (w : World) (U : Value) (Ak : List Ex) (Bh : (LEnt.own U 53 8 Ak.length (Ak.flatMap Ex.enc)).holds w) (Ah : Int) (Aj : Int) (r : (List Ex)) (h : Hr Ak Ah Aj = some r) :
    Calls prog 50 [U,iV Ah,iV Aj,.func (.func 9) #[] #[]].toArray w (Ret w (U.ownBlock.toList) fun _ v w'=>(LEnt.own U 53 8 r.length (r.flatMap Ex.enc)).holds w' ∧ v = .tuple #[]):=by
 refine Nb (U.ownBlock.toList) [.own U 53 8 Ak.length (Ak.flatMap Ex.enc)] func50 rfl ntmps50 rfl (fun e he=>by simp only [List.mem_singleton] at he;subst he;exact Bh) (Kw _) (Mv _) fun a S=>?_
 unfold Hr at h
 replace S:=(S.nl [.own U 53 8 Ak.length (Ak.flatMap Ex.enc)] [true] rfl).k4 0 1 2 3 rfl
 refine Fr (Vm S rfl rfl fun a S=>Vq S Gw rfl rfl rfl fun a S=>Va S rfl rfl fun a S=>Dl ?_)
 replace S:=S.k5 0 1 2 3 8 rfl
 obtain ⟨j1,hj1,h⟩:=Fk h
 refine Fa (fun a w'=>∃ x1 : List Ex,j1 x1 = some r ∧ Sx w (U.ownBlock.toList) nov [.own U 53 8 x1.length (x1.flatMap Ex.enc)] [] 53 a w') ?_ ?_
 ·refine wp_block (Hs (fun (m1 : Nat) a w'=>∃ x1 : List Ex,∃ x2 : Int,Fb Aj Ah j1 m1 x1 x2 = some r ∧ Sx w (U.ownBlock.toList) nov [.own U 53 8 x1.length (x1.flatMap Ex.enc)] [(0,U),(1,iV Ah),(2,iV Aj),(3,.func (.func 9) #[] #[]),(8,iV x2)] 53 a w') id ((Aj - (W (Ah + 1))).toNat + 2) ⟨Ak,W (Ah + 1),h,S.nf [true] rfl (subR rfl)⟩ ?_)
  clear S h;rintro m1 a w1 ⟨x1,x2,h,S⟩
  cases m1 with
  | zero=>rw [Fb.eq_1] at h;cases h
  | succ m1 =>
   rw [Fb.eq_2] at h
   refine Fs (Fr (Vm S rfl rfl fun a S=>Vm S rfl rfl fun a S=>Vb S Fp rfl rfl rfl fun a S=>Dl (Fc h (S.tm rfl) (fun hb1 h=>?_) (fun hb1 h=>?_))))
   ·refine wp_skip (Tn (Fs (wp_block (Fr (Vm S rfl rfl fun a S=>Va S rfl rfl fun a S=>Dl ?_)))))
    replace S:=S.k6 0 1 2 3 8 9 rfl
    obtain ⟨j2,hj2,h⟩:=Fk h
    refine Fa (fun a w'=>∃ x3 : List Ex,j2 x3 = some r ∧ Sx w (U.ownBlock.toList) nov [.own U 53 8 x3.length (x3.flatMap Ex.enc)] [(0,U),(1,iV Ah),(2,iV Aj),(3,.func (.func 9) #[] #[]),(8,iV x2)] 53 a w') ?_ ?_
    ·refine wp_block (Hs (fun (m2 : Nat) a w'=>∃ x3 : List Ex,∃ x4 : Int,Ev Ah j2 m2 x3 x4 = some r ∧ Sx w (U.ownBlock.toList) nov [.own U 53 8 x3.length (x3.flatMap Ex.enc)] [(0,U),(1,iV Ah),(2,iV Aj),(3,.func (.func 9) #[] #[]),(8,iV x2),(9,iV x4)] 53 a w') id ((x2 - Ah).toNat + 2) ⟨x1,x2,h,S.nf [true] rfl (subR rfl)⟩ ?_)
     clear S h;rintro m2 a w3 ⟨x3,x4,h,S⟩
     cases m2 with
     | zero=>rw [Ev.eq_1] at h;cases h
     | succ m2 =>
      rw [Ev.eq_2] at h
      refine Fs (Fs ?_)
      obtain ⟨j3,hj3,h⟩:=Fk h
      refine Fa (fun a w'=>∃ x5 : Bool,j3 x5 = some r ∧ Sx w (U.ownBlock.toList) nov [.own U 53 8 x3.length (x3.flatMap Ex.enc)] [(0,U),(1,iV Ah),(2,iV Aj),(3,.func (.func 9) #[] #[]),(8,iV x2),(9,iV x4),(34,bV x5)] 53 a w') ?_ ?_
      ·rcases Bool.eq_false_or_eq_true (decide (Ah < x4)) with hb2 | hb2
       ·replace h:=Rz h hb2
        obtain ⟨hc1,h⟩:=Jc h
        obtain ⟨hc2,h⟩:=Jc h
        refine Hd [] ([]) Tryz.mixed S rfl (by kernel_rfl) ?_;clear S;intro w7 hk2 hsel S
        refine Eo 0 S hsel rfl rfl rfl (by kernel_rfl) (by kernel_rfl) rfl (fun _ hw=>(Rm (S.tm rfl))) fun a S=>Eo 1 S hsel rfl rfl rfl (by kernel_rfl) (by kernel_rfl) rfl (fun _ hw=>(Rm (S.tm rfl))) fun a S=>Eo 2 S hsel rfl rfl rfl (by kernel_rfl) (by kernel_rfl) rfl (fun _ hw=>(Jz (S.tm rfl) (S.tm rfl))) fun a S=>Eo 3 S hsel rfl rfl rfl (by kernel_rfl) (by kernel_rfl) rfl (fun _ hw=>(Rm (S.tm rfl))) fun a S=>Ey 4 S hsel rfl rfl rfl rfl hb2 rfl rfl (by kernel_rfl) (by kernel_rfl) rfl (fun _ hw=>(Rm (S.tm rfl))) fun a S=>Ey 5 S hsel rfl rfl rfl rfl hb2 rfl rfl (by kernel_rfl) (by kernel_rfl) rfl (fun _ hw=>(Rm (S.tm rfl))) fun a S=>Ey 6 S hsel rfl rfl rfl rfl hb2 rfl rfl (by kernel_rfl) (by kernel_rfl) rfl (fun _ hw=>(Rm (S.tm rfl))) ?_;clear S;intro a S
        obtain ⟨b3,hg3,hr3⟩:=Hy (a:=a) (x:=.tmp 23) (y:=.tmp 24) (ty:=0) AG Ex.enc_ok S (i:=0) rfl (Es hc1).1 (Es hc1).2 (S.tm rfl) (S.tm rfl)
        refine Ey 7 S hsel rfl rfl rfl rfl hb2 rfl rfl (by kernel_rfl) (by kernel_rfl) rfl (fun _ hw=>(hr3 _)) ?_;clear S;intro a S
        clear hr3
        refine Ey 8 S hsel rfl rfl rfl rfl hb2 rfl rfl (by kernel_rfl) (by kernel_rfl) rfl (fun _ hw=>(Gh isAgg53 sizeOf53 (off:=x4.toNat * 8) (o:=0) (part:=(Ex.enc (nth x3 x4))) rfl rfl (S.tm rfl) ((Pm Ex.enc_ok S (i:=0) rfl hg3 (Es hc1).1 (Ik (e':=.own U 53 8 x3.length (x3.flatMap Ex.enc)))).kept hw))) fun a S=>Ey 9 S hsel rfl rfl rfl rfl hb2 rfl rfl (by kernel_rfl) (by kernel_rfl) rfl (fun _ hw=>(Rm (S.tm rfl))) fun a S=>Ey 10 S hsel rfl rfl rfl rfl hb2 rfl rfl (by kernel_rfl) (by kernel_rfl) rfl (fun _ hw=>(Rm (S.tm rfl))) fun a S=>Ey 11 S hsel rfl rfl rfl rfl hb2 rfl rfl (by kernel_rfl) (by kernel_rfl) rfl (fun _ hw=>(Jt (S.tm rfl) rfl)) ?_;clear S;intro a S
        obtain ⟨b4,hg4,hr4⟩:=Hy (a:=a) (x:=.tmp 27) (y:=.tmp 29) (ty:=0) AG Ex.enc_ok S (i:=0) rfl (Es hc2).1 (Es hc2).2 (S.tm rfl) (S.tm rfl)
        refine Ey 12 S hsel rfl rfl rfl rfl hb2 rfl rfl (by kernel_rfl) (by kernel_rfl) rfl (fun _ hw=>(hr4 _)) ?_;clear S;intro a S
        clear hr4
        refine Ey 13 S hsel rfl rfl rfl rfl hb2 rfl rfl (by kernel_rfl) (by kernel_rfl) rfl (fun _ hw=>(Gh isAgg53 sizeOf53 (off:=((W (x4 - 1)).toNat) * 8) (o:=0) (part:=(Ex.enc (nth x3 (W (x4 - 1))))) rfl rfl (S.tm rfl) ((Pm Ex.enc_ok S (i:=0) rfl hg4 (Es hc2).1 (Ik (e':=.own U 53 8 x3.length (x3.flatMap Ex.enc)))).kept hw))) fun a S=>Hi 14 (by kernel_rfl) rfl (Em S rfl rfl rfl hb2 (Er S (fun _=>Te (cap:=[]) (S.tm rfl) (vs:=[.agg (Ex.enc (nth x3 x4)).toArray,.agg (Ex.enc (nth x3 (W (x4 - 1)))).toArray]) ⟨(S.tm rfl),(S.tm rfl),trivial⟩ call9) (Xc _ (nth x3 x4) (nth x3 (W (x4 - 1))) _ rfl) rfl ?_));clear S;intro v2 a w8 hv2 hk3 hn2 S
        subst hv2
        refine Ld (It hk3 (Kt [15,16] hsel (by kernel_rfl) rfl ?_))
        clear hsel
        refine Fx S rfl rfl rfl rfl hb2 (He S (Fp (S.tm rfl) rfl) rfl fun a S=>Gv S rfl (Qe hb2 (S.tm rfl) (S.tm rfl)) rfl fun a S=>Jb ?_)
        replace S:=S.nk [.own U 53 8 x3.length (x3.flatMap Ex.enc)] [(0,U),(1,iV Ah),(2,iV Aj),(3,.func (.func 9) #[] #[]),(8,iV x2),(9,iV x4),(22,.func (.func 9) #[] #[]),(23,U),(24,iV x4),(25,.pointer (some ⟨b3,x4.toNat * 8,none⟩)),(26,.agg (Ex.enc (nth x3 x4)).toArray),(27,U),(28,iV x4),(29,iV (W (x4 - 1))),(30,.pointer (some ⟨b4,((W (x4 - 1)).toNat) * 8,none⟩)),(31,.agg (Ex.enc (nth x3 (W (x4 - 1)))).toArray),(32,iV (Ja (nth x3 x4) (nth x3 (W (x4 - 1))))),(33,bV (decide ((Ja (nth x3 x4) (nth x3 (W (x4 - 1)))) < 0))),(34,bV (decide ((Ja (nth x3 x4) (nth x3 (W (x4 - 1)))) < 0)))] [true] rfl (subR rfl)
        exact Tn (⟨decide ((Ja (nth x3 x4) (nth x3 (W (x4 - 1)))) < 0),h,S.nf [true] rfl (subR rfl)⟩)
       ·replace h:=Sa h hb2
        refine Hd [] ([]) Tryz.mixed S rfl (by kernel_rfl) ?_;clear S;intro w9 hk4 hsel S
        refine Kt [0,1,2,3,4,5,6,7,8,9,10,11,12,13,14,15,16] hsel (by kernel_rfl) rfl ?_
        clear hsel
        refine Gv S rfl (Rm (S.tm rfl)) rfl fun a S=>Gv S rfl (Rm (S.tm rfl)) rfl fun a S=>Gv S rfl (Jz (S.tm rfl) (S.tm rfl)) rfl fun a S=>Gv S rfl (Rm (S.tm rfl)) rfl ?_;clear S;intro a S
        iterate 12 (refine Qo S rfl rfl rfl rfl (Ka hb2) rfl ?_ rfl;clear S;intro a S)
        refine Gv S rfl (Qf hb2 (S.tm rfl) rfl) rfl fun a S=>Jb ?_
        replace S:=S.k7 0 1 2 3 8 9 34 rfl
        exact Tn (⟨false,h,S.nf [true] rfl (subR rfl)⟩)
      clear S h;rintro a w5 ⟨x5,h,S⟩;rw [hj3] at h;clear hj3 j3
      refine Tn (Fc h (S.tm rfl) (fun hb3 h=>?_) (fun hb3 h=>?_))
      ·refine wp_skip (Tn (Fs (wp_block ?_)))
       obtain ⟨hc3,h⟩:=Jc h
       obtain ⟨hc4,h⟩:=Jc h
       obtain ⟨hc5,h⟩:=Jc h
       obtain ⟨hc6,h⟩:=Jc h
       refine Hd [15,17] ([]) Tryz.mixed S rfl (by kernel_rfl) ?_;clear S;intro w14 hk9 hsel S
       refine Hb 0 S hsel rfl rfl (by kernel_rfl) (by kernel_rfl) rfl (fun _=>(Rm (S.tm rfl))) fun a S=>Hb 1 S hsel rfl rfl (by kernel_rfl) (by kernel_rfl) rfl (fun _=>(Rm (S.tm rfl))) fun a S=>Hb 2 S hsel rfl rfl (by kernel_rfl) (by kernel_rfl) rfl (fun _=>(Rm (S.tm rfl))) fun a S=>Hb 3 S hsel rfl rfl (by kernel_rfl) (by kernel_rfl) rfl (fun _=>(Rm (S.tm rfl))) fun a S=>Hb 4 S hsel rfl rfl (by kernel_rfl) (by kernel_rfl) rfl (fun _=>(Jt (S.tm rfl) rfl)) fun a S=>Hb 5 S hsel rfl rfl (by kernel_rfl) (by kernel_rfl) rfl (fun _=>(Rm (S.tm rfl))) fun a S=>Hb 6 S hsel rfl rfl (by kernel_rfl) (by kernel_rfl) rfl (fun _=>(Rm (S.tm rfl))) fun a S=>Hb 7 S hsel rfl rfl (by kernel_rfl) (by kernel_rfl) rfl (fun _=>(Jt (S.tm rfl) rfl)) ?_;clear S;intro a S
       obtain ⟨b9,hg9,hr9⟩:=Hy (a:=a) (x:=.tmp 42) (y:=.tmp 44) (ty:=0) AG Ex.enc_ok S (i:=0) rfl (Es hc3).1 (Es hc3).2 (S.tm rfl) (S.tm rfl)
       refine Hb 8 S hsel rfl rfl (by kernel_rfl) (by kernel_rfl) rfl (fun _=>(hr9 _)) ?_;clear S;intro a S
       clear hr9
       refine Eo 9 S hsel rfl (by kernel_rfl) (by kernel_rfl) (by kernel_rfl) (by kernel_rfl) rfl (fun _ hw=>(Gh isAgg53 sizeOf53 (off:=((W (x4 - 1)).toNat) * 8) (o:=0) (part:=(Ex.enc (nth x3 (W (x4 - 1))))) rfl rfl (S.tm rfl) ((Pm Ex.enc_ok S (i:=0) rfl hg9 (Es hc3).1 (Ik (e':=.own U 53 8 x3.length (x3.flatMap Ex.enc)))).kept hw))) fun a S=>Hb 10 S hsel rfl rfl (by kernel_rfl) (by kernel_rfl) rfl (fun _=>(Rm (S.tm rfl))) fun a S=>Hb 11 S hsel rfl rfl (by kernel_rfl) (by kernel_rfl) rfl (fun _=>(Rm (S.tm rfl))) ?_;clear S;intro a S
       obtain ⟨b10,hg10,hr10⟩:=Hy (a:=a) (x:=.tmp 47) (y:=.tmp 48) (ty:=0) AG Ex.enc_ok S (i:=0) rfl (Es hc4).1 (Es hc4).2 (S.tm rfl) (S.tm rfl)
       refine Hb 12 S hsel rfl rfl (by kernel_rfl) (by kernel_rfl) rfl (fun _=>(hr10 _)) ?_;clear S;intro a S
       clear hr10
       refine Eo 13 S hsel rfl (by kernel_rfl) (by kernel_rfl) (by kernel_rfl) (by kernel_rfl) rfl (fun _ hw=>(Gh isAgg53 sizeOf53 (off:=x4.toNat * 8) (o:=0) (part:=(Ex.enc (nth x3 x4))) rfl rfl (S.tm rfl) ((Pm Ex.enc_ok S (i:=0) rfl hg10 (Es hc4).1 (Ik (e':=.own U 53 8 x3.length (x3.flatMap Ex.enc)))).kept hw))) ?_;clear S;intro a S
       obtain ⟨b11,hg11,hr11⟩:=Hy (a:=a) (x:=.tmp 37) (y:=.tmp 38) (ty:=0) AG Ex.enc_ok S (i:=0) rfl (Es hc5).1 (Es hc5).2 (S.tm rfl) (S.tm rfl)
       refine Hb 14 S hsel rfl rfl (by kernel_rfl) (by kernel_rfl) rfl (fun _=>(hr11 _)) ?_;clear S;intro a S
       clear hr11
       refine Zb 15 (U.ownBlock.toList) rfl (by kernel_rfl) rfl (Qn (c:=0) (j:=x4.toNat) (nth x3 (W (x4 - 1))) Ex.enc_ok S (S.tm rfl) (S.tm rfl) (i:=0) rfl hg11 (Es hc5).1 sizeOf53 (vs:=[iV ((nth x3 (W (x4 - 1))).At),iV ((nth x3 (W (x4 - 1))).Kind),sV ((nth x3 (W (x4 - 1))).Id),sV ((nth x3 (W (x4 - 1))).Who),sV ((nth x3 (W (x4 - 1))).Club),sV ((nth x3 (W (x4 - 1))).Race),iV ((nth x3 (W (x4 - 1))).Age),iV ((nth x3 (W (x4 - 1))).Time)]) rfl rfl rfl rfl rfl ?_);clear S;intro w16 hk11 S
       refine Ld (Zc ?_)
       obtain ⟨b12,hg12,hr12⟩:=Hy (a:=a) (x:=.tmp 39) (y:=.tmp 41) (ty:=0) AG Ex.enc_ok S (i:=0) rfl (Es hc6).1 (Es hc6).2 (S.tm rfl) (S.tm rfl)
       refine Eo 16 S hsel rfl rfl rfl (by kernel_rfl) (by kernel_rfl) rfl (fun _ hw=>(hr12 _)) ?_;clear S;intro a S
       clear hr12
       refine Hi 17 (by kernel_rfl) rfl (Qn (c:=0) (j:=(W (x4 - 1)).toNat) (nth x3 x4) Ex.enc_ok S (S.tm rfl) (S.tm rfl) (i:=0) rfl hg12 (Es hc6).1 sizeOf53 (vs:=[iV ((nth x3 x4).At),iV ((nth x3 x4).Kind),sV ((nth x3 x4).Id),sV ((nth x3 x4).Who),sV ((nth x3 x4).Club),sV ((nth x3 x4).Race),iV ((nth x3 x4).Age),iV ((nth x3 x4).Time)]) rfl rfl rfl rfl rfl ?_);clear S;intro w18 hk13 S
       refine Ld (It hk13 (Xy (by kernel_rfl) ?_))
       clear hsel
       replace S:=(S.nl [.own U 53 8 ((x3.set x4.toNat (nth x3 (W (x4 - 1)))).set ((W (x4 - 1)).toNat) (nth x3 x4)).length (((x3.set x4.toNat (nth x3 (W (x4 - 1)))).set ((W (x4 - 1)).toNat) (nth x3 x4)).flatMap Ex.enc)] [true] rfl).k6 0 1 2 3 8 9 rfl
       exact Im (Tn (Fg (Vm S rfl rfl fun a S=>Vq S Jt rfl rfl rfl fun a S=>Va S rfl rfl fun a S=>Dl (⟨m2,⟨((x3.set x4.toNat (nth x3 (W (x4 - 1)))).set ((W (x4 - 1)).toNat) (nth x3 x4)),W (x4 - 1),h,S.nf [true] rfl ⟨rfl,rfl,rfl,rfl,rfl,rfl,trivial⟩⟩,Nat.lt_succ_self _⟩))))
      ·exact wp_exit (Ew (Ew (Hl (Tn (⟨x3,h,S.nf [true] rfl (subR rfl)⟩)))))
    clear S h;rintro a w4 ⟨x3,h,S⟩;rw [hj2] at h;clear hj2 j2
    exact Im (Tn (Fg (Vm S rfl rfl fun a S=>Vq S Gw rfl rfl rfl fun a S=>Va S rfl rfl fun a S=>Dl (⟨m1,⟨x3,W (x2 + 1),h,S.nf [true] rfl ⟨rfl,rfl,rfl,rfl,rfl,trivial⟩⟩,Nat.lt_succ_self _⟩))))
   ·exact wp_exit (Ew (Ew (Hl (Tn (⟨x1,h,S.nf [true] rfl trivial⟩)))))
 clear S h;rintro a w2 ⟨x1,h,S⟩;rw [hj1] at h;clear hj1 j1
 obtain rfl:=Option.some.inj h
 exact Vg S results50 ⟨(S.holds _ (List.mem_of_getElem? (i:=0) rfl)),rfl⟩
theorem Py (w : World) (U : Value) (Ak : List Ex) (Bh : (LEnt.own U 53 8 Ak.length (Ak.flatMap Ex.enc)).holds w) (Ah : Int) (Aj : Int) (Cy : Int) (r : (List Ex)) (h : Jg Ak Ah Aj Cy = some r) :
    Calls prog 22 [U,iV Ah,iV Aj,iV Cy,.func (.func 9) #[] #[]].toArray w (Ret w (U.ownBlock.toList) fun _ v w'=>(LEnt.own U 53 8 r.length (r.flatMap Ex.enc)).holds w' ∧ v = .tuple #[]):=by
 refine Nb (U.ownBlock.toList) [.own U 53 8 Ak.length (Ak.flatMap Ex.enc)] func22 rfl ntmps22 rfl (fun e he=>by simp only [List.mem_singleton] at he;subst he;exact Bh) (Kw _) (Mv _) fun a S=>?_
 unfold Jg at h
 replace S:=(S.nl [.own U 53 8 Ak.length (Ak.flatMap Ex.enc)] [true] rfl).k5 0 1 2 3 4 rfl
 refine Fr (Vk S rfl rfl fun a S=>Dz (Vk S rfl rfl fun a S=>Dl ?_))
 replace S:=S.k6 0 1 2 3 4 10 rfl
 refine Fa (fun a w'=>False) ?_ ?_
 ·refine wp_block (Hs (fun (m1 : Nat) a w'=>∃ x1 : Int,∃ x2 : Int,∃ x3 : Int,∃ x4 : Bool,Fw Ak m1 x1 x2 x3 x4 = some r ∧ Sx w (U.ownBlock.toList) nov [.own U 53 8 Ak.length (Ak.flatMap Ex.enc)] [(0,U),(1,iV x1),(2,iV x2),(3,iV x3),(4,.func (.func 9) #[] #[]),(10,bV x4)] 148 a w') id 4611686018427387904 ⟨Ah,Aj,Cy,true,h,S.nf [true] rfl (subR rfl)⟩ ?_)
  clear S h;rintro m1 a w1 ⟨x1,x2,x3,x4,h,S⟩
  cases m1 with
  | zero=>rw [Fw.eq_1] at h;cases h
  | succ m1 =>
   rw [Fw.eq_2] at h
   refine wp_block (Fr (Vm S rfl rfl fun a S=>Vm S rfl rfl fun a S=>Vb S Jt rfl rfl rfl fun a S=>Va S rfl rfl fun a S=>Dl (Fs (Fs ?_))))
   refine Fg (Vm S rfl rfl fun a S=>Vq S Vd rfl rfl rfl fun a S=>Dl (Fc h (S.tm rfl) (fun hb1 h=>?_) (fun hb1 h=>?_)))
   ·refine Fs (Fg ?_)
    iterate 4 (refine Vm S rfl rfl ?_;clear S;intro a S)
    obtain ⟨r1,hr1,h⟩:=Ga h
    refine Pc 0 S rfl (fun _=>.own U 53 8 r1.length (r1.flatMap Ex.enc)) (fun _=>Ei (vs:=[U,iV x1,iV x2,.func (.func 9) #[] #[]]) ⟨(S.tm rfl),(S.tm rfl),(S.tm rfl),(S.tm rfl),trivial⟩ call50) (Ox _ U Ak (S.holds _ (List.mem_of_getElem? (i:=0) rfl)) x1 x2 _ hr1) rfl (fun _ _ _ h=>⟨h.1,fun _ hc=>hc⟩) ?_;clear S;intro v1 a w3 hv1 hk1 hn1 S
    replace hv1:=hv1.2
    subst hv1
    refine Ld ?_
    replace S:=(S.nl [.own U 53 8 r1.length (r1.flatMap Ex.enc)] [true] rfl).k0
    refine Tn (wp_ret (Ek (Gg (Ek (Gg (Ek ?_))))))
    obtain rfl:=Option.some.inj h
    exact Vg S results22 ⟨(S.holds _ (List.mem_of_getElem? (i:=0) rfl)),rfl⟩
   ·refine wp_skip (Tn (Fs (Fr (Vm S rfl rfl fun a S=>Vq S Jn rfl rfl rfl fun a S=>Dl (Fc h (S.tm rfl) (fun hb2 h=>?_) (fun hb2 h=>?_))))))
    ·refine Fs ?_
     cases h
    ·refine wp_skip (Tn (Fs (Fr (Vm S rfl rfl fun a S=>Vu S Ig rfl rfl fun a S=>Ld ?_))))
     replace S:=S.k1 39 rfl
     refine Tn (Fc h (S.tm rfl) (fun hb3 h=>?_) (fun hb3 h=>?_))
     ·refine Fs ?_
      cases h
     ·refine wp_skip (Tn (Fs ?_))
      cases h
 exact fun _ _ h=>h.elim
theorem Qs (w : World) (Bc : Value) (Ac : List Ex) (Cs : (LEnt.own Bc 53 8 Ac.length (Ac.flatMap Ex.enc)).holds w) (r : (List Ex)) (h : Ix Ac = some r) :
    Calls prog 8 [Bc,.func (.func 9) #[] #[]].toArray w (Ret w (Bc.ownBlock.toList) fun _ v w'=>(LEnt.own Bc 53 8 r.length (r.flatMap Ex.enc)).holds w' ∧ v = .tuple #[]):=by
 refine Nb (Bc.ownBlock.toList) [.own Bc 53 8 Ac.length (Ac.flatMap Ex.enc)] func8 rfl ntmps8 rfl (fun e he=>by simp only [List.mem_singleton] at he;subst he;exact Cs) (Kw _) (Mv _) fun a S=>?_
 unfold Ix at h
 replace S:=(S.nl [.own Bc 53 8 Ac.length (Ac.flatMap Ex.enc)] [true] rfl).k2 0 1 rfl
 refine Fr (Vm S rfl rfl fun a S=>lv S (Gn AG (S.tm rfl) (Qb (S.own_at (i:=0) rfl))) rfl fun a S=>Va S rfl rfl fun a S=>Dl (Fg ?_))
 iterate 3 (refine Vm S rfl rfl ?_;clear S;intro a S)
 refine Vu S (Xi underlying3 underlying76) rfl rfl ?_;clear S;intro a S
 obtain ⟨r1,hr1,h⟩:=Ga h
 refine Er S (fun _=>Ei (vs:=[.int .u64 (IntKind.wrap .u64 (Ac.length : Int))]) ⟨(S.tm rfl),trivial⟩ call23) (IG _ (IntKind.wrap .u64 (Ac.length : Int)) _ hr1) rfl ?_;clear S;intro v1 a w1 hv1 hk1 hn1 S
 subst hv1
 refine Vm S rfl rfl ?_;clear S;intro a S
 obtain ⟨r2,hr2,h⟩:=Ga h
 refine Pc 0 S rfl (fun _=>.own Bc 53 8 r2.length (r2.flatMap Ex.enc)) (fun _=>Ei (vs:=[Bc,iV 0,iV (Ac.length : Int),iV r1,.func (.func 9) #[] #[]]) ⟨(S.tm rfl),rfl,(S.tm rfl),(S.tm rfl),(S.tm rfl),trivial⟩ call22) (Py _ Bc Ac (S.holds _ (List.mem_of_getElem? (i:=0) rfl)) 0 (Ac.length : Int) r1 _ hr2) rfl (fun _ _ _ h=>⟨h.1,fun _ hc=>hc⟩) ?_;clear S;intro v2 a w2 hv2 hk2 hn2 S
 replace hv2:=hv2.2
 subst hv2
 refine Ld ?_
 obtain rfl:=Option.some.inj h
 exact Vg S results8 ⟨(S.holds _ (List.mem_of_getElem? (i:=0) rfl)),rfl⟩
set_option maxRecDepth 20000 in
theorem DO (w : World) (Ab : Value) (Ad : List Mw) (Dy : List R45) (Ae : Slc (view w []) 5 Ab (Dy.map R45.enc)) (Dm : Lp (Vo (view w [])) Ad Dy) (r : Int) (h : Uy Ad = some r) :
    Calls prog 98 [Ab].toArray w (Ret w [] fun _ v _=>v = iV r):=by
 refine Fe func98 rfl ntmps98 rfl fun a S=>?_
 unfold Uy at h
 replace S:=S.k1 0 rfl
 refine Fr (Vk S rfl rfl fun a S=>Dl (Fs (Fr (Vm S rfl rfl fun a S=>lv S (Gn JY (S.tm rfl) (Vh Ae Dm)) rfl fun a S=>Vq S Jz rfl rfl rfl ?_))));clear S;intro a S
 refine Dl (Fc h (S.tm rfl) (fun hb1 h=>?_) (fun hb1 h=>?_))
 ·refine Fr (Vk S rfl rfl fun a S=>Dl (wp_ret (Ek ?_)))
  obtain rfl:=Option.some.inj h
  exact Fd S results98 rfl rfl
 ·refine wp_skip (Tn (Fs (Fr (Vm S rfl rfl fun a S=>lv S (Gn JY (S.tm rfl) (Vh Ae Dm)) rfl fun a S=>lv S (Rm rfl) rfl fun a S=>Dl ?_))))
  replace S:=S.k4 0 10 11 12 rfl
  obtain ⟨j1,hj1,h⟩:=Fk h
  refine Fa (fun a w'=>j1 = some r ∧ Sx w [] nov [] [] 87 a w') ?_ ?_
  ·refine wp_block (Hs (fun (ys1 : List Mw) a w'=>∃ i1 : Nat,(∃ dn,Ad = dn ++ ys1 ∧ dn.length = i1) ∧ My Ad j1 ys1 i1 = some r ∧ Sx w [] nov [] [(0,Ab),(10,Ab),(11,iV (Ad.length : Int)),(12,iV (i1 : Int))] 87 a w') List.length Ad ⟨0,⟨[],rfl,rfl⟩,h,S.nf [] rfl (subR rfl)⟩ ?_)
   clear S h;rintro ys1 a w1 ⟨i1,⟨dn,hd1,hi1⟩,h,S⟩
   cases ys1 with
   | nil =>
    rw [My.eq_1] at h
    refine Fr (Vb S Fp rfl rfl rfl fun a S=>Ld ?_)
    replace S:=S.k5 0 10 11 12 13 rfl
    exact Tn (Fs (wp_cond_false ((S.tm rfl).trans (congrArg Value.bool (Jq hd1 hi1))) (wp_exit (Ew (Ew (Hl (Tn (⟨h,S.nf [] rfl trivial⟩))))))))
   | cons y1 ys1 =>
    rw [My.eq_2] at h
    refine Fr (Vb S Fp rfl rfl rfl fun a S=>Ld ?_)
    replace S:=S.k5 0 10 11 12 13 rfl
    refine Tn (Fs (wp_cond_true ((S.tm rfl).trans (congrArg Value.bool (Iv hd1 hi1))) (wp_skip (Tn (Fs (wp_block (Fr (Vm S rfl rfl ?_))))))));clear S;intro a S
    obtain ⟨r1,hg1,hl1⟩:=Lp.at Dm (Js hd1 hi1)
    obtain ⟨u1,rfl,hs1⟩:=hl1
    obtain ⟨b1,o1,hm1,hr1⟩:=Fv (a:=a) (x:=.tmp 10) (y:=.tmp 12) (ty:=0) JY Ae hg1 rfl (S.tm rfl) (S.tm rfl)
    refine lv S (hr1 _) rfl ?_;clear S;intro a S
    clear hr1
    refine lv S (Gh isAgg45 sizeOf45 (off:=o1) (o:=0) (part:=[sV y1.Key,sV y1.Race,u1.val,iV y1.Young,iV y1.Old]) rfl rfl (S.tm rfl) (hm1.at S.emb0)) rfl fun a S=>Iz S zeroValue45 (cs:=[sV An,sV An,.slice none 0 0,iV 0,iV 0]) rfl rfl ?_;clear S;intro a w3 b2 hz1 hk1 S
    refine Va S rfl rfl fun a S=>Ft S (S.tm rfl) (S.tm rfl) (i:=0) (off:=0) rfl sizeOf45 (vs:=[sV y1.Key,sV y1.Race,u1.val,iV y1.Young,iV y1.Old]) rfl rfl rfl (Rf rfl (Rf rfl (Rf (Lo.one (Gk hs1)) (Rf rfl (Rf rfl rfl))))) ?_;clear S;intro w4 hk2 S
    refine Dl (Fs (wp_block (Fr (Vf GE S rfl rfl fun a S=>Vl isAgg9 0 S rfl rfl rfl rfl ?_))));clear S;intro a S
    obtain ⟨r2,hr2,h⟩:=Ga h
    refine Er S (fun _=>Ei (vs:=[sV y1.Key]) ⟨(S.tm rfl),trivial⟩ call107) (Jp _ y1.Key _ hr2) rfl ?_;clear S;intro v1 a w5 hv1 hk3 hn1 S
    subst hv1
    refine Vu S Ig rfl rfl fun a S=>Vm S rfl rfl ?_;clear S;intro a S
    obtain ⟨j2,hj2,h⟩:=Fk h
    refine Io 5 (fun a w'=>∃ c1,j2 c1 = some r ∧ Keep [] w5 w' ∧ Sx w [] nov [.blk b2 [sV y1.Key,sV y1.Race,u1.val,iV y1.Young,iV y1.Old] 45] [(0,Ab),(3,iV (i1 : Int)),(4,.pointer (some ⟨b2,0,none⟩)),(10,Ab),(11,iV (Ad.length : Int)),(12,iV (i1 : Int)),(27,bV c1)] 87 a w') ?_ ?_
    ·rcases Bool.eq_false_or_eq_true (!r2) with hb2 | hb2
     ·replace h:=Rz h hb2
      iterate 4 (refine Hk S rfl rfl rfl (Ng hb2) rfl ?_ rfl;clear S;intro a S)
      exact Vq S (Lk true hb2) rfl rfl rfl fun a S=>Dl (⟨_,h,Keep.refl _ _,S.nf [true] rfl (subR rfl)⟩)
     ·replace h:=Sa h hb2
      refine Em S rfl rfl rfl hb2 (Vf TA S rfl rfl fun a S=>Em S rfl rfl rfl hb2 (Vl isAgg9 0 S rfl rfl rfl rfl fun a S=>Em S rfl rfl rfl hb2 ?_))
      obtain ⟨r3,hr3,h⟩:=Ga h
      refine Er S (fun _=>Ei (vs:=[sV y1.Race]) ⟨(S.tm rfl),trivial⟩ call107) (Jp _ y1.Race _ hr3) rfl ?_;clear S;intro v2 a w7 hv2 hk4 hn2 S
      subst hv2
      exact Em S rfl rfl rfl hb2 (Vu S Ig rfl rfl fun a S=>lv S (Ll hb2 (S.tm rfl) (S.tm rfl)) rfl fun a S=>Dl (⟨_,h,hk4,S.nf [true] rfl (subR rfl)⟩))
    clear S h;rintro a w6 ⟨c1,h,hk5,S⟩;rw [hj2] at h;clear hj2 j2
    refine Va S rfl rfl fun a S=>Dl (Fc h (S.tm rfl) (fun hb3 h=>?_) (fun hb3 h=>?_))
    ·refine Fr (Vk S rfl rfl fun a S=>Dl (wp_ret (Gg (Ek (Gg (Ek (Ek ?_)))))))
     refine Gg (Ek (Ek ?_))
     obtain rfl:=Option.some.inj h
     exact Fd S results98 rfl rfl
    ·refine Fs (Hd [] ([]) Tryz.mixed S rfl (by kernel_rfl) ?_);clear S;intro w8 hk6 hsel S
     refine Kt [0,1,2,3,4,5,6,7,8,9,10,11,12,13] hsel (by kernel_rfl) rfl ?_
     clear hsel
     refine Gv S rfl (Rm (S.tm rfl)) rfl fun a S=>Gv S rfl (Jz (S.tm rfl) rfl) rfl fun a S=>Gv S rfl (Rm (S.tm rfl)) rfl ?_;clear S;intro a S
     obtain ⟨j3,hj3,h⟩:=Fk h
     refine Zn 10 (fun a w'=>∃ c2,j3 c2 = some r ∧ Keep [] w8 w' ∧ Sx w [] nov [.blk b2 [sV y1.Key,sV y1.Race,u1.val,iV y1.Young,iV y1.Old] 45] [(0,Ab),(4,.pointer (some ⟨b2,0,none⟩)),(10,Ab),(11,iV (Ad.length : Int)),(12,iV (i1 : Int)),(41,bV c2)] 87 a w') ?_ ?_
     ·rcases Bool.eq_false_or_eq_true (decide (0 < (i1 : Int))) with hb4 | hb4
      ·replace h:=Rz h hb4
       refine Fx S rfl rfl rfl rfl hb4 (He S (Gb GE (S.tm rfl)) rfl fun a S=>Fx S rfl rfl rfl rfl hb4 (He S (Mg isAgg9 (S.tm rfl) (S.cell (i:=0) rfl rfl)) rfl fun a S=>Fx S rfl rfl rfl rfl hb4 (He S (Rm (S.tm rfl)) rfl fun a S=>Fx S rfl rfl rfl rfl hb4 (He S (Rm (S.tm rfl)) rfl fun a S=>Fx S rfl rfl rfl rfl hb4 (He S (Jt (S.tm rfl) rfl) rfl fun a S=>Fx S rfl rfl rfl rfl hb4 ?_)))))
       obtain ⟨hc1,h⟩:=Jc h
       obtain ⟨r4,hg2,hl2⟩:=JS Dm hc1
       obtain ⟨u2,rfl,hs2⟩:=hl2
       obtain ⟨b3,o2,hm2,hr4⟩:=Fv (a:=a) (x:=.tmp 34) (y:=.tmp 36) (ty:=0) JY Ae hg2 (Es hc1).2 (S.tm rfl) (S.tm rfl)
       refine He S (hr4 _) rfl ?_;clear S;intro a S
       clear hr4
       exact Fx S rfl rfl rfl rfl hb4 (He S (Gb GE (S.tm rfl)) rfl fun a S=>Fx S rfl rfl rfl rfl hb4 (He S (Hw isAgg9 (off:=o2) (o:=0) (S.tm rfl) (hm2.at S.emb0) rfl) rfl fun a S=>Fx S rfl rfl rfl rfl hb4 (He S (JA (S.tm rfl) (S.tm rfl)) rfl fun a S=>Gv S rfl (Ii hb4 (S.tm rfl) (S.tm rfl)) rfl fun a S=>Jb (⟨_,h,Keep.refl _ _,S.nf [true] rfl (subR rfl)⟩))))
      ·replace h:=Sa h hb4
       iterate 9 (refine Qo S rfl rfl rfl rfl (Ka hb4) rfl ?_ rfl;clear S;intro a S)
       exact Gv S rfl (Ij true hb4 (S.tm rfl) rfl) rfl fun a S=>Jb (⟨_,h,Keep.refl _ _,S.nf [true] rfl (subR rfl)⟩)
     clear S h;rintro a w9 ⟨c2,h,hk7,S⟩;rw [hj3] at h;clear hj3 j3
     refine Gv S rfl (Ra (S.tm rfl)) rfl fun a S=>Jb ?_
     replace S:=(S.nl [.blk b2 [sV y1.Key,sV y1.Race,u1.val,iV y1.Young,iV y1.Old] 45] [true] rfl).k6 0 4 10 11 12 28 rfl
     refine Tn (Fc h (S.tm rfl) (fun hb5 h=>?_) (fun hb5 h=>?_))
     ·refine Fr (Vk S rfl rfl fun a S=>Dl (wp_ret (Gg (Ek (Gg (Ek (Ek ?_)))))))
      refine Gg (Ek (Ek ?_))
      obtain rfl:=Option.some.inj h
      exact Fd S results98 rfl rfl
     ·refine Fr (Vf GF S rfl rfl fun a S=>Vl isAgg43 0 S rfl rfl rfl rfl fun a S=>lv S (Gn DA (S.tm rfl) (Gk hs1)) rfl fun a S=>Vq S Jz rfl rfl rfl fun a S=>Va S rfl rfl fun a S=>Dl (Fc h (S.tm rfl) (fun hb6 h=>?_) (fun hb6 h=>?_)))
      ·refine Fr (Vk S rfl rfl fun a S=>Dl (wp_ret (Gg (Ek (Gg (Ek (Ek ?_)))))))
       refine Gg (Ek (Ek ?_))
       obtain rfl:=Option.some.inj h
       exact Fd S results98 rfl rfl
      ·refine wp_skip (Im (Tn (Fs (Fr (Vf GF S rfl rfl fun a S=>Vl isAgg43 0 S rfl rfl rfl rfl fun a S=>lv S (Gn DA (S.tm rfl) (Gk hs1)) rfl fun a S=>lv S (Rm rfl) rfl fun a S=>Ld ?_)))))
       replace S:=S.k8 0 4 10 11 12 48 49 50 rfl
       refine Tn ?_
       obtain ⟨j4,hj4,h⟩:=Fk h
       refine Fa (fun a w'=>j4 = some r ∧ Sx w [] nov [.blk b2 [sV y1.Key,sV y1.Race,u1.val,iV y1.Young,iV y1.Old] 45] [(0,Ab),(4,.pointer (some ⟨b2,0,none⟩)),(10,Ab),(11,iV (Ad.length : Int)),(12,iV (i1 : Int))] 87 a w') ?_ ?_
       ·refine wp_block (Hs (fun (ys2 : List ByteArray) a w'=>∃ i2 : Nat,(∃ dn,y1.Clubs = dn ++ ys2 ∧ dn.length = i2) ∧ Mx y1 j4 ys2 i2 = some r ∧ Sx w [] nov [.blk b2 [sV y1.Key,sV y1.Race,u1.val,iV y1.Young,iV y1.Old] 45] [(0,Ab),(4,.pointer (some ⟨b2,0,none⟩)),(10,Ab),(11,iV (Ad.length : Int)),(12,iV (i1 : Int)),(48,u1.val),(49,iV (y1.Clubs.length : Int)),(50,iV (i2 : Int))] 87 a w') List.length y1.Clubs ⟨0,⟨[],rfl,rfl⟩,h,S.nf [true] rfl (subR rfl)⟩ ?_)
        clear S h;rintro ys2 a w10 ⟨i2,⟨dn,hd2,hi2⟩,h,S⟩
        cases ys2 with
        | nil =>
         rw [Mx.eq_1] at h
         refine Fr (Vb S Fp rfl rfl rfl fun a S=>Ld ?_)
         replace S:=S.k9 0 4 10 11 12 48 49 50 51 rfl
         exact Tn (Fs (wp_cond_false ((S.tm rfl).trans (congrArg Value.bool (Jq hd2 hi2))) (wp_exit (Ew (Ew (Hl (Tn (⟨h,S.nf [true] rfl (subR rfl)⟩))))))))
        | cons y2 ys2 =>
         rw [Mx.eq_2] at h
         refine Fr (Vb S Fp rfl rfl rfl fun a S=>Ld ?_)
         replace S:=S.k9 0 4 10 11 12 48 49 50 51 rfl
         refine Tn (Fs (wp_cond_true ((S.tm rfl).trans (congrArg Value.bool (Iv hd2 hi2))) (wp_skip (Tn (Fs (wp_block (Fr (Vm S rfl rfl ?_))))))));clear S;intro a S
         obtain ⟨b4,o3,hm3,hr5⟩:=Fv (a:=a) (x:=.tmp 48) (y:=.tmp 50) (ty:=0) DA hs1 (Js hd2 hi2) rfl (S.tm rfl) (S.tm rfl)
         refine lv S (hr5 _) rfl ?_;clear S;intro a S
         clear hr5
         refine lv S (Hw isAgg9 (off:=o3) (o:=0) (S.tm rfl) (hm3.at S.emb0) rfl) rfl fun a S=>Va S rfl rfl fun a S=>Va S rfl rfl fun a S=>Dl (Fs (Fr (Vm S rfl rfl ?_)));clear S;intro a S
         obtain ⟨r5,hr6,h⟩:=Ga h
         refine Er S (fun _=>Ei (vs:=[sV y2]) ⟨(S.tm rfl),trivial⟩ call107) (Jp _ y2 _ hr6) rfl ?_;clear S;intro v3 a w12 hv3 hk8 hn3 S
         subst hv3
         refine Vu S Ig rfl rfl fun a S=>Ld ?_
         replace S:=S.k11 0 4 5 6 10 11 12 48 49 50 57 rfl
         refine Tn (Fc h (S.tm rfl) (fun hb7 h=>?_) (fun hb7 h=>?_))
         ·refine Fr (Vk S rfl rfl fun a S=>Dl (wp_ret (Ek (Gg (Ek (Ek (Gg ?_)))))))
          refine Ek (Ek (Gg (Ek (Ek (Gg (Ek (Ek ?_)))))))
          obtain rfl:=Option.some.inj h
          exact Fd S results98 rfl rfl
         ·refine wp_skip (Tn (Fr (Vm S rfl rfl fun a S=>Vq S Jz rfl rfl rfl fun a S=>Vm S rfl rfl ?_)));clear S;intro a S
          obtain ⟨j5,hj5,h⟩:=Fk h
          refine Io 9 (fun a w'=>∃ c3,j5 c3 = some r ∧ Keep [] w12 w' ∧ Sx w [] nov [.blk b2 [sV y1.Key,sV y1.Race,u1.val,iV y1.Young,iV y1.Old] 45] [(0,Ab),(4,.pointer (some ⟨b2,0,none⟩)),(10,Ab),(11,iV (Ad.length : Int)),(12,iV (i1 : Int)),(48,u1.val),(49,iV (y1.Clubs.length : Int)),(50,iV (i2 : Int)),(69,bV c3)] 87 a w') ?_ ?_
          ·rcases Bool.eq_false_or_eq_true (decide (0 < (i2 : Int))) with hb8 | hb8
           ·replace h:=Rz h hb8
            refine Em S rfl rfl rfl hb8 (Vm S rfl rfl fun a S=>Em S rfl rfl rfl hb8 (Vf GF S rfl rfl fun a S=>Em S rfl rfl rfl hb8 (Vl isAgg43 0 S rfl rfl rfl rfl fun a S=>Em S rfl rfl rfl hb8 (Vm S rfl rfl fun a S=>Em S rfl rfl rfl hb8 (Vq S Jt rfl rfl rfl fun a S=>Em S rfl rfl rfl hb8 ?_)))))
            obtain ⟨hc2,h⟩:=Jc h
            obtain ⟨b5,o4,hm4,hr7⟩:=Fv (a:=a) (x:=.tmp 63) (y:=.tmp 65) (ty:=0) DA hs1 (Es hc2).1 (Es hc2).2 (S.tm rfl) (S.tm rfl)
            refine lv S (hr7 _) rfl ?_;clear S;intro a S
            clear hr7
            exact Em S rfl rfl rfl hb8 (lv S (Hw isAgg9 (off:=o4) (o:=0) (S.tm rfl) (hm4.at S.emb0) rfl) rfl fun a S=>Em S rfl rfl rfl hb8 (Vb S JA rfl rfl rfl fun a S=>lv S (Ii hb8 (S.tm rfl) (S.tm rfl)) rfl fun a S=>Dl (⟨_,h,Keep.refl _ _,S.nf [true] rfl (subR rfl)⟩)))
           ·replace h:=Sa h hb8
            iterate 8 (refine Hk S rfl rfl rfl (Ka hb8) rfl ?_ rfl;clear S;intro a S)
            exact Vq S (Ij true hb8) rfl rfl rfl fun a S=>Dl (⟨_,h,Keep.refl _ _,S.nf [true] rfl (subR rfl)⟩)
          clear S h;rintro a w13 ⟨c3,h,hk9,S⟩;rw [hj5] at h;clear hj5 j5
          refine Dl (Fc h (S.tm rfl) (fun hb9 h=>?_) (fun hb9 h=>?_))
          ·refine Fr (Vk S rfl rfl fun a S=>Dl (wp_ret (Gg (Ek (Ek (Gg (Ek ?_)))))))
           refine Ek (Gg (Ek (Ek (Gg (Ek (Ek ?_))))))
           obtain rfl:=Option.some.inj h
           exact Fd S results98 rfl rfl
          ·exact wp_skip (Im (Tn (Fg (Vq S Gw rfl rfl rfl fun a S=>Vm S rfl rfl fun a S=>Dl (⟨ys2,⟨i2 + 1,⟨_,(hd2).trans (List.append_cons _ _ _),by simp [hi2]⟩,h,S.nf [true] rfl ⟨rfl,rfl,rfl,rfl,rfl,rfl,rfl,(congrArg (fun z=>some (Value.int .i64 z)) (Iw hd2 hi2 (Kh hs1))),trivial⟩⟩,Nat.lt_succ_self _⟩)))))
       clear S h;rintro a w11 ⟨h,S⟩;rw [hj4] at h;clear hj4 j4
       refine Tn (Fr (Vf OB S rfl rfl fun a S=>Vl isAgg3 0 S rfl rfl rfl rfl fun a S=>Vq S Fp rfl rfl rfl fun a S=>Vm S rfl rfl fun a S=>Io 6 (fun a w'=>Keep [] w11 w' ∧ Sx w [] nov [.blk b2 [sV y1.Key,sV y1.Race,u1.val,iV y1.Young,iV y1.Old] 45] [(0,Ab),(4,.pointer (some ⟨b2,0,none⟩)),(10,Ab),(11,iV (Ad.length : Int)),(12,iV (i1 : Int)),(80,bV ((decide (y1.Young < 0)) || (decide (y1.Old < y1.Young))))] 87 a w') ?_ ?_))
       ·rcases Bool.eq_false_or_eq_true (decide (y1.Young < 0)) with hb10 | hb10
        ·iterate 5 (refine Hk S rfl rfl rfl (Ng hb10) rfl ?_ rfl;clear S;intro a S)
         exact lv S (Lk (decide (y1.Old < y1.Young)) hb10 (S.tm rfl) rfl) rfl fun a S=>Dl (⟨Keep.refl _ _,S.nf [true] rfl (subR rfl)⟩)
        ·refine Em S rfl rfl rfl hb10 (Vf OB S rfl rfl fun a S=>Em S rfl rfl rfl hb10 (Vl isAgg3 0 S rfl rfl rfl rfl fun a S=>Em S rfl rfl rfl hb10 (Vf OC S rfl rfl fun a S=>Em S rfl rfl rfl hb10 (Vl isAgg3 0 S rfl rfl rfl rfl fun a S=>Em S rfl rfl rfl hb10 (Vb S Jz rfl rfl rfl fun a S=>lv S (Ll hb10 (S.tm rfl) (S.tm rfl)) rfl ?_)))));clear S;intro a S
         exact Dl (⟨Keep.refl _ _,S.nf [true] rfl (subR rfl)⟩)
       clear S;rintro a w14 ⟨hk10,S⟩
       refine Vm S rfl rfl fun a S=>Io 4 (fun a w'=>Keep [] w14 w' ∧ Sx w [] nov [.blk b2 [sV y1.Key,sV y1.Race,u1.val,iV y1.Young,iV y1.Old] 45] [(0,Ab),(10,Ab),(11,iV (Ad.length : Int)),(12,iV (i1 : Int)),(85,bV (((decide (y1.Young < 0)) || (decide (y1.Old < y1.Young))) || (decide (150 < y1.Old))))] 87 a w') ?_ ?_
       ·rcases Bool.eq_false_or_eq_true ((decide (y1.Young < 0)) || (decide (y1.Old < y1.Young))) with hb11 | hb11
        ·iterate 3 (refine Hk S rfl rfl rfl (Ng hb11) rfl ?_ rfl;clear S;intro a S)
         exact lv S (Lk (decide (150 < y1.Old)) hb11 (S.tm rfl) rfl) rfl fun a S=>Dl (⟨Keep.refl _ _,S.nf [true] rfl (subR rfl)⟩)
        ·exact Em S rfl rfl rfl hb11 (Vf OC S rfl rfl fun a S=>Em S rfl rfl rfl hb11 (Vl isAgg3 0 S rfl rfl rfl rfl fun a S=>Em S rfl rfl rfl hb11 (Vq S Jz rfl rfl rfl fun a S=>lv S (Ll hb11 (S.tm rfl) (S.tm rfl)) rfl fun a S=>Dl (⟨Keep.refl _ _,S.nf [true] rfl (subR rfl)⟩))))
       clear S;rintro a w15 ⟨hk11,S⟩
       refine Dl (Fc h (S.tm rfl) (fun hb12 h=>?_) (fun hb12 h=>?_))
       ·refine Fr (Vk S rfl rfl fun a S=>Dl (wp_ret (Gg (Ek (Ek (Gg (Ek ?_)))))))
        refine Ek ?_
        obtain rfl:=Option.some.inj h
        exact Fd S results98 rfl rfl
       ·exact wp_skip (Im (Tn (Fg (Vq S Gw rfl rfl rfl fun a S=>Vm S rfl rfl fun a S=>Dl (⟨ys1,⟨i1 + 1,⟨_,(hd1).trans (List.append_cons _ _ _),by simp [hi1]⟩,h,S.nf [false] rfl ⟨rfl,rfl,rfl,(congrArg (fun z=>some (Value.int .i64 z)) (Iw hd1 hi1 (Xk Ae Dm))),trivial⟩⟩,Nat.lt_succ_self _⟩)))))
  clear S h;rintro a w2 ⟨h,S⟩;rw [hj1] at h;clear hj1 j1
  refine Tn (Fr (Vk S rfl rfl fun a S=>Dl (wp_ret ?_)))
  obtain rfl:=Option.some.inj h
  exact Fd S results98 rfl rfl
theorem Ye (w : World) (Bb : Int) (r : Bool) (h : Qk Bb = r) :
    Calls prog 73 [iV Bb].toArray w (Ret w [] fun _ v _=>v = bV r):=by
 refine Fe func73 rfl ntmps73 rfl fun a S=>?_
 unfold Qk at h
 replace S:=S.k1 0 rfl
 refine Fr (Vk S rfl rfl fun a S=>Dz (Vm S rfl rfl fun a S=>Er S (fun _=>Ei (vs:=[iV Bb,iV 1,iV 360000]) ⟨(S.tm rfl),rfl,rfl,trivial⟩ call65) (Gl _ Bb 1 360000 _ rfl) rfl ?_));clear S;intro v1 a w1 hv1 hk1 hn1 S
 subst hv1
 refine Va S rfl rfl fun a S=>Dl (wp_ret ?_)
 subst h
 exact Fd S results73 rfl rfl
theorem ET (w : World) (Ac : Ex) (r : Int) (h : Ti Ac = some r) :
    Calls prog 132 [.agg (Ex.enc Ac).toArray].toArray w (Ret w [] fun _ v _=>v = iV r):=by
 refine Fe func132 rfl ntmps132 rfl fun a S=>?_
 unfold Ti at h
 replace S:=S.k1 0 rfl
 refine Fr (Mk S (S.tm rfl) (cs:=(Ex.enc Ac)) rfl rfl ?_);clear S;intro a w1 b1 hz1 hk1 S
 refine Vk S rfl rfl fun a S=>Dl (Fs ?_)
 obtain ⟨j1,hj1,h⟩:=Fk h
 refine Fa (fun a w'=>j1 = some r ∧ Sx w [] nov [] [] 64 a w') ?_ ?_
 ·refine wp_block (Fr (Vf EF S rfl rfl fun a S=>Vl isAgg3 0 S rfl rfl rfl rfl fun a S=>Er S (fun _=>Ei (vs:=[iV Ac.At]) ⟨(S.tm rfl),trivial⟩ call62) (Sq _ Ac.At _ rfl) rfl ?_));clear S;intro v1 a w3 hv1 hk2 hn1 S
  subst hv1
  refine Vu S Ig rfl rfl fun a S=>Va S rfl rfl fun a S=>Dl (Fc h (S.tm rfl) (fun hb1 h=>?_) (fun hb1 h=>?_))
  ·refine Fr (Vk S rfl rfl fun a S=>Dl (wp_ret (Gg (Ek (Ek ?_)))))
   obtain rfl:=Option.some.inj h
   exact Fd S results132 rfl rfl
  ·refine Fr (Vf AH S rfl rfl fun a S=>Vl isAgg3 0 S rfl rfl rfl rfl fun a S=>Er S (fun _=>Ei (vs:=[iV Ac.Kind,iV 1,iV 3]) ⟨(S.tm rfl),rfl,rfl,trivial⟩ call65) (Gl _ Ac.Kind 1 3 _ rfl) rfl ?_);clear S;intro v2 a w4 hv2 hk3 hn2 S
   subst hv2
   refine Vu S Ig rfl rfl fun a S=>Va S rfl rfl fun a S=>Dl (Fc h (S.tm rfl) (fun hb2 h=>?_) (fun hb2 h=>?_))
   ·refine Fr (Vk S rfl rfl fun a S=>Dl (wp_ret (Gg (Ek (Ek ?_)))))
    obtain rfl:=Option.some.inj h
    exact Fd S results132 rfl rfl
   ·refine Fr (Vf Zf S rfl rfl fun a S=>Vl isAgg9 0 S rfl rfl rfl rfl ?_);clear S;intro a S
    obtain ⟨r1,hr1,h⟩:=Ga h
    refine Er S (fun _=>Ei (vs:=[sV Ac.Id]) ⟨(S.tm rfl),trivial⟩ call107) (Jp _ Ac.Id _ hr1) rfl ?_;clear S;intro v3 a w5 hv3 hk4 hn3 S
    subst hv3
    refine Vu S Ig rfl rfl fun a S=>Va S rfl rfl fun a S=>Ld ?_
    replace S:=(S.nl [.blk b1 (Ex.enc Ac) 53] [true] rfl).k2 1 13 rfl
    refine Tn (Fc h (S.tm rfl) (fun hb3 h=>?_) (fun hb3 h=>?_))
    ·refine Fr (Vk S rfl rfl fun a S=>Dl (wp_ret (Gg (Ek (Ek ?_)))))
     obtain rfl:=Option.some.inj h
     exact Fd S results132 rfl rfl
    ·refine Fr (Vf AH S rfl rfl fun a S=>Vl isAgg3 0 S rfl rfl rfl rfl fun a S=>Vq S Nt rfl rfl rfl fun a S=>Va S rfl rfl fun a S=>Dl ?_)
     obtain ⟨j2,hj2,h⟩:=Fk h
     refine Fa (fun a w'=>j2 = some r ∧ Sx w [] nov [] [] 64 a w') ?_ ?_
     ·refine Fc h (S.tm rfl) (fun hb4 h=>?_) (fun hb4 h=>?_)
      ·refine Fr (lv S (Gh isAgg53 sizeOf53 (off:=0) (o:=0) (part:=(Ex.enc Ac)) rfl rfl (S.tm rfl) (S.cellsAt (i:=0) rfl)) rfl fun a S=>Vf EF S rfl rfl fun a S=>Vl isAgg3 0 S rfl rfl rfl rfl fun a S=>Vf AH S rfl rfl fun a S=>Vl isAgg3 0 S rfl rfl rfl rfl fun a S=>Vf Zf S rfl rfl fun a S=>Vl isAgg9 0 S rfl rfl rfl rfl fun a S=>lv S (Nc bt_53 (pv:=[(0,iV Ac.At),(1,iV Ac.Kind),(2,sV Ac.Id)]) ⟨rfl,(S.tm rfl),rfl,(S.tm rfl),rfl,(S.tm rfl),trivial⟩ (cs:=[iV Ac.At,iV Ac.Kind,sV Ac.Id,sV An,sV An,sV An,iV 0,iV 0]) (by kernel_rfl)) rfl fun a S=>lv S (VG (m:=Ac) (n:=(Ex.mk Ac.At Ac.Kind Ac.Id An An An 0 0)) (S.tm rfl) (S.tm rfl)) rfl ?_);clear S;intro a S
       refine Ld ?_
       replace S:=S.n0.k1 30 rfl
       refine Tn (Fc h (S.tm rfl) (fun hb5 h=>?_) (fun hb5 h=>?_))
       ·refine Fr (Vk S rfl rfl fun a S=>Dl (wp_ret (Ek (Gg (Ek (Ek ?_))))))
        obtain rfl:=Option.some.inj h
        exact Fd S results132 rfl rfl
       ·exact wp_skip (Tn (⟨h,S.nf [] rfl trivial⟩))
      ·refine Fr (Vf TD S rfl rfl fun a S=>Vl isAgg9 0 S rfl rfl rfl rfl ?_);clear S;intro a S
       obtain ⟨r2,hr2,h⟩:=Ga h
       refine Er S (fun _=>Ei (vs:=[sV Ac.Who]) ⟨(S.tm rfl),trivial⟩ call107) (Jp _ Ac.Who _ hr2) rfl ?_;clear S;intro v4 a w7 hv4 hk5 hn4 S
       subst hv4
       refine Vu S Ig rfl rfl fun a S=>Vm S rfl rfl ?_;clear S;intro a S
       obtain ⟨j3,hj3,h⟩:=Fk h
       refine Io 5 (fun a w'=>∃ c1,j3 c1 = some r ∧ Keep [] w7 w' ∧ Sx w [] nov [.blk b1 (Ex.enc Ac) 53] [(1,.pointer (some ⟨b1,0,none⟩)),(41,bV c1)] 64 a w') ?_ ?_
       ·rcases Bool.eq_false_or_eq_true (!r2) with hb6 | hb6
        ·replace h:=Rz h hb6
         iterate 4 (refine Hk S rfl rfl rfl (Ng hb6) rfl ?_ rfl;clear S;intro a S)
         exact Vq S (Lk true hb6) rfl rfl rfl fun a S=>Dl (⟨_,h,Keep.refl _ _,S.nf [true] rfl (subR rfl)⟩)
        ·replace h:=Sa h hb6
         refine Em S rfl rfl rfl hb6 (Vf TF S rfl rfl fun a S=>Em S rfl rfl rfl hb6 (Vl isAgg9 0 S rfl rfl rfl rfl fun a S=>Em S rfl rfl rfl hb6 ?_))
         obtain ⟨r3,hr3,h⟩:=Ga h
         refine Er S (fun _=>Ei (vs:=[sV Ac.Race]) ⟨(S.tm rfl),trivial⟩ call107) (Jp _ Ac.Race _ hr3) rfl ?_;clear S;intro v5 a w9 hv5 hk6 hn5 S
         subst hv5
         exact Em S rfl rfl rfl hb6 (Vu S Ig rfl rfl fun a S=>lv S (Ll hb6 (S.tm rfl) (S.tm rfl)) rfl fun a S=>Dl (⟨_,h,hk6,S.nf [true] rfl (subR rfl)⟩))
       clear S h;rintro a w8 ⟨c1,h,hk7,S⟩;rw [hj3] at h;clear hj3 j3
       refine Vm S rfl rfl ?_;clear S;intro a S
       obtain ⟨j4,hj4,h⟩:=Fk h
       refine Io 10 (fun a w'=>∃ c2,j4 c2 = some r ∧ Keep [] w8 w' ∧ Sx w [] nov [.blk b1 (Ex.enc Ac) 53] [(1,.pointer (some ⟨b1,0,none⟩)),(52,bV c2)] 64 a w') ?_ ?_
       ·rcases Bool.eq_false_or_eq_true c1 with hb7 | hb7
        ·replace h:=Rz h hb7
         iterate 4 (refine Hk S rfl rfl rfl (Ng hb7) rfl ?_ rfl;clear S;intro a S)
         iterate 4 (refine BM S rfl rfl rfl rfl ?_;clear S;intro a S)
         exact Hk S rfl rfl rfl (Ng hb7) rfl (fun a S=>Vq S (Lk true hb7) rfl rfl rfl fun a S=>Dl (⟨_,h,Keep.refl _ _,S.nf [true] rfl (subR rfl)⟩)) rfl
        ·replace h:=Sa h hb7
         refine Em S rfl rfl rfl hb7 (Vf OE S rfl rfl fun a S=>Em S rfl rfl rfl hb7 (Vl isAgg9 0 S rfl rfl rfl rfl fun a S=>Em S rfl rfl rfl hb7 (Vq S DZ rfl rfl rfl fun a S=>Em S rfl rfl rfl hb7 (Vm S rfl rfl ?_))));clear S;intro a S
         obtain ⟨j5,hj5,h⟩:=Fk h
         refine Io 5 (fun a w'=>∃ c3,j5 c3 = some r ∧ Keep [] w8 w' ∧ Sx w [] nov [.blk b1 (Ex.enc Ac) 53] [(1,.pointer (some ⟨b1,0,none⟩)),(42,bV c1),(51,bV c3)] 64 a w') ?_ ?_
         ·rcases Bool.eq_false_or_eq_true (!decide (Ac.Club = An)) with hb8 | hb8
          ·replace h:=Rz h hb8
           refine Em S rfl rfl rfl hb8 (Vf OE S rfl rfl fun a S=>Em S rfl rfl rfl hb8 (Vl isAgg9 0 S rfl rfl rfl rfl fun a S=>Em S rfl rfl rfl hb8 ?_))
           obtain ⟨r4,hr4,h⟩:=Ga h
           refine Er S (fun _=>Ei (vs:=[sV Ac.Club]) ⟨(S.tm rfl),trivial⟩ call107) (Jp _ Ac.Club _ hr4) rfl ?_;clear S;intro v6 a w12 hv6 hk8 hn6 S
           subst hv6
           exact Em S rfl rfl rfl hb8 (Vu S Ig rfl rfl fun a S=>Em S rfl rfl rfl hb7 (lv S (Ii hb8 (S.tm rfl) (S.tm rfl)) rfl fun a S=>Dl (⟨_,h,hk8,S.nf [true] rfl (subR rfl)⟩)))
          ·replace h:=Sa h hb8
           iterate 4 (refine Hk S rfl rfl rfl (Ka hb8) rfl ?_ rfl;clear S;intro a S)
           exact Em S rfl rfl rfl hb7 (Vq S (Ij true hb8) rfl rfl rfl fun a S=>Dl (⟨_,h,Keep.refl _ _,S.nf [true] rfl (subR rfl)⟩))
         clear S h;rintro a w11 ⟨c3,h,hk9,S⟩;rw [hj5] at h;clear hj5 j5
         exact lv S (Ll hb7 (S.tm rfl) (S.tm rfl)) rfl fun a S=>Dl (⟨_,h,hk9,S.nf [true] rfl (subR rfl)⟩)
       clear S h;rintro a w10 ⟨c2,h,hk10,S⟩;rw [hj4] at h;clear hj4 j4
       refine Va S rfl rfl fun a S=>Dl (Fc h (S.tm rfl) (fun hb9 h=>?_) (fun hb9 h=>?_))
       ·refine Fr (Vk S rfl rfl fun a S=>Dl (wp_ret (Ek (Gg (Ek (Ek ?_))))))
        obtain rfl:=Option.some.inj h
        exact Fd S results132 rfl rfl
       ·refine Fr (Vf TG S rfl rfl fun a S=>Vl isAgg3 0 S rfl rfl rfl rfl fun a S=>Er S (fun _=>Ei (vs:=[iV Ac.Age,iV 0,iV 150]) ⟨(S.tm rfl),rfl,rfl,trivial⟩ call65) (Gl _ Ac.Age 0 150 _ rfl) rfl ?_);clear S;intro v7 a w13 hv7 hk11 hn7 S
        subst hv7
        refine Vu S Ig rfl rfl fun a S=>Vm S rfl rfl fun a S=>Io 5 (fun a w'=>Keep [] w13 w' ∧ Sx w [] nov [.blk b1 (Ex.enc Ac) 53] [(63,bV ((!(El Ac.Age 0 150)) || (!(Qk Ac.Time))))] 64 a w') ?_ ?_
        ·rcases Bool.eq_false_or_eq_true (!(El Ac.Age 0 150)) with hb10 | hb10
         ·iterate 4 (refine Hk S rfl rfl rfl (Ng hb10) rfl ?_ rfl;clear S;intro a S)
          exact lv S (Lk (!(Qk Ac.Time)) hb10 (S.tm rfl) rfl) rfl fun a S=>Dl (⟨Keep.refl _ _,S.nf [true] rfl ⟨rfl,trivial⟩⟩)
         ·refine Em S rfl rfl rfl hb10 (Vf OF S rfl rfl fun a S=>Em S rfl rfl rfl hb10 (Vl isAgg3 0 S rfl rfl rfl rfl fun a S=>Em S rfl rfl rfl hb10 (Er S (fun _=>Ei (vs:=[iV Ac.Time]) ⟨(S.tm rfl),trivial⟩ call73) (Ye _ Ac.Time _ rfl) rfl ?_)));clear S;intro v8 a w15 hv8 hk12 hn8 S
          subst hv8
          exact Em S rfl rfl rfl hb10 (Vu S Ig rfl rfl fun a S=>lv S (Ll hb10 (S.tm rfl) (S.tm rfl)) rfl fun a S=>Dl (⟨hk12,S.nf [true] rfl ⟨rfl,trivial⟩⟩))
        clear S;rintro a w14 ⟨hk13,S⟩
        refine Va S rfl rfl fun a S=>Dl (Fc h (S.tm rfl) (fun hb11 h=>?_) (fun hb11 h=>?_))
        ·refine Fr (Vk S rfl rfl fun a S=>Dl (wp_ret (Ek (Gg (Ek (Ek ?_))))))
         obtain rfl:=Option.some.inj h
         exact Fd S results132 rfl rfl
        ·exact wp_skip (Tn (⟨h,S.nf [false] rfl trivial⟩))
     clear S h;rintro a w6 ⟨h,S⟩;rw [hj2] at h;clear hj2 j2
     exact Im (Tn (⟨h,S.nf [] rfl trivial⟩))
 clear S h;rintro a w2 ⟨h,S⟩;rw [hj1] at h;clear hj1 j1
 refine Tn (Fr (Vk S rfl rfl fun a S=>Dl (wp_ret ?_)))
 obtain rfl:=Option.some.inj h
 exact Fd S results132 rfl rfl
set_option maxRecDepth 20000 in
theorem GP (w : World) (Ah : Ex) (Aj : Ex) (r : Int) (h : Tj Ah Aj = r) :
    Calls prog 133 [.agg (Ex.enc Ah).toArray,.agg (Ex.enc Aj).toArray].toArray w (Ret w [] fun _ v _=>v = iV r):=by
 refine Fe func133 rfl ntmps133 rfl fun a S=>?_
 unfold Tj at h
 replace S:=S.k2 0 1 rfl
 refine Fr (Mk S (S.tm rfl) (cs:=(Ex.enc Ah)) rfl rfl ?_);clear S;intro a w1 b1 hz1 hk1 S
 refine Mk S (S.tm rfl) (cs:=(Ex.enc Aj)) rfl rfl ?_;clear S;intro a w2 b2 hz2 hk2 S
 refine Vk S rfl rfl fun a S=>Dl (Fs (Hd [] ([]) Tryz.mixed S rfl (by kernel_rfl) ?_));clear S;intro w8 hk8 hsel S
 refine Eo 0 S hsel rfl rfl rfl (by kernel_rfl) (by kernel_rfl) rfl (fun _ hw=>(Gb EF (S.tm rfl))) fun a S=>Eo 1 S hsel rfl rfl rfl (by kernel_rfl) (by kernel_rfl) rfl (fun _ hw=>(Hw isAgg3 (off:=0) (o:=0) (S.tm rfl) ((S.blk_mem (i:=1) (cells:=(Ex.enc Ah)) (b:=b1) (T:=53) rfl (Ik (e':=.blk b1 (Ex.enc Ah) 53))).kept hw) rfl)) fun a S=>Eo 2 S hsel rfl rfl rfl (by kernel_rfl) (by kernel_rfl) rfl (fun _ hw=>(Gb EF (S.tm rfl))) fun a S=>Eo 3 S hsel rfl rfl rfl (by kernel_rfl) (by kernel_rfl) rfl (fun _ hw=>(Hw isAgg3 (off:=0) (o:=0) (S.tm rfl) ((S.blk_mem (i:=0) (cells:=(Ex.enc Aj)) (b:=b2) (T:=53) rfl (Ik (e':=.blk b2 (Ex.enc Aj) 53))).kept hw) rfl)) fun a S=>Eo 5 S hsel rfl rfl rfl (by kernel_rfl) (by kernel_rfl) rfl (fun _ hw=>(Gb Zf (S.tm rfl))) fun a S=>Eo 6 S hsel rfl rfl rfl (by kernel_rfl) (by kernel_rfl) rfl (fun _ hw=>(Hw isAgg9 (off:=0) (o:=2) (S.tm rfl) ((S.blk_mem (i:=1) (cells:=(Ex.enc Ah)) (b:=b1) (T:=53) rfl (Ik (e':=.blk b1 (Ex.enc Ah) 53))).kept hw) rfl)) fun a S=>Eo 7 S hsel rfl rfl rfl (by kernel_rfl) (by kernel_rfl) rfl (fun _ hw=>(Gb Zf (S.tm rfl))) fun a S=>Eo 8 S hsel rfl rfl rfl (by kernel_rfl) (by kernel_rfl) rfl (fun _ hw=>(Hw isAgg9 (off:=0) (o:=2) (S.tm rfl) ((S.blk_mem (i:=0) (cells:=(Ex.enc Aj)) (b:=b2) (T:=53) rfl (Ik (e':=.blk b2 (Ex.enc Aj) 53))).kept hw) rfl)) fun a S=>Eo 10 S hsel rfl rfl rfl (by kernel_rfl) (by kernel_rfl) rfl (fun _ hw=>(Gb AH (S.tm rfl))) fun a S=>Eo 11 S hsel rfl rfl rfl (by kernel_rfl) (by kernel_rfl) rfl (fun _ hw=>(Hw isAgg3 (off:=0) (o:=1) (S.tm rfl) ((S.blk_mem (i:=1) (cells:=(Ex.enc Ah)) (b:=b1) (T:=53) rfl (Ik (e':=.blk b1 (Ex.enc Ah) 53))).kept hw) rfl)) fun a S=>Eo 12 S hsel rfl rfl rfl (by kernel_rfl) (by kernel_rfl) rfl (fun _ hw=>(Gb AH (S.tm rfl))) ?_;clear S;intro a S
 refine Eo 13 S hsel rfl rfl rfl (by kernel_rfl) (by kernel_rfl) rfl (fun _ hw=>(Hw isAgg3 (off:=0) (o:=1) (S.tm rfl) ((S.blk_mem (i:=0) (cells:=(Ex.enc Aj)) (b:=b2) (T:=53) rfl (Ik (e':=.blk b2 (Ex.enc Aj) 53))).kept hw) rfl)) fun a S=>Hi 4 (by kernel_rfl) rfl (Er S (fun _=>Ei (vs:=[iV Ah.At,iV Aj.At]) ⟨(S.tm rfl),(S.tm rfl),trivial⟩ call141) (Uc _ Ah.At Aj.At _ rfl) rfl ?_);clear S;intro v5 a w9 hv5 hk9 hn5 S
 subst hv5
 refine Ld (It hk9 (Hi 9 (by kernel_rfl) rfl (Er S (fun _=>Ei (vs:=[sV Ah.Id,sV Aj.Id]) ⟨(S.tm rfl),(S.tm rfl),trivial⟩ call48) (Pb _ Ah.Id Aj.Id _ rfl) rfl ?_)));clear S;intro v6 a w10 hv6 hk10 hn6 S
 subst hv6
 refine Ld (It hk10 (Hi 14 (by kernel_rfl) rfl (Er S (fun _=>Ei (vs:=[iV Ah.Kind,iV Aj.Kind]) ⟨(S.tm rfl),(S.tm rfl),trivial⟩ call141) (Uc _ Ah.Kind Aj.Kind _ rfl) rfl ?_)));clear S;intro v7 a w11 hv7 hk11 hn7 S
 subst hv7
 refine Ld (It hk11 (Hi 15 (by kernel_rfl) rfl (Fq S underlying22 sizeOf3 zeroValue3 rfl rfl (pv:=[(0,iV (Hx Ah.At Aj.At)),(1,iV (Ho Ah.Id Aj.Id)),(2,iV (Hx Ah.Kind Aj.Kind))]) ⟨rfl,(S.tm rfl),rfl,(S.tm rfl),rfl,(S.tm rfl),trivial⟩ (cs:=[iV (Hx Ah.At Aj.At),iV (Ho Ah.Id Aj.Id),iV (Hx Ah.Kind Aj.Kind)]) (by kernel_rfl) rfl ?_)));clear S;intro a w12 b4 hz4 hk12 S
 refine Ld (It hk12 (Hi 16 (by kernel_rfl) rfl (Er S (fun _=>Ei (vs:=[.slice (some ⟨b4,0,none⟩) 3 3]) ⟨(S.tm rfl),trivial⟩ call140) (AO _ (.slice (some ⟨b4,0,none⟩) 3 3) [(Hx Ah.At Aj.At),(Ho Ah.Id Aj.Id),(Hx Ah.Kind Aj.Kind)] (Lg Ju S (i:=0) rfl rfl rfl rfl ((Ik (e':=.blk b4 [iV (Hx Ah.At Aj.At),iV (Ho Ah.Id Aj.Id),iV (Hx Ah.Kind Aj.Kind)] 3)) _ rfl)) _ rfl) rfl ?_)));clear S;intro v8 a w13 hv8 hk13 hn8 S
 subst hv8
 refine Ld (It hk13 (Kt [17] hsel (by kernel_rfl) rfl ?_))
 clear hsel
 refine Gv S rfl (Ra (S.tm rfl)) rfl fun a S=>Jb ?_
 replace S:=S.n0.k1 4 rfl
 refine Tn (wp_ret ?_)
 subst h
 exact Fd S results133 rfl rfl
set_option maxRecDepth 20000 in
theorem DP (w : World) (Ab : Value) (Ad : List Ex) (Ae : Slc (view w []) 8 Ab (Ad.map Ex.enc)) (r : Int) (h : Sl Ad = some r) :
    Calls prog 99 [Ab].toArray w (Ret w [] fun _ v _=>v = iV r):=by
 refine Fe func99 rfl ntmps99 rfl fun a S=>?_
 unfold Sl at h
 replace S:=S.k1 0 rfl
 refine Fr (Vk S rfl rfl fun a S=>Dl (Fs (Fr (Vm S rfl rfl fun a S=>lv S (Gn AG (S.tm rfl) (Gk Ae)) rfl fun a S=>Vq S Jz rfl rfl rfl ?_))));clear S;intro a S
 refine Dl (Fc h (S.tm rfl) (fun hb1 h=>?_) (fun hb1 h=>?_))
 ·refine Fr (Vk S rfl rfl fun a S=>Dl (wp_ret (Ek ?_)))
  obtain rfl:=Option.some.inj h
  exact Fd S results99 rfl rfl
 ·refine wp_skip (Tn (Fs (Fr (Vm S rfl rfl fun a S=>lv S (Gn AG (S.tm rfl) (Gk Ae)) rfl fun a S=>lv S (Rm rfl) rfl fun a S=>Dl ?_))))
  replace S:=S.k4 0 9 10 11 rfl
  obtain ⟨j1,hj1,h⟩:=Fk h
  refine Fa (fun a w'=>j1 = some r ∧ Sx w [] nov [] [] 34 a w') ?_ ?_
  ·refine wp_block (Hs (fun (ys1 : List Ex) a w'=>∃ i1 : Nat,(∃ dn,Ad = dn ++ ys1 ∧ dn.length = i1) ∧ La Ad j1 ys1 i1 = some r ∧ Sx w [] nov [] [(0,Ab),(9,Ab),(10,iV (Ad.length : Int)),(11,iV (i1 : Int))] 34 a w') List.length Ad ⟨0,⟨[],rfl,rfl⟩,h,S.nf [] rfl (subR rfl)⟩ ?_)
   clear S h;rintro ys1 a w1 ⟨i1,⟨dn,hd1,hi1⟩,h,S⟩
   cases ys1 with
   | nil =>
    rw [La.eq_1] at h
    refine Fr (Vb S Fp rfl rfl rfl fun a S=>Ld ?_)
    replace S:=S.k5 0 9 10 11 12 rfl
    exact Tn (Fs (wp_cond_false ((S.tm rfl).trans (congrArg Value.bool (Jq hd1 hi1))) (wp_exit (Ew (Ew (Hl (Tn (⟨h,S.nf [] rfl trivial⟩))))))))
   | cons y1 ys1 =>
    rw [La.eq_2] at h
    refine Fr (Vb S Fp rfl rfl rfl fun a S=>Ld ?_)
    replace S:=S.k5 0 9 10 11 12 rfl
    refine Tn (Fs (wp_cond_true ((S.tm rfl).trans (congrArg Value.bool (Iv hd1 hi1))) (wp_skip (Tn (Fs (wp_block (Fr (Vm S rfl rfl ?_))))))));clear S;intro a S
    obtain ⟨b1,o1,hm1,hr1⟩:=Fv (a:=a) (x:=.tmp 9) (y:=.tmp 11) (ty:=0) AG Ae (Js hd1 hi1) rfl (S.tm rfl) (S.tm rfl)
    refine lv S (hr1 _) rfl ?_;clear S;intro a S
    clear hr1
    refine lv S (Gh isAgg53 sizeOf53 (off:=o1) (o:=0) (part:=(Ex.enc y1)) rfl rfl (S.tm rfl) (hm1.at S.emb0)) rfl fun a S=>Iz S zeroValue53 (cs:=[iV 0,iV 0,sV An,sV An,sV An,sV An,iV 0,iV 0]) rfl rfl ?_;clear S;intro a w3 b2 hz1 hk1 S
    refine Va S rfl rfl fun a S=>Ft S (S.tm rfl) (S.tm rfl) (i:=0) (off:=0) rfl sizeOf53 (vs:=(Ex.enc y1)) rfl rfl rfl rfl ?_;clear S;intro w4 hk2 S
    refine Dl (Fs (Fr (lv S (Gh isAgg53 sizeOf53 (off:=0) (o:=0) (part:=(Ex.enc y1)) rfl rfl (S.tm rfl) (S.cellsAt (i:=0) rfl)) rfl ?_)));clear S;intro a S
    obtain ⟨r1,hr2,h⟩:=Ga h
    refine Er S (fun _=>Ei (vs:=[.agg (Ex.enc y1).toArray]) ⟨(S.tm rfl),trivial⟩ call132) (ET _ y1 _ hr2) rfl ?_;clear S;intro v1 a w5 hv1 hk3 hn1 S
    subst hv1
    refine Va S rfl rfl fun a S=>Dz (Vm S rfl rfl fun a S=>Vq S Nt rfl rfl rfl fun a S=>Ld ?_)
    replace S:=(S.nl [.blk b2 (Ex.enc y1) 53] [true] rfl).k8 0 3 4 5 9 10 11 19 rfl
    refine Tn (Fc h (S.tm rfl) (fun hb2 h=>?_) (fun hb2 h=>?_))
    ·refine Fr (Vm S rfl rfl fun a S=>Va S rfl rfl fun a S=>Dl (wp_ret (Ek (Gg (Ek (Ek ?_))))))
     refine Gg (Ek (Ek ?_))
     obtain rfl:=Option.some.inj h
     exact Fd S results99 rfl rfl
    ·refine wp_skip (Tn (Fs ?_))
     obtain ⟨j2,hj2,h⟩:=Fk h
     refine Fa (fun a w'=>∃ x1 : Bool,j2 x1 = some r ∧ Sx w [] nov [] [(0,Ab),(9,Ab),(10,iV (Ad.length : Int)),(11,iV (i1 : Int)),(32,bV x1)] 34 a w') ?_ ?_
     ·rcases Bool.eq_false_or_eq_true (decide (0 < (i1 : Int))) with hb3 | hb3
      ·replace h:=Rz h hb3
       obtain ⟨hc1,h⟩:=Jc h
       refine Hd [] ([]) Tryz.mixed S rfl (by kernel_rfl) ?_;clear S;intro w8 hk5 hsel S
       refine Eo 0 S hsel rfl rfl rfl (by kernel_rfl) (by kernel_rfl) rfl (fun _ hw=>(Rm (S.tm rfl))) fun a S=>Eo 1 S hsel rfl rfl rfl (by kernel_rfl) (by kernel_rfl) rfl (fun _ hw=>(Jz (S.tm rfl) rfl)) fun a S=>Eo 2 S hsel rfl rfl rfl (by kernel_rfl) (by kernel_rfl) rfl (fun _ hw=>(Rm (S.tm rfl))) fun a S=>Ey 3 S hsel rfl rfl rfl rfl hb3 rfl rfl (by kernel_rfl) (by kernel_rfl) rfl (fun _ hw=>(Rm (S.tm rfl))) fun a S=>Ey 4 S hsel rfl rfl rfl rfl hb3 rfl rfl (by kernel_rfl) (by kernel_rfl) rfl (fun _ hw=>(Rm (S.tm rfl))) fun a S=>Ey 5 S hsel rfl rfl rfl rfl hb3 rfl rfl (by kernel_rfl) (by kernel_rfl) rfl (fun _ hw=>(Jt (S.tm rfl) rfl)) ?_;clear S;intro a S
       obtain ⟨b4,o3,hm3,hr4⟩:=Fv (a:=a) (x:=.tmp 24) (y:=.tmp 26) (ty:=0) AG (Ae.mono (S.le_arg Ez)) (Es hc1).1 (Es hc1).2 (S.tm rfl) (S.tm rfl)
       refine Ey 6 S hsel rfl rfl rfl rfl hb3 rfl rfl (by kernel_rfl) (by kernel_rfl) rfl (fun _ hw=>hr4 _) ?_;clear S;intro a S
       clear hr4
       refine Ey 7 S hsel rfl rfl rfl rfl hb3 rfl rfl (by kernel_rfl) (by kernel_rfl) rfl (fun _ hw=>(Gh isAgg53 sizeOf53 (off:=o3) (o:=0) (part:=(Ex.enc (nth Ad (W ((i1 : Int) - 1))))) rfl rfl (S.tm rfl) (hm3.kept hw))) fun a S=>Ey 8 S hsel rfl rfl rfl rfl hb3 rfl rfl (by kernel_rfl) (by kernel_rfl) rfl (fun _ hw=>(Gh isAgg53 sizeOf53 (off:=0) (o:=0) (part:=(Ex.enc y1)) rfl rfl (S.tm rfl) ((S.blk_mem (i:=0) (cells:=(Ex.enc y1)) (b:=b2) (T:=53) rfl (Ik (e':=.blk b2 (Ex.enc y1) 53))).kept hw))) fun a S=>Hi 9 (by kernel_rfl) rfl (Em S rfl rfl rfl hb3 (Er S (fun _=>Ei (vs:=[.agg (Ex.enc (nth Ad (W ((i1 : Int) - 1)))).toArray,.agg (Ex.enc y1).toArray]) ⟨(S.tm rfl),(S.tm rfl),trivial⟩ call133) (GP _ (nth Ad (W ((i1 : Int) - 1))) y1 _ rfl) rfl ?_));clear S;intro v3 a w9 hv3 hk6 hn3 S
       subst hv3
       refine Ld (It hk6 (Kt [10,11] hsel (by kernel_rfl) rfl ?_))
       clear hsel
       refine Fx S rfl rfl rfl rfl hb3 (He S (Re (S.tm rfl) rfl) rfl fun a S=>Gv S rfl (Qe hb3 (S.tm rfl) (S.tm rfl)) rfl fun a S=>Jb ?_)
       replace S:=S.n0.k13 0 9 10 11 24 25 26 27 28 29 30 31 32 rfl
       exact Tn (⟨decide (0 ≤ (Tj (nth Ad (W ((i1 : Int) - 1))) y1)),h,S.nf [] rfl (subR rfl)⟩)
      ·replace h:=Sa h hb3
       refine Hd [] ([]) Tryz.mixed S rfl (by kernel_rfl) ?_;clear S;intro w10 hk7 hsel S
       refine Kt [0,1,2,3,4,5,6,7,8,9,10,11] hsel (by kernel_rfl) rfl ?_
       clear hsel
       refine Gv S rfl (Rm (S.tm rfl)) rfl fun a S=>Gv S rfl (Jz (S.tm rfl) rfl) rfl fun a S=>Gv S rfl (Rm (S.tm rfl)) rfl ?_;clear S;intro a S
       iterate 8 (refine Qo S rfl rfl rfl rfl (Ka hb3) rfl ?_ rfl;clear S;intro a S)
       refine Gv S rfl (Qf hb3 (S.tm rfl) rfl) rfl fun a S=>Jb ?_
       replace S:=S.n0.k5 0 9 10 11 32 rfl
       exact Tn (⟨false,h,S.nf [] rfl (subR rfl)⟩)
     clear S h;rintro a w6 ⟨x1,h,S⟩;rw [hj2] at h;clear hj2 j2
     refine Tn (Fc h (S.tm rfl) (fun hb4 h=>?_) (fun hb4 h=>?_))
     ·refine Fr (Vk S rfl rfl fun a S=>Dl (wp_ret (Gg (Ek (Ek (Gg (Ek ?_)))))))
      refine Ek ?_
      obtain rfl:=Option.some.inj h
      exact Fd S results99 rfl rfl
     ·exact wp_skip (Im (Tn (Fg (Vq S Gw rfl rfl rfl fun a S=>Vm S rfl rfl fun a S=>Dl (⟨ys1,⟨i1 + 1,⟨_,(hd1).trans (List.append_cons _ _ _),by simp [hi1]⟩,h,S.nf [] rfl ⟨rfl,rfl,rfl,(congrArg (fun z=>some (Value.int .i64 z)) (Iw hd1 hi1 (Kh Ae))),trivial⟩⟩,Nat.lt_succ_self _⟩)))))
  clear S h;rintro a w2 ⟨h,S⟩;rw [hj1] at h;clear hj1 j1
  refine Tn (Fr (Vk S rfl rfl fun a S=>Dl (wp_ret ?_)))
  obtain rfl:=Option.some.inj h
  exact Fd S results99 rfl rfl
theorem EU (w : World) (By : Value) (Ai : List Mw) (Cc : List R45) (Cv : Slc (view w []) 5 By (Cc.map R45.enc)) (Cw : Lp (Vo (view w [])) Ai Cc) (Ab : Value) (Ad : List Ex) (Ae : Slc (view w []) 8 Ab (Ad.map Ex.enc)) (r : Int) (h : Vy Ai Ad = some r) :
    Calls prog 60 [By,Ab].toArray w (Ret w [] fun _ v _=>v = iV r):=by
 refine Fe func60 rfl ntmps60 rfl fun a S=>?_
 unfold Vy at h
 replace S:=S.k2 0 1 rfl
 refine Fr (Vk S rfl rfl fun a S=>Dl (Fs (Fr (Vm S rfl rfl ?_))));clear S;intro a S
 obtain ⟨r1,hr1,h⟩:=Ga h
 refine Er S (fun _=>Ei (vs:=[By]) ⟨(S.tm rfl),trivial⟩ call98) (DO _ By Ai Cc (Cv.mono (S.le_arg Ez)) (EE (S.le_arg Ez) Cw) _ hr1) rfl ?_;clear S;intro v1 a w1 hv1 hk1 hn1 S
 subst hv1
 refine Va S rfl rfl fun a S=>Dz (Vm S rfl rfl fun a S=>Vq S Nt rfl rfl rfl fun a S=>Dl (Fc h (S.tm rfl) (fun hb1 h=>?_) (fun hb1 h=>?_)))
 ·refine Fr (Vm S rfl rfl fun a S=>Va S rfl rfl fun a S=>Dl (wp_ret (Ek ?_)))
  obtain rfl:=Option.some.inj h
  exact Fd S results60 rfl rfl
 ·refine wp_skip (Tn (Fr (Vm S rfl rfl ?_)));clear S;intro a S
  obtain ⟨r2,hr2,h⟩:=Ga h
  refine Er S (fun _=>Ei (vs:=[Ab]) ⟨(S.tm rfl),trivial⟩ call99) (DP _ Ab Ad (Ae.mono (S.le_arg Ez)) _ hr2) rfl ?_;clear S;intro v2 a w2 hv2 hk2 hn2 S
  subst hv2
  refine Va S rfl rfl fun a S=>Dl (wp_ret ?_)
  obtain rfl:=Option.some.inj h
  exact Fd S results60 rfl rfl
theorem EV (w : World) (Ac : Mw) (Eb : R45) (Ef : Vo (view w []) Ac Eb) (Bz : Nat) (Bj : ByteArray) (Ca : (view w []) Bz = some (.cells [sV Bj].toArray 9 (0,0))) (r : Bool) (h : Vz Ac Bj = r) :
    Calls prog 101 [.agg (R45.enc Eb).toArray,.pointer (some ⟨Bz,0,none⟩)].toArray w (Ret w [] fun _ v _=>v = bV r):=by
 obtain ⟨u1,rfl,hs1⟩:=Ef
 refine Fe func101 rfl ntmps101 rfl fun a S=>?_
 unfold Vz at h
 replace S:=S.k2 0 1 rfl
 refine Fr (Mk S (S.tm rfl) (cs:=[sV Ac.Key,sV Ac.Race,u1.val,iV Ac.Young,iV Ac.Old]) rfl rfl ?_);clear S;intro a w1 b1 hz1 hk1 S
 refine Vk S rfl rfl fun a S=>Dz (Vf GE S rfl rfl fun a S=>Vl isAgg9 0 S rfl rfl rfl rfl fun a S=>lv S (Hw isAgg9 (off:=0) (o:=0) (S.tm rfl) ((Pl Ca).at S.emb0) rfl) rfl fun a S=>Vb S Wv rfl rfl rfl fun a S=>Va S rfl rfl fun a S=>Ld ?_)
 refine Tn (wp_ret ?_)
 subst h
 exact Fd S results101 rfl rfl
theorem Uo (w : World) (Au : Value) (Aw : List Mw) (Ea : List R45) (Be : Slc (view w []) 5 Au (Ea.map R45.enc)) (Dt : Lp (Vo (view w [])) Aw Ea) (Ay : Nat) (Av : ByteArray) (Bg : (view w []) Ay = some (.cells [sV Av].toArray 9 (0,0))) (r : Int) (h : Ly Aw Av = r) :
    Calls prog 100 [Au,.func (.func 101) #[] #[.pointer (some ⟨Ay,0,none⟩)]].toArray w (Ret w [] fun _ v _=>v = iV r):=by
 refine Fe func100 rfl ntmps100 rfl fun a S=>?_
 unfold Ly at h
 replace S:=S.k2 0 1 rfl
 refine Fr (Vk S rfl rfl fun a S=>Dl (Fs (Fr (Vm S rfl rfl fun a S=>lv S (Gn JY (S.tm rfl) (Vh Be Dt)) rfl fun a S=>lv S (Rm rfl) rfl ?_))));clear S;intro a S
 refine Dl ?_
 replace S:=S.k4 0 1 7 8 rfl
 obtain ⟨j1,hj1,h⟩:=Fk h
 refine Fa (fun a w'=>j1 = r ∧ Sx w [] nov [] [] 19 a w') ?_ ?_
 ·refine wp_block (Hs (fun (ys1 : List Mw) a w'=>∃ i1 : Nat,(∃ dn,Aw = dn ++ ys1 ∧ dn.length = i1) ∧ Hm Av j1 ys1 i1 = r ∧ Sx w [] nov [] [(0,Au),(1,.func (.func 101) #[] #[.pointer (some ⟨Ay,0,none⟩)]),(7,iV (Aw.length : Int)),(8,iV (i1 : Int))] 19 a w') List.length Aw ⟨0,⟨[],rfl,rfl⟩,h,S.nf [] rfl (subR rfl)⟩ ?_)
  clear S h;rintro ys1 a w1 ⟨i1,⟨dn,hd1,hi1⟩,h,S⟩
  cases ys1 with
  | nil =>
   rw [Hm.eq_1] at h
   refine Fr (Vb S Fp rfl rfl rfl fun a S=>Ld ?_)
   replace S:=S.k5 0 1 7 8 9 rfl
   exact Tn (Fs (wp_cond_false ((S.tm rfl).trans (congrArg Value.bool (Jq hd1 hi1))) (wp_exit (Ew (Ew (Hl (Tn (⟨h,S.nf [] rfl trivial⟩))))))))
  | cons y1 ys1 =>
   rw [Hm.eq_2] at h
   refine Fr (Vb S Fp rfl rfl rfl fun a S=>Ld ?_)
   replace S:=S.k5 0 1 7 8 9 rfl
   refine Tn (Fs (wp_cond_true ((S.tm rfl).trans (congrArg Value.bool (Iv hd1 hi1))) (wp_skip (Tn (Fs (wp_block (Fr (Vm S rfl rfl fun a S=>Va S rfl rfl ?_))))))));clear S;intro a S
   refine Dl (Fs (Fg ?_))
   iterate 3 (refine Vm S rfl rfl ?_;clear S;intro a S)
   obtain ⟨r1,hg1,hl1⟩:=Lp.at Dt (Js hd1 hi1)
   obtain ⟨u1,rfl,hs1⟩:=hl1
   obtain ⟨b1,o1,hm1,hr1⟩:=Fv (a:=a) (x:=.tmp 12) (y:=.tmp 13) (ty:=0) JY Be hg1 rfl (S.tm rfl) (S.tm rfl)
   refine lv S (hr1 _) rfl ?_;clear S;intro a S
   clear hr1
   refine lv S (Gh isAgg45 sizeOf45 (off:=o1) (o:=0) (part:=[sV y1.Key,sV y1.Race,u1.val,iV y1.Young,iV y1.Old]) rfl rfl (S.tm rfl) (hm1.at S.emb0)) rfl fun a S=>Er S (fun _=>Te (cap:=[.pointer (some ⟨Ay,0,none⟩)]) (S.tm rfl) (vs:=[.agg (R45.enc (R45.mk y1.Key y1.Race u1 y1.Young y1.Old)).toArray]) ⟨(S.tm rfl),trivial⟩ call101) (EV _ y1 (R45.mk y1.Key y1.Race u1 y1.Young y1.Old) ⟨u1,rfl,(hs1.mono (S.le_arg Ez))⟩ Ay Av ((S.le_arg Ez) _ _ Bg) _ rfl) rfl ?_;clear S;intro v1 a w3 hv1 hk1 hn1 S
   subst hv1
   refine Dl (Fc h (S.tm rfl) (fun hb1 h=>?_) (fun hb1 h=>?_))
   ·refine Fr (Vm S rfl rfl fun a S=>Va S rfl rfl fun a S=>Ld ?_)
    replace S:=S.k1 4 rfl
    refine Tn (wp_ret (Gg (Ek (Ek (Gg (Ek (Ek ?_)))))))
    subst h
    exact Fd S results100 rfl rfl
   ·exact wp_skip (Im (Tn (Fg (Vq S Gw rfl rfl rfl fun a S=>Vm S rfl rfl fun a S=>Dl (⟨ys1,⟨i1 + 1,⟨_,(hd1).trans (List.append_cons _ _ _),by simp [hi1]⟩,h,S.nf [] rfl ⟨rfl,rfl,rfl,(congrArg (fun z=>some (Value.int .i64 z)) (Iw hd1 hi1 (Xk Be Dt))),trivial⟩⟩,Nat.lt_succ_self _⟩)))))
 clear S h;rintro a w2 ⟨h,S⟩;rw [hj1] at h;clear hj1 j1
 refine Tn (Fr (Vk S rfl rfl fun a S=>Dl (wp_ret ?_)))
 subst h
 exact Fd S results100 rfl rfl
theorem HN (w : World) (By : Value) (Ai : List Mw) (Cc : List R45) (Cv : Slc (view w []) 5 By (Cc.map R45.enc)) (Cw : Lp (Vo (view w [])) Ai Cc) (Bm : ByteArray) (r : Int) (h : Jl Ai Bm = r) :
    Calls prog 61 [By,sV Bm].toArray w (Ret w [] fun _ v _=>v = iV r):=by
 refine Fe func61 rfl ntmps61 rfl fun a S=>?_
 unfold Jl at h
 replace S:=S.k2 0 1 rfl
 refine Fr (Mk S (S.tm rfl) (cs:=[sV Bm]) rfl rfl ?_);clear S;intro a w1 b1 hz1 hk1 S
 refine Vk S rfl rfl fun a S=>Dz (Vm S rfl rfl fun a S=>lv S (Tr (us:=#[]) (xs:=[].toArray) (ys:=[.tmp 3].toArray) (by simp) (evA ⟨(S.tm rfl),trivial⟩ (vs:=[.pointer (some ⟨b1,0,none⟩)]))) rfl fun a S=>Er S (fun _=>Ei (vs:=[By,.func (.func 101) #[] #[.pointer (some ⟨b1,0,none⟩)]]) ⟨(S.tm rfl),(S.tm rfl),trivial⟩ call100) (Uo _ By Ai Cc (Cv.mono (S.le_arg Ez)) (EE (S.le_arg Ez) Cw) b1 Bm (S.blk_view (i:=0) rfl ((Ik (e':=.blk b1 [sV Bm] 9)) _ rfl)) _ rfl) rfl ?_);clear S;intro v1 a w2 hv1 hk2 hn1 S
 subst hv1
 refine Va S rfl rfl fun a S=>Dl (wp_ret ?_)
 subst h
 exact Fd S results61 rfl rfl
end Go.Proofs.YtjofndbcioknfaaGreatDoor
