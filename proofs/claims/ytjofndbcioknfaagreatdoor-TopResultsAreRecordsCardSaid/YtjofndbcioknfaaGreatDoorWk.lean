/- Each Go function computes its plain twin,by program. -/
import Derived.Test.YtjofndbcioknfaaGreatDoorWk3
namespace Go.Proofs.YtjofndbcioknfaaGreatDoor
open Go
open Go.Proofs.Tryz
set_option maxRecDepth 20000 in
theorem HO (w : World) (Ab : Value) (Ad : List Ex) (Ae : Slc (view w []) 8 Ab (Ad.map Ex.enc)) (Bd : Int) (r : (List Ep) × (List Int)) (h : Wq Ad Bd = some r) :
    Calls prog 63 [Ab,iV Bd].toArray w (Ret w [] fun τ v _=>∃ u1 : Value,∃ u2 : Value,v = .tuple #[u1,u2] ∧ VC τ 1 RP.enc AF u1 r.1 ∧ Ve τ 3 1 u2 r.2.length (r.2.flatMap eInt)):=by
 refine Fe func63 rfl ntmps63 rfl fun a S=>?_
 unfold Wq at h
 replace S:=S.k2 0 1 rfl
 refine Fr (Vk S rfl rfl fun a S=>Vk S rfl rfl fun a S=>Ld ?_)
 replace S:=S.k2 0 1 rfl
 refine Tn (Fr (Vk S rfl rfl ?_));clear S;intro a S
 replace S:=S.nil 192 1
 refine Ld ?_
 replace S:=(S.nl [.own (.slice none 0 0) 192 1 ([] : List Nat).length (([] : List Nat).flatMap RP.enc)] [true] rfl).k3 0 1 6 rfl
 refine Tn (Fr (Vk S rfl rfl ?_));clear S;intro a S
 replace S:=S.nil 3 1
 refine Ld ?_
 replace S:=(S.nl [.own (.slice none 0 0) 3 1 ([] : List Int).length (([] : List Int).flatMap eInt),.own (.slice none 0 0) 192 1 ([] : List Nat).length (([] : List Nat).flatMap RP.enc)] [true,true] rfl).k4 0 1 6 7 rfl
 refine Tn (Fr (Sf (κ:=ByteArray) (ν:=Option Nat) S rfl Value.string PV ?_));clear S;intro a w1 b1 hz1 hk1 S
 refine Va S rfl rfl fun a S=>Ld ?_
 replace S:=(S.nl ([.map b1 (Gx Value.string PV (idm (([] : List Ep).map fun x=>x.s_.Id) ([] : List Nat))) (idm (([] : List Ep).map fun x=>x.s_.Id) ([] : List Nat)).length,.own (.slice none 0 0) 3 1 ([] : List Int).length (([] : List Int).flatMap eInt),.own (.slice none 0 0) 192 1 ([] : List Nat).length (([] : List Nat).flatMap RP.enc)] ++ Ok 194 Ep.enc ([] : List Nat) ([] : List Ep)) [true,true,true] rfl).k5 0 1 6 7 8 rfl
 refine Tn (Fs (Fr (Vm S rfl rfl fun a S=>lv S (Gn AG (S.tm rfl) (Gk Ae)) rfl fun a S=>lv S (Rm rfl) rfl fun a S=>Ld ?_)))
 replace S:=S.k7 1 6 7 8 13 14 15 rfl
 refine Tn ?_
 obtain ⟨j1,hj1,h⟩:=Fk h
 refine Fa (fun a w'=>∃ x1 : List Ep,∃ x2 : List Int,∃ bs1 : List Nat,∃ v1 : Value,∃ v2 : Value,j1 x1 x2 = some r ∧ bs1.length = x1.length ∧ Sx w [] nov ([.map b1 (Gx Value.string PV (idm (x1.map fun x=>x.s_.Id) bs1)) (idm (x1.map fun x=>x.s_.Id) bs1).length,.own v1 3 1 x2.length (x2.flatMap eInt),.own v2 192 1 bs1.length (bs1.flatMap RP.enc)] ++ Ok 194 Ep.enc bs1 x1) [(6,v2),(7,v1)] 97 a w') ?_ ?_
 ·refine wp_block (Hs (fun (ys1 : List Ex) a w'=>∃ i1 : Nat,∃ x1 : List Ep,∃ x2 : List Int,∃ bs1 : List Nat,∃ v1 : Value,∃ v2 : Value,(∃ dn,Ad = dn ++ ys1 ∧ dn.length = i1) ∧ Mr Bd j1 ys1 i1 x1 x2 = some r ∧ bs1.length = x1.length ∧ Sx w [] nov ([.map b1 (Gx Value.string PV (idm (x1.map fun x=>x.s_.Id) bs1)) (idm (x1.map fun x=>x.s_.Id) bs1).length,.own v1 3 1 x2.length (x2.flatMap eInt),.own v2 192 1 bs1.length (bs1.flatMap RP.enc)] ++ Ok 194 Ep.enc bs1 x1) [(1,iV Bd),(6,v2),(7,v1),(8,.map (some b1)),(13,Ab),(14,iV (Ad.length : Int)),(15,iV (i1 : Int))] 97 a w') List.length Ad ⟨0,([] : List Ep),([] : List Int),([] : List Nat),(.slice none 0 0),(.slice none 0 0),⟨[],rfl,rfl⟩,h,(rfl : ([] : List Nat).length = ([] : List Ep).length),S.nf [true,true,true] rfl (subR rfl)⟩ ?_)
  clear S h;rintro ys1 a w2 ⟨i1,x1,x2,bs1,v1,v2,⟨dn,hd1,hi1⟩,h,hl1,S⟩
  cases ys1 with
  | nil =>
   rw [Mr.eq_1] at h
   refine Fr (Vb S Fp rfl rfl rfl fun a S=>Ld ?_)
   replace S:=S.k8 1 6 7 8 13 14 15 16 rfl
   exact Tn (Fs (wp_cond_false ((S.tm rfl).trans (congrArg Value.bool (Jq hd1 hi1))) (wp_exit (Ew (Ew (Hl (Tn (⟨x1,x2,bs1,v1,v2,h,hl1,S.nf [true,true,true] rfl (subR rfl)⟩))))))))
  | cons y1 ys1 =>
   rw [Mr.eq_2] at h
   refine Fr (Vb S Fp rfl rfl rfl fun a S=>Ld ?_)
   replace S:=S.k8 1 6 7 8 13 14 15 16 rfl
   refine Tn (Fs (wp_cond_true ((S.tm rfl).trans (congrArg Value.bool (Iv hd1 hi1))) (wp_skip (Tn (Fs (wp_block (Fr (Vm S rfl rfl ?_))))))));clear S;intro a S
   obtain ⟨b2,o1,hm1,hr1⟩:=Fv (a:=a) (x:=.tmp 13) (y:=.tmp 15) (ty:=0) AG Ae (Js hd1 hi1) rfl (S.tm rfl) (S.tm rfl)
   refine lv S (hr1 _) rfl ?_;clear S;intro a S
   clear hr1
   refine lv S (Gh isAgg53 sizeOf53 (off:=o1) (o:=0) (part:=(Ex.enc y1)) rfl rfl (S.tm rfl) (hm1.at S.emb0)) rfl fun a S=>Iz S zeroValue53 (cs:=[iV 0,iV 0,sV An,sV An,sV An,sV An,iV 0,iV 0]) rfl rfl ?_;clear S;intro a w4 b3 hz2 hk2 S
   refine Va S rfl rfl fun a S=>Ft S (S.tm rfl) (S.tm rfl) (i:=0) (off:=0) rfl sizeOf53 (vs:=(Ex.enc y1)) rfl rfl rfl rfl ?_;clear S;intro w5 hk3 S
   refine Ld ?_
   replace S:=(S.nl ([.blk b3 (Ex.enc y1) 53,.map b1 (Gx Value.string PV (idm (x1.map fun x=>x.s_.Id) bs1)) (idm (x1.map fun x=>x.s_.Id) bs1).length,.own v1 3 1 x2.length (x2.flatMap eInt),.own v2 192 1 bs1.length (bs1.flatMap RP.enc)] ++ Ok 194 Ep.enc bs1 x1) [true,true,true,true] rfl).k9 1 6 7 8 9 10 13 14 15 rfl
   refine Tn (Fs (Fr (Vf EF S rfl rfl fun a S=>Vl isAgg3 0 S rfl rfl rfl rfl fun a S=>Vm S rfl rfl fun a S=>Vb S Jz rfl rfl rfl fun a S=>Ld ?_)))
   replace S:=S.k10 1 6 7 8 9 10 13 14 15 23 rfl
   refine Tn (Fc h (S.tm rfl) (fun hb1 h=>?_) (fun hb1 h=>?_))
   ·exact wp_exit (Ew (NH rfl (Ew (Ew (Hl (Tn (⟨x1,x2,bs1,v1,v2,h,hl1,S.nf [false,true,true,true] rfl (subR rfl)⟩)))))))
   ·refine wp_skip (Tn (Fr (Vm S rfl rfl fun a S=>Vf Zf S rfl rfl fun a S=>Vl isAgg9 0 S rfl rfl rfl rfl fun a S=>lv S (Qu (kv:=Value.string) (vv:=PV) (m:=idm (x1.map fun x=>x.s_.Id) bs1) (key:=y1.Id) (z:=none) (S.map_at (i:=1) rfl) underlying191 (Nu underlying9) zeroValue192 (S.tm rfl) (S.tm rfl)) rfl ?_)));clear S;intro a S
    generalize ho : Et (idm (x1.map fun x=>x.s_.Id) bs1) y1.Id none = o2 at S
    obtain ⟨hN,hS⟩ : (CY x1 y1.Id).isNone = o2.isNone ∧ (CY x1 y1.Id).isSome = o2.isSome:=WZ hl1 ho
    simp only [hN,hS] at h
    refine Va S rfl rfl fun a S=>Ld ?_
    replace S:=S.k10 1 6 7 8 9 10 11 13 14 15 rfl
    refine Tn ?_
    obtain ⟨j2,hj2,h⟩:=Fk h
    refine Fa (fun a w'=>∃ x3 : List Ep,∃ x4 : List Int,∃ bs2 : List Nat,∃ v3 : Value,∃ v4 : Value,j2 x3 x4 = some r ∧ bs2.length = x3.length ∧ Sx w [] nov ([.map b1 (Gx Value.string PV (idm (x3.map fun x=>x.s_.Id) bs2)) (idm (x3.map fun x=>x.s_.Id) bs2).length,.own v3 3 1 x4.length (x4.flatMap eInt),.own v4 192 1 bs2.length (bs2.flatMap RP.enc)] ++ Ok 194 Ep.enc bs2 x3) [(1,iV Bd),(6,v4),(7,v3),(8,.map (some b1)),(13,Ab),(14,iV (Ad.length : Int)),(15,iV (i1 : Int))] 97 a w') ?_ ?_
    ·refine wp_block (Fr (Vf AH S rfl rfl fun a S=>Vl isAgg3 0 S rfl rfl rfl rfl fun a S=>Vq S Jn rfl rfl rfl fun a S=>Vm S rfl rfl fun a S=>Io 3 (fun a w'=>Keep [] w5 w' ∧ Sx w [] nov ([.blk b3 (Ex.enc y1) 53,.map b1 (Gx Value.string PV (idm (x1.map fun x=>x.s_.Id) bs1)) (idm (x1.map fun x=>x.s_.Id) bs1).length,.own v1 3 1 x2.length (x2.flatMap eInt),.own v2 192 1 bs1.length (bs1.flatMap RP.enc)] ++ Ok 194 Ep.enc bs1 x1) [(1,iV Bd),(6,v2),(7,v1),(8,.map (some b1)),(9,iV (i1 : Int)),(10,.pointer (some ⟨b3,0,none⟩)),(11,PV o2),(13,Ab),(14,iV (Ad.length : Int)),(15,iV (i1 : Int)),(39,bV ((decide (y1.Kind = 1)) && o2.isNone))] 97 a w') ?_ ?_))
     ·rcases Bool.eq_false_or_eq_true (decide (y1.Kind = 1)) with hb2 | hb2
      ·exact Em S rfl rfl rfl hb2 (Vm S rfl rfl fun a S=>Em S rfl rfl rfl hb2 (Vq S (rn_peql underlying192) rfl rfl rfl fun a S=>lv S (Ii hb2 (S.tm rfl) (S.tm rfl)) rfl fun a S=>Dl (⟨Keep.refl _ _,S.nf [true,true,true,true] rfl (subR rfl)⟩)))
      ·exact Hk S rfl rfl rfl (Ka hb2) rfl (fun a S=>Hk S rfl rfl rfl (Ka hb2) rfl (fun a S=>Vq S (Ij o2.isNone hb2) rfl rfl rfl fun a S=>Dl (⟨Keep.refl _ _,S.nf [true,true,true,true] rfl (subR rfl)⟩)) rfl) rfl
     clear S;rintro a w7 ⟨hk4,S⟩
     refine Va S rfl rfl fun a S=>Ld ?_
     replace S:=S.k11 1 6 7 8 9 10 11 13 14 15 32 rfl
     refine Tn ?_
     obtain ⟨j3,hj3,h⟩:=Fk h
     refine Fa (fun a w'=>∃ x5 : List Ep,∃ x6 : List Int,∃ bs3 : List Nat,∃ v5 : Value,∃ v6 : Value,j3 x5 x6 = some r ∧ bs3.length = x5.length ∧ Sx w [] nov ([.map b1 (Gx Value.string PV (idm (x5.map fun x=>x.s_.Id) bs3)) (idm (x5.map fun x=>x.s_.Id) bs3).length,.own v5 3 1 x6.length (x6.flatMap eInt),.own v6 192 1 bs3.length (bs3.flatMap RP.enc)] ++ Ok 194 Ep.enc bs3 x5) [(1,iV Bd),(6,v6),(7,v5),(8,.map (some b1)),(13,Ab),(14,iV (Ad.length : Int)),(15,iV (i1 : Int))] 97 a w') ?_ ?_
     ·refine Fc h (S.tm rfl) (fun hb3 h=>?_) (fun hb3 h=>?_)
      ·refine Fr (lv S (Gh isAgg53 sizeOf53 (off:=0) (o:=0) (part:=(Ex.enc y1)) rfl rfl (S.tm rfl) (S.cellsAt (i:=0) rfl)) rfl fun a S=>lv S (Nc bt_194 (pv:=[(0,.agg (Ex.enc y1).toArray)]) ⟨rfl,(S.tm rfl),trivial⟩ (cs:=[iV y1.At,iV y1.Kind,sV y1.Id,sV y1.Who,sV y1.Club,sV y1.Race,iV y1.Age,iV y1.Time,bV false,bV false]) (by kernel_rfl)) rfl fun a S=>Mk S (S.tm rfl) (cs:=[iV y1.At,iV y1.Kind,sV y1.Id,sV y1.Who,sV y1.Club,sV y1.Race,iV y1.Age,iV y1.Time,bV false,bV false]) rfl rfl ?_);clear S;intro a w9 b4 hz3 hk5 S
       refine Va S rfl rfl fun a S=>Ld ?_
       replace S:=(S.nl ([.blk b4 (Ep.enc (Ep.mk y1 false false)) 194,.blk b3 (Ex.enc y1) 53,.map b1 (Gx Value.string PV (idm (x1.map fun x=>x.s_.Id) bs1)) (idm (x1.map fun x=>x.s_.Id) bs1).length,.own v1 3 1 x2.length (x2.flatMap eInt),.own v2 192 1 bs1.length (bs1.flatMap RP.enc)] ++ Ok 194 Ep.enc bs1 x1) [true,true,true,true,true] rfl).k9 1 6 7 8 10 11 13 14 15 rfl
       refine Tn ?_
       obtain ⟨hc1,h⟩:=Jc h
       refine Hd [] (v2.ownBlock.toList ++ [b1]) Tryz.mixed S rfl (by kernel_rfl) ?_;clear S;intro w13 hk9 hsel S
       refine Eo 0 S hsel rfl rfl rfl (by kernel_rfl) (by kernel_rfl) rfl (fun _ hw=>(Rm (S.tm rfl))) fun a S=>Eo 1 S hsel rfl rfl rfl (by kernel_rfl) (by kernel_rfl) rfl (fun _ hw=>(Gb Zf (S.tm rfl))) fun a S=>Eo 2 S hsel rfl rfl rfl (by kernel_rfl) (by kernel_rfl) rfl (fun _ hw=>(Hw isAgg9 (off:=0) (o:=2) (S.tm rfl) ((S.blk_mem (i:=1) (cells:=(Ex.enc y1)) (b:=b3) (T:=53) rfl (WR (Nf (i:=4) (j:=1) (e:=.own v2 192 1 bs1.length (bs1.flatMap RP.enc)) (e':=.blk b3 (Ex.enc y1) 53) S rfl rfl rfl) (Nf (i:=2) (j:=1) (e:=(_)) (e':=.blk b3 (Ex.enc y1) 53) S rfl rfl rfl))).kept hw) rfl)) fun a S=>Eo 3 S hsel rfl rfl rfl (by kernel_rfl) (by kernel_rfl) rfl (fun _ hw=>(Rm (S.tm rfl))) fun a S=>Eo 4 S hsel rfl rfl rfl (by kernel_rfl) (by kernel_rfl) rfl (fun _ hw=>(Rm (S.tm rfl))) fun a S=>Eo 5 S hsel rfl rfl rfl (by kernel_rfl) (by kernel_rfl) rfl (fun _ hw=>(Rm (S.tm rfl))) fun a S=>Hi 6 (by kernel_rfl) rfl (Fq S underlying77 sizeOf192 zeroValue192 rfl rfl (pv:=[(0,.pointer (some ⟨b4,0,none⟩))]) ⟨rfl,(S.tm rfl),trivial⟩ (cs:=[.pointer (some ⟨b4,0,none⟩)]) (by kernel_rfl) rfl ?_);clear S;intro a w14 b6 hz5 hk10 S
       refine Ld (It (Keep.none hk10) (Hi 7 (by kernel_rfl) rfl ?_))
       refine Np XB RP.enc_ok S (S.tm rfl) (i:=5) rfl (S.tm rfl) (j:=0) rfl (ys:=[b4]) rfl rfl rfl rfl (by have:=Nx hc1;omega) rfl ?_;clear S;intro v8 a w15 hk11 S
       refine Ld ?_
       refine It (hk11.sub (by intro y hy;simp at hy ⊢;simp [hy])) ?_
       refine Hi 8 (by kernel_rfl) rfl (Qa (kv:=Value.string) (vv:=PV) (m:=idm (x1.map fun x=>x.s_.Id) bs1) (key:=y1.Id) (val:=some b4) S (i:=3) rfl underlying191 (Nu underlying9) (S.tm rfl) (S.tm rfl) (S.tm rfl) ?_);clear S;intro w16 hk12 S
       refine Ld ?_
       refine It (hk12.sub (by intro y hy;simp at hy ⊢;simp [hy])) ?_
       refine Kt [9] hsel (by kernel_rfl) rfl ?_
       clear hsel
       refine Gv S rfl (Ra (S.tm rfl)) rfl fun a S=>Jb ?_
       replace S:=S.nk ([.blk b4 (Ep.enc (Ep.mk y1 false false)) 194,.map b1 (Gx Value.string PV (Hj (idm (x1.map fun x=>x.s_.Id) bs1) y1.Id (some b4))) (Hj (idm (x1.map fun x=>x.s_.Id) bs1) y1.Id (some b4)).length,.own v1 3 1 x2.length (x2.flatMap eInt),.own v8 192 1 (bs1 ++ [b4]).length ((bs1 ++ [b4]).flatMap RP.enc)] ++ Ok 194 Ep.enc bs1 x1) [(1,iV Bd),(6,v8),(7,v1),(8,.map (some b1)),(13,Ab),(14,iV (Ad.length : Int)),(15,iV (i1 : Int))] [false,true,false,true,true,true] rfl (subR rfl)
       replace S:=S.join_arena (enc:=Ep.enc) (x:=(Ep.mk y1 false false)) hl1
       rw [idm_add (key:=fun x : Ep=>x.s_.Id) ((Ep.mk y1 false false)) hl1 (VD hl1 ho (by simp only [Bool.and_eq_true] at hb3;simp [hb3])) rfl] at S
       replace S:=(S.nl ([.map b1 (Gx Value.string PV (idm ((x1 ++ [(Ep.mk y1 false false)]).map fun x=>x.s_.Id) (bs1 ++ [b4]))) (idm ((x1 ++ [(Ep.mk y1 false false)]).map fun x=>x.s_.Id) (bs1 ++ [b4])).length,.own v1 3 1 x2.length (x2.flatMap eInt),.own v8 192 1 (bs1 ++ [b4]).length ((bs1 ++ [b4]).flatMap RP.enc)] ++ Ok 194 Ep.enc (bs1 ++ [b4]) (x1 ++ [(Ep.mk y1 false false)])) [true,true,true] rfl).k7 1 6 7 8 13 14 15 rfl
       refine Tn ?_
       exact ⟨(x1 ++ [(Ep.mk y1 false false)]),x2,(bs1 ++ [b4]),v1,v8,h,(by rw [List.length_append,List.length_append,hl1];rfl),S.nf [true,true,true] rfl (subR rfl)⟩
      ·refine Fr (Vf AH S rfl rfl fun a S=>Vl isAgg3 0 S rfl rfl rfl rfl fun a S=>Vq S Jn rfl rfl rfl fun a S=>Vm S rfl rfl fun a S=>Io 3 (fun a w'=>Keep [] w7 w' ∧ Sx w [] nov ([.blk b3 (Ex.enc y1) 53,.map b1 (Gx Value.string PV (idm (x1.map fun x=>x.s_.Id) bs1)) (idm (x1.map fun x=>x.s_.Id) bs1).length,.own v1 3 1 x2.length (x2.flatMap eInt),.own v2 192 1 bs1.length (bs1.flatMap RP.enc)] ++ Ok 194 Ep.enc bs1 x1) [(1,iV Bd),(6,v2),(7,v1),(8,.map (some b1)),(9,iV (i1 : Int)),(10,.pointer (some ⟨b3,0,none⟩)),(11,PV o2),(13,Ab),(14,iV (Ad.length : Int)),(15,iV (i1 : Int)),(58,bV ((decide (y1.Kind = 2)) && o2.isSome))] 97 a w') ?_ ?_)
       ·rcases Bool.eq_false_or_eq_true (decide (y1.Kind = 2)) with hb4 | hb4
        ·exact Em S rfl rfl rfl hb4 (Vm S rfl rfl fun a S=>Em S rfl rfl rfl hb4 (Vq S (SW underlying192) rfl rfl rfl fun a S=>lv S (Ii hb4 (S.tm rfl) (S.tm rfl)) rfl fun a S=>Dl (⟨Keep.refl _ _,S.nf [true,true,true,true] rfl (subR rfl)⟩)))
        ·exact Hk S rfl rfl rfl (Ka hb4) rfl (fun a S=>Hk S rfl rfl rfl (Ka hb4) rfl (fun a S=>Vq S (Ij o2.isSome hb4) rfl rfl rfl fun a S=>Dl (⟨Keep.refl _ _,S.nf [true,true,true,true] rfl (subR rfl)⟩)) rfl) rfl
       clear S;rintro a w17 ⟨hk13,S⟩
       refine Vm S rfl rfl fun a S=>Io 6 (fun a w'=>Keep [] w17 w' ∧ Sx w [] nov ([.blk b3 (Ex.enc y1) 53,.map b1 (Gx Value.string PV (idm (x1.map fun x=>x.s_.Id) bs1)) (idm (x1.map fun x=>x.s_.Id) bs1).length,.own v1 3 1 x2.length (x2.flatMap eInt),.own v2 192 1 bs1.length (bs1.flatMap RP.enc)] ++ Ok 194 Ep.enc bs1 x1) [(1,iV Bd),(6,v2),(7,v1),(8,.map (some b1)),(9,iV (i1 : Int)),(10,.pointer (some ⟨b3,0,none⟩)),(11,PV o2),(13,Ab),(14,iV (Ad.length : Int)),(15,iV (i1 : Int)),(65,bV (((decide (y1.Kind = 2)) && o2.isSome) && (!((Ty x1 y1.Id).sure_))))] 97 a w') ?_ ?_
       ·rcases Bool.eq_false_or_eq_true ((decide (y1.Kind = 2)) && o2.isSome) with hb5 | hb5
        ·refine Em S rfl rfl rfl hb5 (Vm S rfl rfl fun a S=>Em S rfl rfl rfl hb5 ?_)
         obtain ⟨bo,ho',hbj,hxj⟩:=FY hl1 ho (by simp only [Bool.and_eq_true] at hb5;simp [hb5])
         have hpv : PV o2 = .pointer (some ⟨bo,0,none⟩):=by rw [ho'];rfl
         exact lv S (Jh ((S.tm rfl).trans hpv)) rfl fun a S=>Em S rfl rfl rfl hb5 (Vf KB S rfl rfl fun a S=>Em S rfl rfl rfl hb5 (lv S (Mg isAgg4 (S.tm rfl) (S.cell (CV hbj hxj) rfl)) rfl fun a S=>Em S rfl rfl rfl hb5 (Vu S Ig rfl rfl fun a S=>lv S (Ii hb5 (S.tm rfl) (S.tm rfl)) rfl fun a S=>Dl (⟨Keep.refl _ _,S.nf [true,true,true,true] rfl (subR rfl)⟩))))
        ·iterate 5 (refine Hk S rfl rfl rfl (Ka hb5) rfl ?_ rfl;clear S;intro a S)
         exact lv S (Ij (!((Ty x1 y1.Id).sure_)) hb5 (S.tm rfl) rfl) rfl fun a S=>Dl (⟨Keep.refl _ _,S.nf [true,true,true,true] rfl (subR rfl)⟩)
       clear S;rintro a w18 ⟨hk14,S⟩
       refine Vm S rfl rfl fun a S=>Io 6 (fun a w'=>Keep [] w18 w' ∧ Sx w [] nov ([.blk b3 (Ex.enc y1) 53,.map b1 (Gx Value.string PV (idm (x1.map fun x=>x.s_.Id) bs1)) (idm (x1.map fun x=>x.s_.Id) bs1).length,.own v1 3 1 x2.length (x2.flatMap eInt),.own v2 192 1 bs1.length (bs1.flatMap RP.enc)] ++ Ok 194 Ep.enc bs1 x1) [(1,iV Bd),(6,v2),(7,v1),(8,.map (some b1)),(9,iV (i1 : Int)),(10,.pointer (some ⟨b3,0,none⟩)),(11,PV o2),(13,Ab),(14,iV (Ad.length : Int)),(15,iV (i1 : Int)),(72,bV ((((decide (y1.Kind = 2)) && o2.isSome) && (!((Ty x1 y1.Id).sure_))) && (!((Ty x1 y1.Id).void_))))] 97 a w') ?_ ?_
       ·rcases Bool.eq_false_or_eq_true (((decide (y1.Kind = 2)) && o2.isSome) && (!((Ty x1 y1.Id).sure_))) with hb6 | hb6
        ·refine Em S rfl rfl rfl hb6 (Vm S rfl rfl fun a S=>Em S rfl rfl rfl hb6 ?_)
         obtain ⟨bo,ho',hbj,hxj⟩:=FY hl1 ho (by simp only [Bool.and_eq_true] at hb6;simp [hb6])
         have hpv : PV o2 = .pointer (some ⟨bo,0,none⟩):=by rw [ho'];rfl
         exact lv S (Jh ((S.tm rfl).trans hpv)) rfl fun a S=>Em S rfl rfl rfl hb6 (Vf DI S rfl rfl fun a S=>Em S rfl rfl rfl hb6 (lv S (Mg isAgg4 (S.tm rfl) (S.cell (CV hbj hxj) rfl)) rfl fun a S=>Em S rfl rfl rfl hb6 (Vu S Ig rfl rfl fun a S=>lv S (Ii hb6 (S.tm rfl) (S.tm rfl)) rfl fun a S=>Dl (⟨Keep.refl _ _,S.nf [true,true,true,true] rfl (subR rfl)⟩))))
        ·iterate 5 (refine Hk S rfl rfl rfl (Ka hb6) rfl ?_ rfl;clear S;intro a S)
         exact lv S (Ij (!((Ty x1 y1.Id).void_)) hb6 (S.tm rfl) rfl) rfl fun a S=>Dl (⟨Keep.refl _ _,S.nf [true,true,true,true] rfl (subR rfl)⟩)
       clear S;rintro a w19 ⟨hk15,S⟩
       refine Va S rfl rfl fun a S=>Ld ?_
       replace S:=S.k11 1 6 7 8 9 10 11 13 14 15 51 rfl
       refine Tn ?_
       obtain ⟨j4,hj4,h⟩:=Fk h
       refine Fa (fun a w'=>∃ x7 : List Ep,∃ x8 : List Int,∃ v9 : Value,j4 x7 x8 = some r ∧ bs1.length = x7.length ∧ Sx w [] nov ([.map b1 (Gx Value.string PV (idm (x7.map fun x=>x.s_.Id) bs1)) (idm (x7.map fun x=>x.s_.Id) bs1).length,.own v9 3 1 x8.length (x8.flatMap eInt),.own v2 192 1 bs1.length (bs1.flatMap RP.enc)] ++ Ok 194 Ep.enc bs1 x7) [(1,iV Bd),(6,v2),(7,v9),(8,.map (some b1)),(13,Ab),(14,iV (Ad.length : Int)),(15,iV (i1 : Int))] 97 a w') ?_ ?_
       ·refine Fc h (S.tm rfl) (fun hb7 h=>?_) (fun hb7 h=>?_)
        ·refine Fg (Vm S rfl rfl ?_);clear S;intro a S
         obtain ⟨bo,ho',hbj,hxj⟩:=FY hl1 ho (by simp only [Bool.and_eq_true] at hb7;simp [hb7])
         have hpv : PV o2 = .pointer (some ⟨bo,0,none⟩):=by rw [ho'];rfl
         refine lv S (Jh ((S.tm rfl).trans hpv)) rfl fun a S=>Vf KB S rfl rfl fun a S=>Ft S (S.tm rfl) rfl (off:=8) (CV hbj hxj) sizeOf4 (vs:=[.bool true]) rfl rfl rfl rfl ?_;clear S;intro w21 hk16 S
         replace S:=S.arena_store (y:=(Ep.mk (Ty x1 y1.Id).s_ true (Ty x1 y1.Id).void_)) hbj rfl
         rw [PM (key:=fun x : Ep=>x.s_.Id) (y:=(Ep.mk (Ty x1 y1.Id).s_ true (Ty x1 y1.Id).void_)) hxj rfl] at S
         refine Ld ?_
         replace S:=(S.nl ([.map b1 (Gx Value.string PV (idm ((x1.set (CZ x1 y1.Id) (Ep.mk (Ty x1 y1.Id).s_ true (Ty x1 y1.Id).void_)).map fun x=>x.s_.Id) bs1)) (idm ((x1.set (CZ x1 y1.Id) (Ep.mk (Ty x1 y1.Id).s_ true (Ty x1 y1.Id).void_)).map fun x=>x.s_.Id) bs1).length,.own v1 3 1 x2.length (x2.flatMap eInt),.own v2 192 1 bs1.length (bs1.flatMap RP.enc)] ++ Ok 194 Ep.enc bs1 (x1.set (CZ x1 y1.Id) (Ep.mk (Ty x1 y1.Id).s_ true (Ty x1 y1.Id).void_))) [false,true,true,true] rfl).k7 1 6 7 8 13 14 15 rfl
         refine Tn ?_
         exact ⟨(x1.set (CZ x1 y1.Id) (Ep.mk (Ty x1 y1.Id).s_ true (Ty x1 y1.Id).void_)),x2,v1,h,(by rw [List.length_set];exact hl1),S.nf [true,true,true] rfl (subR rfl)⟩
        ·refine Fr (Vf AH S rfl rfl fun a S=>Vl isAgg3 0 S rfl rfl rfl rfl fun a S=>Vq S Jn rfl rfl rfl fun a S=>Vm S rfl rfl fun a S=>Io 3 (fun a w'=>Keep [] w19 w' ∧ Sx w [] nov ([.blk b3 (Ex.enc y1) 53,.map b1 (Gx Value.string PV (idm (x1.map fun x=>x.s_.Id) bs1)) (idm (x1.map fun x=>x.s_.Id) bs1).length,.own v1 3 1 x2.length (x2.flatMap eInt),.own v2 192 1 bs1.length (bs1.flatMap RP.enc)] ++ Ok 194 Ep.enc bs1 x1) [(1,iV Bd),(6,v2),(7,v1),(8,.map (some b1)),(9,iV (i1 : Int)),(11,PV o2),(13,Ab),(14,iV (Ad.length : Int)),(15,iV (i1 : Int)),(83,bV ((decide (y1.Kind = 3)) && o2.isSome))] 97 a w') ?_ ?_)
         ·rcases Bool.eq_false_or_eq_true (decide (y1.Kind = 3)) with hb8 | hb8
          ·exact Em S rfl rfl rfl hb8 (Vm S rfl rfl fun a S=>Em S rfl rfl rfl hb8 (Vq S (SW underlying192) rfl rfl rfl fun a S=>lv S (Ii hb8 (S.tm rfl) (S.tm rfl)) rfl fun a S=>Dl (⟨Keep.refl _ _,S.nf [true,true,true,true] rfl (subR rfl)⟩)))
          ·exact Hk S rfl rfl rfl (Ka hb8) rfl (fun a S=>Hk S rfl rfl rfl (Ka hb8) rfl (fun a S=>Vq S (Ij o2.isSome hb8) rfl rfl rfl fun a S=>Dl (⟨Keep.refl _ _,S.nf [true,true,true,true] rfl (subR rfl)⟩)) rfl) rfl
         clear S;rintro a w22 ⟨hk17,S⟩
         refine Vm S rfl rfl fun a S=>Io 6 (fun a w'=>Keep [] w22 w' ∧ Sx w [] nov ([.blk b3 (Ex.enc y1) 53,.map b1 (Gx Value.string PV (idm (x1.map fun x=>x.s_.Id) bs1)) (idm (x1.map fun x=>x.s_.Id) bs1).length,.own v1 3 1 x2.length (x2.flatMap eInt),.own v2 192 1 bs1.length (bs1.flatMap RP.enc)] ++ Ok 194 Ep.enc bs1 x1) [(1,iV Bd),(6,v2),(7,v1),(8,.map (some b1)),(9,iV (i1 : Int)),(11,PV o2),(13,Ab),(14,iV (Ad.length : Int)),(15,iV (i1 : Int)),(90,bV (((decide (y1.Kind = 3)) && o2.isSome) && (!((Ty x1 y1.Id).void_))))] 97 a w') ?_ ?_
         ·rcases Bool.eq_false_or_eq_true ((decide (y1.Kind = 3)) && o2.isSome) with hb9 | hb9
          ·refine Em S rfl rfl rfl hb9 (Vm S rfl rfl fun a S=>Em S rfl rfl rfl hb9 ?_)
           obtain ⟨bo,ho',hbj,hxj⟩:=FY hl1 ho (by simp only [Bool.and_eq_true] at hb9;simp [hb9])
           have hpv : PV o2 = .pointer (some ⟨bo,0,none⟩):=by rw [ho'];rfl
           exact lv S (Jh ((S.tm rfl).trans hpv)) rfl fun a S=>Em S rfl rfl rfl hb9 (Vf DI S rfl rfl fun a S=>Em S rfl rfl rfl hb9 (lv S (Mg isAgg4 (S.tm rfl) (S.cell (CV hbj hxj) rfl)) rfl fun a S=>Em S rfl rfl rfl hb9 (Vu S Ig rfl rfl fun a S=>lv S (Ii hb9 (S.tm rfl) (S.tm rfl)) rfl fun a S=>Dl (⟨Keep.refl _ _,S.nf [true,true,true,true] rfl (subR rfl)⟩))))
          ·iterate 5 (refine Hk S rfl rfl rfl (Ka hb9) rfl ?_ rfl;clear S;intro a S)
           exact lv S (Ij (!((Ty x1 y1.Id).void_)) hb9 (S.tm rfl) rfl) rfl fun a S=>Dl (⟨Keep.refl _ _,S.nf [true,true,true,true] rfl (subR rfl)⟩)
         clear S;rintro a w23 ⟨hk18,S⟩
         refine Va S rfl rfl fun a S=>Ld ?_
         replace S:=S.d0.k10 1 6 7 8 9 11 13 14 15 76 rfl
         refine Tn ?_
         obtain ⟨j5,hj5,h⟩:=Fk h
         refine Fa (fun a w'=>∃ x9 : List Ep,∃ x10 : List Int,∃ v10 : Value,j5 x9 x10 = some r ∧ bs1.length = x9.length ∧ Sx w [] nov ([.map b1 (Gx Value.string PV (idm (x9.map fun x=>x.s_.Id) bs1)) (idm (x9.map fun x=>x.s_.Id) bs1).length,.own v10 3 1 x10.length (x10.flatMap eInt),.own v2 192 1 bs1.length (bs1.flatMap RP.enc)] ++ Ok 194 Ep.enc bs1 x9) [(1,iV Bd),(6,v2),(7,v10),(8,.map (some b1)),(13,Ab),(14,iV (Ad.length : Int)),(15,iV (i1 : Int))] 97 a w') ?_ ?_
         ·refine Fc h (S.tm rfl) (fun hb10 h=>?_) (fun hb10 h=>?_)
          ·refine Fg (Vm S rfl rfl ?_);clear S;intro a S
           obtain ⟨bo,ho',hbj,hxj⟩:=FY hl1 ho (by simp only [Bool.and_eq_true] at hb10;simp [hb10])
           have hpv : PV o2 = .pointer (some ⟨bo,0,none⟩):=by rw [ho'];rfl
           refine lv S (Jh ((S.tm rfl).trans hpv)) rfl fun a S=>Vf DI S rfl rfl fun a S=>Ft S (S.tm rfl) rfl (off:=9) (CV hbj hxj) sizeOf4 (vs:=[.bool true]) rfl rfl rfl rfl ?_;clear S;intro w25 hk19 S
           replace S:=S.arena_store (y:=(Ep.mk (Ty x1 y1.Id).s_ (Ty x1 y1.Id).sure_ true)) hbj rfl
           rw [PM (key:=fun x : Ep=>x.s_.Id) (y:=(Ep.mk (Ty x1 y1.Id).s_ (Ty x1 y1.Id).sure_ true)) hxj rfl] at S
           refine Ld ?_
           replace S:=(S.nl ([.map b1 (Gx Value.string PV (idm ((x1.set (CZ x1 y1.Id) (Ep.mk (Ty x1 y1.Id).s_ (Ty x1 y1.Id).sure_ true)).map fun x=>x.s_.Id) bs1)) (idm ((x1.set (CZ x1 y1.Id) (Ep.mk (Ty x1 y1.Id).s_ (Ty x1 y1.Id).sure_ true)).map fun x=>x.s_.Id) bs1).length,.own v1 3 1 x2.length (x2.flatMap eInt),.own v2 192 1 bs1.length (bs1.flatMap RP.enc)] ++ Ok 194 Ep.enc bs1 (x1.set (CZ x1 y1.Id) (Ep.mk (Ty x1 y1.Id).s_ (Ty x1 y1.Id).sure_ true))) [true,true,true] rfl).k7 1 6 7 8 13 14 15 rfl
           refine Tn ?_
           exact ⟨(x1.set (CZ x1 y1.Id) (Ep.mk (Ty x1 y1.Id).s_ (Ty x1 y1.Id).sure_ true)),x2,v1,h,(by rw [List.length_set];exact hl1),S.nf [true,true,true] rfl (subR rfl)⟩
          ·refine Fg (Vm S rfl rfl fun a S=>Vm S rfl rfl fun a S=>Fq S underlying22 sizeOf3 zeroValue3 rfl rfl (pv:=[(0,iV (i1 : Int))]) ⟨rfl,(S.tm rfl),trivial⟩ (cs:=[iV (i1 : Int)]) (by kernel_rfl) rfl ?_);clear S;intro a w26 b7 hz6 hk20 S
           obtain ⟨hc2,h⟩:=Jc h
           refine Np Qh Ju S (S.tm rfl) (i:=2) rfl (S.tm rfl) (j:=0) rfl (ys:=[(i1 : Int)]) rfl rfl rfl rfl (by have:=Nx hc2;omega) rfl ?_;clear S;intro v11 a w27 hk21 S
           refine Va S rfl rfl fun a S=>Ld ?_
           replace S:=(S.nl ([.map b1 (Gx Value.string PV (idm (x1.map fun x=>x.s_.Id) bs1)) (idm (x1.map fun x=>x.s_.Id) bs1).length,.own v11 3 1 (x2 ++ [(i1 : Int)]).length ((x2 ++ [(i1 : Int)]).flatMap eInt),.own v2 192 1 bs1.length (bs1.flatMap RP.enc)] ++ Ok 194 Ep.enc bs1 x1) [false,true,true,true] rfl).k7 1 6 7 8 13 14 15 rfl
           exact Tn (⟨x1,(x2 ++ [(i1 : Int)]),v11,h,hl1,S.nf [true,true,true] rfl (subR rfl)⟩)
         clear S h;rintro a w24 ⟨x9,x10,v10,h,hl5,S⟩;rw [hj5] at h;clear hj5 j5
         exact Tn (⟨x9,x10,v10,h,hl5,S.nf [true,true,true] rfl (subR rfl)⟩)
       clear S h;rintro a w20 ⟨x7,x8,v9,h,hl4,S⟩;rw [hj4] at h;clear hj4 j4
       exact Tn (⟨x7,x8,bs1,v9,v2,h,hl4,S.nf [true,true,true] rfl (subR rfl)⟩)
     clear S h;rintro a w8 ⟨x5,x6,bs3,v5,v6,h,hl3,S⟩;rw [hj3] at h;clear hj3 j3
     exact Im (Tn (⟨x5,x6,bs3,v5,v6,h,hl3,S.nf [true,true,true] rfl (subR rfl)⟩))
    clear S h;rintro a w6 ⟨x3,x4,bs2,v3,v4,h,hl2,S⟩;rw [hj2] at h;clear hj2 j2
    refine Im (Tn (Fg (Vq S Gw rfl rfl rfl fun a S=>Vm S rfl rfl fun a S=>Ld ?_)))
    replace S:=S.k7 1 6 7 8 13 14 15 rfl
    exact Tn (⟨ys1,⟨i1 + 1,x3,x4,bs2,v3,v4,⟨_,(hd1).trans (List.append_cons _ _ _),by simp [hi1]⟩,h,hl2,S.nf [true,true,true] rfl ⟨rfl,rfl,rfl,rfl,rfl,rfl,(congrArg (fun z=>some (Value.int .i64 z)) (Iw hd1 hi1 (Kh Ae))),trivial⟩⟩,Nat.lt_succ_self _⟩)
 clear S h;rintro a w3 ⟨x1,x2,bs1,v1,v2,h,hl1,S⟩;rw [hj1] at h;clear hj1 j1
 refine Tn (Fr (Vm S rfl rfl fun a S=>Vm S rfl rfl fun a S=>Va S rfl rfl fun a S=>Va S rfl rfl fun a S=>Ld ?_))
 replace S:=S.k2 4 5 rfl
 refine Tn (wp_ret ?_)
 obtain rfl:=Option.some.inj h
 obtain ⟨φA,lA,hA,S⟩:=S.seeArena rfl hl1
 exact Nz S results63 rfl rfl ⟨_,_,rfl,⟨_,Hn RP.enc_ok (Uf S (i:=2) rfl rfl),AW S.le_newer hA⟩,(Uf S (i:=1) rfl rfl)⟩
theorem LN (w : World) (ψ : View) (hψ : View.le ψ (view w [])) (By : Value) (Ai : List Mw) (Cc : List R45) (Cv : Slc ψ 5 By (Cc.map R45.enc)) (Cw : Lp (Vo ψ) Ai Cc) (Ab : Value) (Ad : List Ex) (Ae : Slc ψ 8 Ab (Ad.map Ex.enc)) (Bo : ByteArray) (Bd : Int) (r : Mw × (List Ep) × Int) (h : BR Ai Ad Bo Bd = some r) :
    Calls prog 24 [By,Ab,sV Bo,iV Bd].toArray w (Ret w [] fun τ v _=>∃ u1 : Value,∃ u2 : Value,v = .tuple #[u1,u2,iV r.2.2] ∧ (∃ q : R45,u1 = .agg (R45.enc q).toArray ∧ Vo (join ψ τ) r.1 q) ∧ VC τ 1 RP.enc AF u2 r.2.1):=by
 refine Fe func24 rfl ntmps24 rfl fun a S=>?_
 unfold BR at h
 replace S:=S.k4 0 1 2 3 rfl
 refine Fr (Iz S zeroValue45 (cs:=[sV An,sV An,.slice none 0 0,iV 0,iV 0]) rfl rfl ?_);clear S;intro a w1 b1 hz1 hk1 S
 refine Vk S rfl rfl fun a S=>Vk S rfl rfl fun a S=>Dl (Fs (Fr (Vm S rfl rfl fun a S=>Vm S rfl rfl ?_)));clear S;intro a S
 obtain ⟨r1,hr1,h⟩:=Ga h
 refine Er S (fun _=>Ei (vs:=[By,Ab]) ⟨(S.tm rfl),(S.tm rfl),trivial⟩ call60) (EU _ By Ai Cc (Cv.mono (View.le_trans hψ (S.le_arg Ez))) (EE (View.le_trans hψ (S.le_arg Ez)) Cw) Ab Ad (Ae.mono (View.le_trans hψ (S.le_arg Ez))) _ hr1) rfl ?_;clear S;intro v1 a w2 hv1 hk2 hn1 S
 subst hv1
 refine Va S rfl rfl fun a S=>Dz (Vm S rfl rfl fun a S=>Vq S Nt rfl rfl rfl fun a S=>Dl (Fc h (S.tm rfl) (fun hb1 h=>?_) (fun hb1 h=>?_)))
 ·refine Fr (lv S (Nc TL (pv:=[]) trivial (cs:=[sV An,sV An,.slice none 0 0,iV 0,iV 0]) (by kernel_rfl)) rfl fun a S=>Vm S rfl rfl fun a S=>Ft S (S.tm rfl) (S.tm rfl) (i:=0) (off:=0) rfl sizeOf45 (vs:=[sV An,sV An,.slice none 0 0,iV 0,iV 0]) rfl rfl rfl rfl ?_);clear S;intro w3 hk3 S
  refine Vk S rfl rfl fun a S=>Va S rfl rfl fun a S=>Ld ?_
  replace S:=(S.nl [.blk b1 [sV An,sV An,.slice none 0 0,iV 0,iV 0] 45] [true] rfl).k3 8 9 10 rfl
  refine Tn (wp_ret (Ek ?_))
  obtain rfl:=Option.some.inj h
  exact Wh S (rs:=[.cell 8 45,.tmp 9,.tmp 10]) (vs:=[.agg (R45.enc (R45.mk An An ⟨.slice none 0 0,rfl⟩ 0 0)).toArray,.slice none 0 0,iV r1]) results24 ⟨(Qy (off:=0) S rfl isAgg45 sizeOf45 rfl (S.cellsAt (i:=0) rfl)),(Tu S rfl),(Tu S rfl),trivial⟩ rfl ⟨_,_,rfl,⟨(R45.mk An An ⟨.slice none 0 0,rfl⟩ 0 0),rfl,Xe (Wy hψ S.le_newer) _ _ ⟨⟨.slice none 0 0,rfl⟩,rfl,(Xj _ _)⟩⟩,⟨[],Xj _ _,.nil⟩⟩
 ·refine wp_skip (Tn (Fr (Vm S rfl rfl fun a S=>Vm S rfl rfl fun a S=>Er S (fun _=>Ei (vs:=[By,sV Bo]) ⟨(S.tm rfl),(S.tm rfl),trivial⟩ call61) (HN _ By Ai Cc (Cv.mono (View.le_trans hψ (S.le_arg Ez))) (EE (View.le_trans hψ (S.le_arg Ez)) Cw) Bo _ rfl) rfl ?_)));clear S;intro v2 a w4 hv2 hk4 hn2 S
  subst hv2
  refine Va S rfl rfl fun a S=>Ld ?_
  replace S:=(S.nl [.blk b1 [sV An,sV An,.slice none 0 0,iV 0,iV 0] 45] [true] rfl).k5 0 1 3 8 12 rfl
  refine Tn (Fs (Fr (Vm S rfl rfl fun a S=>Vq S Fp rfl rfl rfl fun a S=>Dl (Fc h (S.tm rfl) (fun hb2 h=>?_) (fun hb2 h=>?_)))))
  ·refine Fr (lv S (Nc TL (pv:=[]) trivial (cs:=[sV An,sV An,.slice none 0 0,iV 0,iV 0]) (by kernel_rfl)) rfl fun a S=>Ft S (S.tm rfl) (S.tm rfl) (i:=0) (off:=0) rfl sizeOf45 (vs:=[sV An,sV An,.slice none 0 0,iV 0,iV 0]) rfl rfl rfl rfl ?_);clear S;intro w5 hk5 S
   refine Vk S rfl rfl fun a S=>Vk S rfl rfl fun a S=>Dl (wp_ret (Ek ?_))
   obtain rfl:=Option.some.inj h
   exact Wh S (rs:=[.cell 8 45,.tmp 9,.tmp 10]) (vs:=[.agg (R45.enc (R45.mk An An ⟨.slice none 0 0,rfl⟩ 0 0)).toArray,.slice none 0 0,iV 8]) results24 ⟨(Qy (off:=0) S rfl isAgg45 sizeOf45 rfl (S.cellsAt (i:=0) rfl)),(Tu S rfl),(Tu S rfl),trivial⟩ rfl ⟨_,_,rfl,⟨(R45.mk An An ⟨.slice none 0 0,rfl⟩ 0 0),rfl,Xe (Wy hψ S.le_newer) _ _ ⟨⟨.slice none 0 0,rfl⟩,rfl,(Xj _ _)⟩⟩,⟨[],Xj _ _,.nil⟩⟩
  ·refine wp_skip (Tn (Fs (Fr (Vm S rfl rfl fun a S=>Er S (fun _=>Ei (vs:=[iV Bd]) ⟨(S.tm rfl),trivial⟩ call62) (Sq _ Bd _ rfl) rfl ?_))));clear S;intro v3 a w6 hv3 hk6 hn3 S
   subst hv3
   refine Vu S Ig rfl rfl fun a S=>Dl (Fc h (S.tm rfl) (fun hb3 h=>?_) (fun hb3 h=>?_))
   ·refine Fr (lv S (Nc TL (pv:=[]) trivial (cs:=[sV An,sV An,.slice none 0 0,iV 0,iV 0]) (by kernel_rfl)) rfl fun a S=>Ft S (S.tm rfl) (S.tm rfl) (i:=0) (off:=0) rfl sizeOf45 (vs:=[sV An,sV An,.slice none 0 0,iV 0,iV 0]) rfl rfl rfl rfl ?_);clear S;intro w7 hk7 S
    refine Vk S rfl rfl fun a S=>Vk S rfl rfl fun a S=>Dl (wp_ret (Ek ?_))
    obtain rfl:=Option.some.inj h
    exact Wh S (rs:=[.cell 8 45,.tmp 9,.tmp 10]) (vs:=[.agg (R45.enc (R45.mk An An ⟨.slice none 0 0,rfl⟩ 0 0)).toArray,.slice none 0 0,iV 1]) results24 ⟨(Qy (off:=0) S rfl isAgg45 sizeOf45 rfl (S.cellsAt (i:=0) rfl)),(Tu S rfl),(Tu S rfl),trivial⟩ rfl ⟨_,_,rfl,⟨(R45.mk An An ⟨.slice none 0 0,rfl⟩ 0 0),rfl,Xe (Wy hψ S.le_newer) _ _ ⟨⟨.slice none 0 0,rfl⟩,rfl,(Xj _ _)⟩⟩,⟨[],Xj _ _,.nil⟩⟩
   ·refine wp_skip (Tn (Fr (Vm S rfl rfl fun a S=>Vm S rfl rfl ?_)));clear S;intro a S
    obtain ⟨r2,hr2,h⟩:=Ga h
    have hz2:=S.keep.size
    refine Er S (fun _=>Ei (vs:=[Ab,iV Bd]) ⟨(S.tm rfl),(S.tm rfl),trivial⟩ call63) (HO _ Ab Ad (Ae.mono (View.le_trans hψ (S.le_arg Ez))) Bd _ hr2) rfl ?_;clear S;intro v4 a w8 hv4 hk8 hn4 S
    obtain ⟨u1,u2,rfl,ho1,ho2⟩:=hv4
    obtain ⟨rs1,ho3,hr3⟩:=ho1
    obtain ⟨φ1,hl1,hm1,S⟩:=S.see' hn4 hz2
    have hs1:=ho3.mono hm1
    have hr4:=AW hm1 hr3
    have hs2:=ho2.mono hm1
    refine Vm S rfl rfl fun a S=>Vq S Ia rfl rfl rfl fun a S=>Vq S Ia rfl rfl rfl fun a S=>Va S rfl rfl fun a S=>Va S rfl rfl fun a S=>Ld ?_
    replace S:=S.k4 0 8 12 13 rfl
    refine Tn (Fr (Vm S rfl rfl fun a S=>Vm S rfl rfl ?_));clear S;intro a S
    obtain ⟨hc1,h⟩:=Jc h
    obtain ⟨r3,hg1,hl2⟩:=JS Cw hc1
    obtain ⟨u3,rfl,hs3⟩:=hl2
    obtain ⟨b2,o1,hm2,hr5⟩:=Fv (a:=a) (x:=.tmp 38) (y:=.tmp 39) (ty:=0) JY Cv hg1 (Es hc1).2 (S.tm rfl) (S.tm rfl)
    refine lv S (hr5 _) rfl ?_;clear S;intro a S
    clear hr5
    refine lv S (Gh isAgg45 sizeOf45 (off:=o1) (o:=0) (part:=[sV ((nth Ai (Jl Ai Bo)).Key),sV ((nth Ai (Jl Ai Bo)).Race),u3.val,iV ((nth Ai (Jl Ai Bo)).Young),iV ((nth Ai (Jl Ai Bo)).Old)]) rfl rfl (S.tm rfl) (hm2.at (NR hψ S.emb0))) rfl fun a S=>Vm S rfl rfl fun a S=>Ft S (S.tm rfl) (S.tm rfl) (i:=0) (off:=0) rfl sizeOf45 (vs:=[sV ((nth Ai (Jl Ai Bo)).Key),sV ((nth Ai (Jl Ai Bo)).Race),u3.val,iV ((nth Ai (Jl Ai Bo)).Young),iV ((nth Ai (Jl Ai Bo)).Old)]) rfl rfl rfl (Rf rfl (Rf rfl (Rf (Lo.one (Gk hs3)) (Rf rfl (Rf rfl rfl))))) ?_;clear S;intro w9 hk9 S
    refine Va S rfl rfl fun a S=>Vk S rfl rfl fun a S=>Dl (wp_ret ?_)
    obtain rfl:=Option.some.inj h
    exact Wh S (rs:=[.cell 8 45,.tmp 9,.tmp 10]) (vs:=[.agg (R45.enc (R45.mk ((nth Ai (Jl Ai Bo)).Key) ((nth Ai (Jl Ai Bo)).Race) u3 ((nth Ai (Jl Ai Bo)).Young) ((nth Ai (Jl Ai Bo)).Old))).toArray,u1,iV 0]) results24 ⟨(Qy (off:=0) S rfl isAgg45 sizeOf45 rfl (S.cellsAt (i:=0) rfl)),(Tu S rfl),(Tu S rfl),trivial⟩ rfl ⟨_,_,rfl,⟨(R45.mk ((nth Ai (Jl Ai Bo)).Key) ((nth Ai (Jl Ai Bo)).Race) u3 ((nth Ai (Jl Ai Bo)).Young) ((nth Ai (Jl Ai Bo)).Old)),rfl,Xe (Wy hψ S.le_newer) _ _ ⟨u3,rfl,(hs3.mono (le_join_left _ _))⟩⟩,⟨_,((hs1).mono S.le_newer),AW S.le_newer hr4⟩⟩
theorem CB (w : World) (Au : Value) (Aw : List ByteArray) (Be : Slc (view w []) 1 Au (Aw.map NM)) (Cg : ByteArray) (r : Int) (h : Wk Aw Cg = r) :
    Calls prog 154 [Au,sV Cg].toArray w (Ret w [] fun _ v _=>v = iV r):=by
 refine Fe func154 rfl ntmps154 rfl fun a S=>?_
 unfold Wk at h
 replace S:=S.k2 0 1 rfl
 refine Fr (Vk S rfl rfl fun a S=>Dl (Fs (Fr (Vm S rfl rfl fun a S=>lv S (Gn DA (S.tm rfl) (Gk Be)) rfl fun a S=>lv S (Rm rfl) rfl ?_))));clear S;intro a S
 refine Dl ?_
 replace S:=S.k4 0 1 7 8 rfl
 obtain ⟨j1,hj1,h⟩:=Fk h
 refine Fa (fun a w'=>j1 = r ∧ Sx w [] nov [] [] 19 a w') ?_ ?_
 ·refine wp_block (Hs (fun (ys1 : List ByteArray) a w'=>∃ i1 : Nat,(∃ dn,Aw = dn ++ ys1 ∧ dn.length = i1) ∧ Lz Cg j1 ys1 i1 = r ∧ Sx w [] nov [] [(0,Au),(1,sV Cg),(7,iV (Aw.length : Int)),(8,iV (i1 : Int))] 19 a w') List.length Aw ⟨0,⟨[],rfl,rfl⟩,h,S.nf [] rfl (subR rfl)⟩ ?_)
  clear S h;rintro ys1 a w1 ⟨i1,⟨dn,hd1,hi1⟩,h,S⟩
  cases ys1 with
  | nil =>
   rw [Lz.eq_1] at h
   refine Fr (Vb S Fp rfl rfl rfl fun a S=>Ld ?_)
   replace S:=S.k5 0 1 7 8 9 rfl
   exact Tn (Fs (wp_cond_false ((S.tm rfl).trans (congrArg Value.bool (Jq hd1 hi1))) (wp_exit (Ew (Ew (Hl (Tn (⟨h,S.nf [] rfl trivial⟩))))))))
  | cons y1 ys1 =>
   rw [Lz.eq_2] at h
   refine Fr (Vb S Fp rfl rfl rfl fun a S=>Ld ?_)
   replace S:=S.k5 0 1 7 8 9 rfl
   refine Tn (Fs (wp_cond_true ((S.tm rfl).trans (congrArg Value.bool (Iv hd1 hi1))) (wp_skip (Tn (Fs (wp_block (Fr (Vm S rfl rfl fun a S=>Va S rfl rfl ?_))))))));clear S;intro a S
   refine Dl (Fs (Fg ?_))
   iterate 3 (refine Vm S rfl rfl ?_;clear S;intro a S)
   obtain ⟨b1,o1,hm1,hr1⟩:=Fv (a:=a) (x:=.tmp 12) (y:=.tmp 13) (ty:=0) DA Be (Js hd1 hi1) rfl (S.tm rfl) (S.tm rfl)
   refine lv S (hr1 _) rfl ?_;clear S;intro a S
   clear hr1
   refine lv S (Hw isAgg9 (off:=o1) (o:=0) (S.tm rfl) (hm1.at S.emb0) rfl) rfl fun a S=>Vb S Wv rfl rfl rfl fun a S=>Dl (Fc h (S.tm rfl) (fun hb1 h=>?_) (fun hb1 h=>?_))
   ·refine Fr (Vm S rfl rfl fun a S=>Va S rfl rfl fun a S=>Ld ?_)
    replace S:=S.k1 4 rfl
    refine Tn (wp_ret (Gg (Ek (Ek (Gg (Ek (Ek ?_)))))))
    subst h
    exact Fd S results154 rfl rfl
   ·exact wp_skip (Im (Tn (Fg (Vq S Gw rfl rfl rfl fun a S=>Vm S rfl rfl fun a S=>Dl (⟨ys1,⟨i1 + 1,⟨_,(hd1).trans (List.append_cons _ _ _),by simp [hi1]⟩,h,S.nf [] rfl ⟨rfl,rfl,rfl,(congrArg (fun z=>some (Value.int .i64 z)) (Iw hd1 hi1 (Kh Be))),trivial⟩⟩,Nat.lt_succ_self _⟩)))))
 clear S h;rintro a w2 ⟨h,S⟩;rw [hj1] at h;clear hj1 j1
 refine Tn (Fr (Vk S rfl rfl fun a S=>Dl (wp_ret ?_)))
 subst h
 exact Fd S results154 rfl rfl
theorem Zx (w : World) (Au : Value) (Aw : List ByteArray) (Be : Slc (view w []) 1 Au (Aw.map NM)) (Cg : ByteArray) (r : Bool) (h : Kv Aw Cg = r) :
    Calls prog 134 [Au,sV Cg].toArray w (Ret w [] fun _ v _=>v = bV r):=by
 refine Fe func134 rfl ntmps134 rfl fun a S=>?_
 unfold Kv at h
 replace S:=S.k2 0 1 rfl
 refine Fr (Vk S rfl rfl fun a S=>Dz (Vm S rfl rfl fun a S=>Vm S rfl rfl fun a S=>Er S (fun _=>Ei (vs:=[Au,sV Cg]) ⟨(S.tm rfl),(S.tm rfl),trivial⟩ call154) (CB _ Au Aw (Be.mono (S.le_arg Ez)) Cg _ rfl) rfl ?_));clear S;intro v1 a w1 hv1 hk1 hn1 S
 subst hv1
 refine Vq S Re rfl rfl rfl fun a S=>Va S rfl rfl fun a S=>Dl (wp_ret ?_)
 subst h
 exact Fd S results134 rfl rfl
theorem IY (w : World) (Ai : Mw) (Cx : R45) (Dc : Vo (view w []) Ai Cx) (Aw : Ex) (r : Bool) (h : Wa Ai Aw = r) :
    Calls prog 102 [.agg (R45.enc Cx).toArray,.agg (Ex.enc Aw).toArray].toArray w (Ret w [] fun _ v _=>v = bV r):=by
 obtain ⟨u1,rfl,hs1⟩:=Dc
 refine Fe func102 rfl ntmps102 rfl fun a S=>?_
 unfold Wa at h
 replace S:=S.k2 0 1 rfl
 refine Fr (Mk S (S.tm rfl) (cs:=[sV Ai.Key,sV Ai.Race,u1.val,iV Ai.Young,iV Ai.Old]) rfl rfl ?_);clear S;intro a w1 b1 hz1 hk1 S
 refine Mk S (S.tm rfl) (cs:=(Ex.enc Aw)) rfl rfl ?_;clear S;intro a w2 b2 hz2 hk2 S
 refine Vk S rfl rfl fun a S=>Dz (Vf TF S rfl rfl fun a S=>Vl isAgg9 0 S rfl rfl rfl rfl fun a S=>Vf TA S rfl rfl fun a S=>Vl isAgg9 1 S rfl rfl rfl rfl fun a S=>Vb S Wv rfl rfl rfl fun a S=>Vm S rfl rfl ?_);clear S;intro a S
 refine Io 12 (fun a w'=>Keep [] w2 w' ∧ Sx w [] nov [.blk b2 (Ex.enc Aw) 53,.blk b1 [sV Ai.Key,sV Ai.Race,u1.val,iV Ai.Young,iV Ai.Old] 45] [(2,.pointer (some ⟨b1,0,none⟩)),(3,.pointer (some ⟨b2,0,none⟩)),(22,bV ((decide (Aw.Race = Ai.Race)) && ((decide ((Ai.Clubs.length : Int) = 0)) || (Kv Ai.Clubs Aw.Club))))] 32 a w') ?_ ?_
 ·rcases Bool.eq_false_or_eq_true (decide (Aw.Race = Ai.Race)) with hb1 | hb1
  ·refine Em S rfl rfl rfl hb1 (Vf GF S rfl rfl fun a S=>Em S rfl rfl rfl hb1 (Vl isAgg43 1 S rfl rfl rfl rfl fun a S=>Em S rfl rfl rfl hb1 (lv S (Gn DA (S.tm rfl) (Gk hs1)) rfl fun a S=>Em S rfl rfl rfl hb1 (Vq S Jn rfl rfl rfl fun a S=>Em S rfl rfl rfl hb1 (Vm S rfl rfl fun a S=>Io 6 (fun a w'=>Keep [] w2 w' ∧ Sx w [] nov [.blk b2 (Ex.enc Aw) 53,.blk b1 [sV Ai.Key,sV Ai.Race,u1.val,iV Ai.Young,iV Ai.Old] 45] [(2,.pointer (some ⟨b1,0,none⟩)),(3,.pointer (some ⟨b2,0,none⟩)),(10,bV (decide (Aw.Race = Ai.Race))),(21,bV ((decide ((Ai.Clubs.length : Int) = 0)) || (Kv Ai.Clubs Aw.Club)))] 32 a w') ?_ ?_)))))
   ·rcases Bool.eq_false_or_eq_true (decide ((Ai.Clubs.length : Int) = 0)) with hb2 | hb2
    ·iterate 5 (refine Hk S rfl rfl rfl (Ng hb2) rfl ?_ rfl;clear S;intro a S)
     exact Em S rfl rfl rfl hb1 (lv S (Lk (Kv Ai.Clubs Aw.Club) hb2 (S.tm rfl) rfl) rfl fun a S=>Dl (⟨Keep.refl _ _,S.nf [true,true] rfl (subR rfl)⟩))
    ·refine Em S rfl rfl rfl hb2 (Vf GF S rfl rfl fun a S=>Em S rfl rfl rfl hb2 (Vl isAgg43 1 S rfl rfl rfl rfl fun a S=>Em S rfl rfl rfl hb2 (Vf OE S rfl rfl fun a S=>Em S rfl rfl rfl hb2 (Vl isAgg9 0 S rfl rfl rfl rfl fun a S=>Em S rfl rfl rfl hb2 (Er S (fun _=>Ei (vs:=[u1.val,sV Aw.Club]) ⟨(S.tm rfl),(S.tm rfl),trivial⟩ call134) (Zx _ u1.val Ai.Clubs (hs1.mono (S.le_arg Ez)) Aw.Club _ rfl) rfl ?_)))));clear S;intro v1 a w5 hv1 hk3 hn1 S
     subst hv1
     exact Em S rfl rfl rfl hb1 (lv S (Ll hb2 (S.tm rfl) (S.tm rfl)) rfl fun a S=>Dl (⟨hk3,S.nf [true,true] rfl (subR rfl)⟩))
   clear S;rintro a w4 ⟨hk4,S⟩
   exact lv S (Ii hb1 (S.tm rfl) (S.tm rfl)) rfl fun a S=>Dl (⟨hk4,S.nf [true,true] rfl (subR rfl)⟩)
  ·iterate 5 (refine Hk S rfl rfl rfl (Ka hb1) rfl ?_ rfl;clear S;intro a S)
   iterate 5 (refine BM S rfl rfl rfl rfl ?_;clear S;intro a S)
   exact Hk S rfl rfl rfl (Ka hb1) rfl (fun a S=>lv S (Ij ((decide ((Ai.Clubs.length : Int) = 0)) || (Kv Ai.Clubs Aw.Club)) hb1 (S.tm rfl) rfl) rfl fun a S=>Dl (⟨Keep.refl _ _,S.nf [true,true] rfl (subR rfl)⟩)) rfl
 clear S;rintro a w3 ⟨hk5,S⟩
 refine Vm S rfl rfl fun a S=>Io 8 (fun a w'=>Keep [] w3 w' ∧ Sx w [] nov [.blk b2 (Ex.enc Aw) 53,.blk b1 [sV Ai.Key,sV Ai.Race,u1.val,iV Ai.Young,iV Ai.Old] 45] [(31,bV (((decide (Aw.Race = Ai.Race)) && ((decide ((Ai.Clubs.length : Int) = 0)) || (Kv Ai.Clubs Aw.Club))) && (El Aw.Age Ai.Young Ai.Old)))] 32 a w') ?_ ?_
 ·rcases Bool.eq_false_or_eq_true ((decide (Aw.Race = Ai.Race)) && ((decide ((Ai.Clubs.length : Int) = 0)) || (Kv Ai.Clubs Aw.Club))) with hb3 | hb3
  ·refine Em S rfl rfl rfl hb3 (Vf TG S rfl rfl fun a S=>Em S rfl rfl rfl hb3 (Vl isAgg3 0 S rfl rfl rfl rfl fun a S=>Em S rfl rfl rfl hb3 (Vf OB S rfl rfl fun a S=>Em S rfl rfl rfl hb3 (Vl isAgg3 1 S rfl rfl rfl rfl fun a S=>Em S rfl rfl rfl hb3 (Vf OC S rfl rfl fun a S=>Em S rfl rfl rfl hb3 ?_)))))
   refine Vl isAgg3 1 S rfl rfl rfl rfl fun a S=>Em S rfl rfl rfl hb3 (Er S (fun _=>Ei (vs:=[iV Aw.Age,iV Ai.Young,iV Ai.Old]) ⟨(S.tm rfl),(S.tm rfl),(S.tm rfl),trivial⟩ call65) (Gl _ Aw.Age Ai.Young Ai.Old _ rfl) rfl ?_);clear S;intro v2 a w7 hv2 hk6 hn2 S
   subst hv2
   exact lv S (Ii hb3 (S.tm rfl) (S.tm rfl)) rfl fun a S=>Dl (⟨hk6,S.nf [true,true] rfl ⟨rfl,trivial⟩⟩)
  ·iterate 7 (refine Hk S rfl rfl rfl (Ka hb3) rfl ?_ rfl;clear S;intro a S)
   exact lv S (Ij (El Aw.Age Ai.Young Ai.Old) hb3 (S.tm rfl) rfl) rfl fun a S=>Dl (⟨Keep.refl _ _,S.nf [true,true] rfl ⟨rfl,trivial⟩⟩)
 clear S;rintro a w6 ⟨hk7,S⟩
 refine Va S rfl rfl fun a S=>Dl (wp_ret ?_)
 subst h
 exact Fd S results102 rfl rfl
theorem KI (w : World) (Ai : Mw) (Cx : R45) (Dc : Vo (view w []) Ai Cx) (Ec : Nat) (Bq : Ex) (Cr : Bool) (Du : Bool) (Dd : (view w []) Ec = some (.cells [iV Bq.At,iV Bq.Kind,sV Bq.Id,sV Bq.Who,sV Bq.Club,sV Bq.Race,iV Bq.Age,iV Bq.Time,bV Cr,bV Du].toArray 194 (0,0))) (r : Hp) (h : Pg Ai Bq Cr Du = r) :
    Calls prog 103 [.agg (R45.enc Cx).toArray,.pointer (some ⟨Ec,0,none⟩)].toArray w (Ret w [] fun _ v _=>v = .agg (Hp.enc r).toArray):=by
 obtain ⟨u1,rfl,hs1⟩:=Dc
 refine Fe func103 rfl ntmps103 rfl fun a S=>?_
 unfold Pg at h
 replace S:=S.k2 0 1 rfl
 refine Fr (Mk S (S.tm rfl) (cs:=[sV Ai.Key,sV Ai.Race,u1.val,iV Ai.Young,iV Ai.Old]) rfl rfl ?_);clear S;intro a w1 b1 hz1 hk1 S
 refine Iz S zeroValue61 (cs:=[sV An,sV An,sV An,iV 0,iV 0,bV false]) rfl rfl ?_;clear S;intro a w2 b2 hz2 hk2 S
 refine Dl (Fs (Hd [] ([b2]) Tryz.mixed S rfl (by kernel_rfl) ?_));clear S;intro w4 hk4 hsel S
 refine Eo 0 S hsel rfl rfl rfl (by kernel_rfl) (by kernel_rfl) rfl (fun _ hw=>(Gb GE (S.tm rfl))) fun a S=>Eo 1 S hsel rfl rfl rfl (by kernel_rfl) (by kernel_rfl) rfl (fun _ hw=>(Hw isAgg9 (off:=0) (o:=0) (S.tm rfl) ((S.blk_mem (i:=1) (cells:=[sV Ai.Key,sV Ai.Race,u1.val,iV Ai.Young,iV Ai.Old]) (b:=b1) (T:=45) rfl (Nf (i:=0) (j:=1) (e:=.blk b2 (Hp.enc (Hp.mk An An An 0 0 false)) 61) (e':=.blk b1 [sV Ai.Key,sV Ai.Race,u1.val,iV Ai.Young,iV Ai.Old] 45) S rfl rfl rfl)).kept hw) rfl)) fun a S=>Eo 2 S hsel rfl rfl rfl (by kernel_rfl) (by kernel_rfl) rfl (fun _ hw=>(Rm (S.tm rfl))) fun a S=>Eo 3 S hsel rfl rfl rfl (by kernel_rfl) (by kernel_rfl) rfl (fun _ hw=>(Jh (S.tm rfl))) fun a S=>Eo 4 S hsel rfl rfl rfl (by kernel_rfl) (by kernel_rfl) rfl (fun _ hw=>(Gb AY (S.tm rfl))) fun a S=>Eo 5 S hsel rfl rfl rfl (by kernel_rfl) (by kernel_rfl) rfl (fun _ hw=>(Gb Zf (S.tm rfl))) fun a S=>Eo 6 S hsel rfl rfl rfl (by kernel_rfl) (by kernel_rfl) rfl (fun _ hw=>(Hw isAgg9 (off:=0) (o:=2) (S.tm rfl) (((Pl Dd).mono (S.le_arg (Jr (i:=0) (e:=.blk b2 (Hp.enc (Hp.mk An An An 0 0 false)) 61) rfl))).kept hw) rfl)) fun a S=>Eo 7 S hsel rfl rfl rfl (by kernel_rfl) (by kernel_rfl) rfl (fun _ hw=>(Rm (S.tm rfl))) fun a S=>Eo 8 S hsel rfl rfl rfl (by kernel_rfl) (by kernel_rfl) rfl (fun _ hw=>(Jh (S.tm rfl))) fun a S=>Eo 9 S hsel rfl rfl rfl (by kernel_rfl) (by kernel_rfl) rfl (fun _ hw=>(Gb AY (S.tm rfl))) fun a S=>Eo 10 S hsel rfl rfl rfl (by kernel_rfl) (by kernel_rfl) rfl (fun _ hw=>(Gb TD (S.tm rfl))) ?_;clear S;intro a S
 refine Eo 11 S hsel rfl rfl rfl (by kernel_rfl) (by kernel_rfl) rfl (fun _ hw=>(Hw isAgg9 (off:=0) (o:=3) (S.tm rfl) (((Pl Dd).mono (S.le_arg (Jr (i:=0) (e:=.blk b2 (Hp.enc (Hp.mk An An An 0 0 false)) 61) rfl))).kept hw) rfl)) fun a S=>Eo 12 S hsel rfl rfl rfl (by kernel_rfl) (by kernel_rfl) rfl (fun _ hw=>(Rm (S.tm rfl))) fun a S=>Eo 13 S hsel rfl rfl rfl (by kernel_rfl) (by kernel_rfl) rfl (fun _ hw=>(Jh (S.tm rfl))) fun a S=>Eo 14 S hsel rfl rfl rfl (by kernel_rfl) (by kernel_rfl) rfl (fun _ hw=>(Gb AY (S.tm rfl))) fun a S=>Eo 15 S hsel rfl rfl rfl (by kernel_rfl) (by kernel_rfl) rfl (fun _ hw=>(Gb OF (S.tm rfl))) fun a S=>Eo 16 S hsel rfl rfl rfl (by kernel_rfl) (by kernel_rfl) rfl (fun _ hw=>(Hw isAgg3 (off:=0) (o:=7) (S.tm rfl) (((Pl Dd).mono (S.le_arg (Jr (i:=0) (e:=.blk b2 (Hp.enc (Hp.mk An An An 0 0 false)) 61) rfl))).kept hw) rfl)) fun a S=>Eo 17 S hsel rfl rfl rfl (by kernel_rfl) (by kernel_rfl) rfl (fun _ hw=>(Rm (S.tm rfl))) fun a S=>Eo 18 S hsel rfl rfl rfl (by kernel_rfl) (by kernel_rfl) rfl (fun _ hw=>(Jh (S.tm rfl))) fun a S=>Eo 19 S hsel rfl rfl rfl (by kernel_rfl) (by kernel_rfl) rfl (fun _ hw=>(Gb AY (S.tm rfl))) fun a S=>Eo 20 S hsel rfl rfl rfl (by kernel_rfl) (by kernel_rfl) rfl (fun _ hw=>(Gb EF (S.tm rfl))) fun a S=>Eo 21 S hsel rfl rfl rfl (by kernel_rfl) (by kernel_rfl) rfl (fun _ hw=>(Hw isAgg3 (off:=0) (o:=0) (S.tm rfl) (((Pl Dd).mono (S.le_arg (Jr (i:=0) (e:=.blk b2 (Hp.enc (Hp.mk An An An 0 0 false)) 61) rfl))).kept hw) rfl)) ?_;clear S;intro a S
 refine Eo 22 S hsel rfl rfl rfl (by kernel_rfl) (by kernel_rfl) rfl (fun _ hw=>(Rm (S.tm rfl))) fun a S=>Eo 23 S hsel rfl rfl rfl (by kernel_rfl) (by kernel_rfl) rfl (fun _ hw=>(Jh (S.tm rfl))) fun a S=>Eo 24 S hsel rfl rfl rfl (by kernel_rfl) (by kernel_rfl) rfl (fun _ hw=>(Gb KB (S.tm rfl))) fun a S=>Eo 25 S hsel rfl rfl rfl (by kernel_rfl) (by kernel_rfl) rfl (fun _ hw=>(Hw isAgg4 (off:=0) (o:=8) (S.tm rfl) (((Pl Dd).mono (S.le_arg (Jr (i:=0) (e:=.blk b2 (Hp.enc (Hp.mk An An An 0 0 false)) 61) rfl))).kept hw) rfl)) fun a S=>Eo 26 S hsel rfl rfl rfl (by kernel_rfl) (by kernel_rfl) rfl (fun _ hw=>(Nc bt_61 (pv:=[(0,sV Ai.Key),(1,sV Bq.Id),(2,sV Bq.Who),(3,iV Bq.Time),(4,iV Bq.At),(5,bV Cr)]) ⟨rfl,(S.tm rfl),rfl,(S.tm rfl),rfl,(S.tm rfl),rfl,(S.tm rfl),rfl,(S.tm rfl),rfl,(S.tm rfl),trivial⟩ (cs:=[sV Ai.Key,sV Bq.Id,sV Bq.Who,iV Bq.Time,iV Bq.At,bV Cr]) (by kernel_rfl))) fun a S=>Hi 27 (by kernel_rfl) rfl (Ft S (S.tm rfl) (S.tm rfl) (i:=0) (off:=0) rfl sizeOf61 (vs:=(Hp.enc (Hp.mk Ai.Key Bq.Id Bq.Who Bq.Time Bq.At Cr))) rfl rfl rfl rfl ?_);clear S;intro w5 hk5 S
 refine Ld (It hk5 (Xy (by kernel_rfl) ?_))
 clear hsel
 replace S:=(S.nl [.blk b2 (Hp.enc (Hp.mk Ai.Key Bq.Id Bq.Who Bq.Time Bq.At Cr)) 61] [true,false] rfl).k1 4 rfl
 refine Tn (wp_ret ?_)
 subst h
 exact Wh S (rs:=[.cell 4 61]) (vs:=[.agg #[sV Ai.Key,sV Bq.Id,sV Bq.Who,iV Bq.Time,iV Bq.At,bV Cr]]) results103 ⟨(Qy (off:=0) S rfl isAgg61 sizeOf61 rfl (S.cellsAt (i:=0) rfl)),trivial⟩ rfl rfl
set_option maxRecDepth 20000 in
theorem GQ (w : World) (Ai : Mw) (Cx : R45) (Dc : Vo (view w []) Ai Cx) (Ce : Value) (Cn : List Ep) (Da : List Nat) (De : Slc (view w []) 1 Ce (Da.map RP.enc)) (Df : Lp (AF (view w [])) Cn Da) (r : (List Hp)) (h : Vn Ai Cn = some r) :
    Calls prog 64 [.agg (R45.enc Cx).toArray,Ce].toArray w (Ret w [] fun τ v _=>Ve τ 61 6 v r.length (r.flatMap Hp.enc)):=by
 obtain ⟨u1,rfl,hs1⟩:=Dc
 refine Fe func64 rfl ntmps64 rfl fun a S=>?_
 unfold Vn at h
 replace S:=S.k2 0 1 rfl
 refine Fr (Mk S (S.tm rfl) (cs:=[sV Ai.Key,sV Ai.Race,u1.val,iV Ai.Young,iV Ai.Old]) rfl rfl ?_);clear S;intro a w1 b1 hz1 hk1 S
 refine Vk S rfl rfl fun a S=>Dz (Vk S rfl rfl ?_);clear S;intro a S
 replace S:=S.nil 61 6
 refine Dl (Fs (Fr (Vm S rfl rfl fun a S=>lv S (Gn XB (S.tm rfl) (Vh De Df)) rfl fun a S=>lv S (Rm rfl) rfl fun a S=>Dl ?_)))
 replace S:=(S.nl [.own (.slice none 0 0) 61 6 ([] : List Hp).length (([] : List Hp).flatMap Hp.enc),.blk b1 [sV Ai.Key,sV Ai.Race,u1.val,iV Ai.Young,iV Ai.Old] 45] [true,true] rfl).k5 2 5 9 10 11 rfl
 obtain ⟨j1,hj1,h⟩:=Fk h
 refine Fa (fun a w'=>∃ x1 : List Hp,∃ v1 : Value,j1 x1 = some r ∧ Sx w [] nov [.own v1 61 6 x1.length (x1.flatMap Hp.enc),.blk b1 [sV Ai.Key,sV Ai.Race,u1.val,iV Ai.Young,iV Ai.Old] 45] [(5,v1)] 54 a w') ?_ ?_
 ·refine wp_block (Hs (fun (ys1 : List Ep) a w'=>∃ i1 : Nat,∃ x1 : List Hp,∃ v1 : Value,(∃ dn,Cn = dn ++ ys1 ∧ dn.length = i1) ∧ Ma Ai j1 ys1 i1 x1 = some r ∧ Sx w [] nov [.own v1 61 6 x1.length (x1.flatMap Hp.enc),.blk b1 [sV Ai.Key,sV Ai.Race,u1.val,iV Ai.Young,iV Ai.Old] 45] [(2,.pointer (some ⟨b1,0,none⟩)),(5,v1),(9,Ce),(10,iV (Cn.length : Int)),(11,iV (i1 : Int))] 54 a w') List.length Cn ⟨0,([] : List Hp),(.slice none 0 0),⟨[],rfl,rfl⟩,h,S.nf [true,true] rfl (subR rfl)⟩ ?_)
  clear S h;rintro ys1 a w2 ⟨i1,x1,v1,⟨dn,hd1,hi1⟩,h,S⟩
  cases ys1 with
  | nil =>
   rw [Ma.eq_1] at h
   refine Fr (Vb S Fp rfl rfl rfl fun a S=>Ld ?_)
   replace S:=S.k6 2 5 9 10 11 12 rfl
   exact Tn (Fs (wp_cond_false ((S.tm rfl).trans (congrArg Value.bool (Jq hd1 hi1))) (wp_exit (Ew (Ew (Hl (Tn (⟨x1,v1,h,S.nf [true,true] rfl ⟨rfl,trivial⟩⟩))))))))
  | cons y1 ys1 =>
   rw [Ma.eq_2] at h
   refine Fr (Vb S Fp rfl rfl rfl fun a S=>Ld ?_)
   replace S:=S.k6 2 5 9 10 11 12 rfl
   refine Tn (Fs (wp_cond_true ((S.tm rfl).trans (congrArg Value.bool (Iv hd1 hi1))) (wp_skip (Tn (Fs ?_)))))
   obtain ⟨j2,hj2,h⟩:=Fk h
   refine Fa (fun a w'=>∃ x2 : List Hp,∃ v2 : Value,j2 x2 = some r ∧ Sx w [] nov [.own v2 61 6 x2.length (x2.flatMap Hp.enc),.blk b1 [sV Ai.Key,sV Ai.Race,u1.val,iV Ai.Young,iV Ai.Old] 45] [(2,.pointer (some ⟨b1,0,none⟩)),(5,v2),(9,Ce),(10,iV (Cn.length : Int)),(11,iV (i1 : Int))] 54 a w') ?_ ?_
   ·refine wp_block (Fs (Fg ?_))
    obtain ⟨r1,hg1,hl1⟩:=Lp.at Df (Js hd1 hi1)
    have hb1:=hl1
    obtain ⟨b2,o1,hm1,hr1⟩:=Fv (a:=a) (x:=.tmp 9) (y:=.tmp 11) (ty:=0) XB De hg1 rfl (S.tm rfl) (S.tm rfl)
    refine lv S (hr1 _) rfl ?_;clear S;intro a S
    clear hr1
    refine lv S (Hw isAgg192 (off:=o1) (o:=0) (S.tm rfl) (hm1.at S.emb0) rfl) rfl fun a S=>Va S rfl rfl fun a S=>Dl (Fs (Fs ?_))
    obtain ⟨j3,hj3,h⟩:=Fk h
    refine Fa (fun a w'=>∃ x3 : Bool,j3 x3 = some r ∧ Sx w [] nov [.own v1 61 6 x1.length (x1.flatMap Hp.enc),.blk b1 [sV Ai.Key,sV Ai.Race,u1.val,iV Ai.Young,iV Ai.Old] 45] [(2,.pointer (some ⟨b1,0,none⟩)),(5,v1),(7,.pointer (some ⟨r1,0,none⟩)),(9,Ce),(10,iV (Cn.length : Int)),(11,iV (i1 : Int)),(27,bV x3)] 54 a w') ?_ ?_
    ·rcases Bool.eq_false_or_eq_true y1.void_ with hb2 | hb2
     ·replace h:=Rz h hb2
      refine Hd [] ([]) Tryz.mixed S rfl (by kernel_rfl) ?_;clear S;intro w6 hk2 hsel S
      refine Kt [0,1,2,3,4,5,6,7,8,9,10,11,12] hsel (by kernel_rfl) rfl ?_
      clear hsel
      refine Gv S rfl (Rm (S.tm rfl)) rfl fun a S=>Gv S rfl (Jh (S.tm rfl)) rfl fun a S=>Gv S rfl (Gb DI (S.tm rfl)) rfl fun a S=>Gv S rfl (Hw isAgg4 (off:=0) (o:=9) (S.tm rfl) ((Pl hb1).at S.emb0) rfl) rfl fun a S=>Gv S rfl (Rm (S.tm rfl)) rfl ?_;clear S;intro a S
      iterate 7 (refine Qo S rfl rfl rfl rfl (Ng hb2) rfl ?_ rfl;clear S;intro a S)
      refine Gv S rfl (Qe hb2 (S.tm rfl) rfl) rfl fun a S=>Jb ?_
      replace S:=S.k7 2 5 7 9 10 11 27 rfl
      exact Tn (⟨true,h,S.nf [true,true] rfl (subR rfl)⟩)
     ·replace h:=Sa h hb2
      refine Hd [] ([]) Tryz.mixed S rfl (by kernel_rfl) ?_;clear S;intro w8 hk4 hsel S
      refine Eo 0 S hsel rfl rfl rfl (by kernel_rfl) (by kernel_rfl) rfl (fun _ hw=>(Rm (S.tm rfl))) fun a S=>Eo 1 S hsel rfl rfl rfl (by kernel_rfl) (by kernel_rfl) rfl (fun _ hw=>(Jh (S.tm rfl))) fun a S=>Eo 2 S hsel rfl rfl rfl (by kernel_rfl) (by kernel_rfl) rfl (fun _ hw=>(Gb DI (S.tm rfl))) fun a S=>Eo 3 S hsel rfl rfl rfl (by kernel_rfl) (by kernel_rfl) rfl (fun _ hw=>(Hw isAgg4 (off:=0) (o:=9) (S.tm rfl) (((Pl hb1).mono (S.le_arg Ez)).kept hw) rfl)) fun a S=>Eo 4 S hsel rfl rfl rfl (by kernel_rfl) (by kernel_rfl) rfl (fun _ hw=>(Rm (S.tm rfl))) fun a S=>Ey 5 S hsel rfl rfl rfl rfl hb2 rfl rfl (by kernel_rfl) (by kernel_rfl) rfl (fun _ hw=>(Gh isAgg45 sizeOf45 (off:=0) (o:=0) (part:=[sV Ai.Key,sV Ai.Race,u1.val,iV Ai.Young,iV Ai.Old]) rfl rfl (S.tm rfl) ((S.blk_mem (i:=1) (cells:=[sV Ai.Key,sV Ai.Race,u1.val,iV Ai.Young,iV Ai.Old]) (b:=b1) (T:=45) rfl (Ik (e':=.blk b1 [sV Ai.Key,sV Ai.Race,u1.val,iV Ai.Young,iV Ai.Old] 45))).kept hw))) fun a S=>Ey 6 S hsel rfl rfl rfl rfl hb2 rfl rfl (by kernel_rfl) (by kernel_rfl) rfl (fun _ hw=>(Rm (S.tm rfl))) fun a S=>Ey 7 S hsel rfl rfl rfl rfl hb2 rfl rfl (by kernel_rfl) (by kernel_rfl) rfl (fun _ hw=>(Jh (S.tm rfl))) fun a S=>Ey 8 S hsel rfl rfl rfl rfl hb2 rfl rfl (by kernel_rfl) (by kernel_rfl) rfl (fun _ hw=>(Gb AY (S.tm rfl))) fun a S=>Ey 9 S hsel rfl rfl rfl rfl hb2 rfl rfl (by kernel_rfl) (by kernel_rfl) rfl (fun _ hw=>(Gh isAgg53 sizeOf53 (off:=0) (o:=0) (part:=(Ex.enc y1.s_)) rfl rfl (S.tm rfl) (((Pl hb1).mono (S.le_arg Ez)).kept hw))) fun a S=>Hi 10 (by kernel_rfl) rfl ?_
      refine Em S rfl rfl rfl hb2 (Er S (fun _=>Ei (vs:=[.agg (R45.enc (R45.mk Ai.Key Ai.Race u1 Ai.Young Ai.Old)).toArray,.agg (Ex.enc y1.s_).toArray]) ⟨(S.tm rfl),(S.tm rfl),trivial⟩ call102) (IY _ Ai (R45.mk Ai.Key Ai.Race u1 Ai.Young Ai.Old) ⟨u1,rfl,(hs1.mono (S.le_arg Ez))⟩ y1.s_ _ rfl) rfl ?_);clear S;intro v4 a w9 hv2 hk5 hn2 S
      subst hv2
      refine Ld (It hk5 (Kt [11,12] hsel (by kernel_rfl) rfl ?_))
      clear hsel
      refine Fx S rfl rfl rfl rfl hb2 (He S (Ig (S.tm rfl)) rfl fun a S=>Gv S rfl (Qf hb2 (S.tm rfl) (S.tm rfl)) rfl fun a S=>Jb ?_)
      replace S:=S.k14 2 5 7 9 10 11 20 21 22 23 24 25 26 27 rfl
      exact Tn (⟨!(Wa Ai y1.s_),h,S.nf [true,true] rfl (subR rfl)⟩)
    clear S h;rintro a w5 ⟨x3,h,S⟩;rw [hj3] at h;clear hj3 j3
    refine Tn (Fc h (S.tm rfl) (fun hb3 h=>?_) (fun hb3 h=>?_))
    ·exact wp_exit (Ew (Hl (Tn (⟨x1,v1,h,S.nf [true,true] rfl (subR rfl)⟩))))
    ·refine wp_skip (Tn (Fr (Vm S rfl rfl fun a S=>lv S (Gn DB (S.tm rfl) (Qb (S.own_at (i:=0) rfl))) rfl fun a S=>Va S rfl rfl fun a S=>Dl (Fs (Hd [] ([]) Tryz.mixed S rfl (by kernel_rfl) ?_)))));clear S;intro w10 hk6 hsel S
     refine Kt [0,1,2,3,4,5,6,7,8,9,10,11,12,13,14,15] hsel (by kernel_rfl) rfl ?_
     clear hsel
     refine Gv S rfl (Rm (S.tm rfl)) rfl fun a S=>Gv S rfl (Jn (S.tm rfl) rfl) rfl fun a S=>Gv S rfl (Rm (S.tm rfl)) rfl ?_;clear S;intro a S
     obtain ⟨j4,hj4,h⟩:=Fk h
     refine Zn 13 (fun a w'=>∃ c1,j4 c1 = some r ∧ Keep [] w10 w' ∧ Sx w [] nov [.own v1 61 6 x1.length (x1.flatMap Hp.enc),.blk b1 [sV Ai.Key,sV Ai.Race,u1.val,iV Ai.Young,iV Ai.Old] 45] [(2,.pointer (some ⟨b1,0,none⟩)),(5,v1),(7,.pointer (some ⟨r1,0,none⟩)),(9,Ce),(10,iV (Cn.length : Int)),(11,iV (i1 : Int)),(45,bV c1)] 54 a w') ?_ ?_
     ·rcases Bool.eq_false_or_eq_true (decide ((x1.length : Int) = 0)) with hb4 | hb4
      ·replace h:=Rz h hb4
       iterate 12 (refine Qo S rfl rfl rfl rfl (Ng hb4) rfl ?_ rfl;clear S;intro a S)
       exact Gv S rfl (Lk true hb4 (S.tm rfl) rfl) rfl fun a S=>Jb (⟨_,h,Keep.refl _ _,S.nf [true,true] rfl (subR rfl)⟩)
      ·replace h:=Sa h hb4
       refine Fx S rfl rfl rfl rfl hb4 (He S (Rm (S.tm rfl)) rfl fun a S=>Fx S rfl rfl rfl rfl hb4 (He S (Jh (S.tm rfl)) rfl fun a S=>Fx S rfl rfl rfl rfl hb4 (He S (Gb AY (S.tm rfl)) rfl fun a S=>Fx S rfl rfl rfl rfl hb4 (He S (Gb OF (S.tm rfl)) rfl fun a S=>Fx S rfl rfl rfl rfl hb4 (He S (Hw isAgg3 (off:=0) (o:=7) (S.tm rfl) ((Pl hb1).at S.emb0) rfl) rfl fun a S=>Fx S rfl rfl rfl rfl hb4 ?_)))))
       refine He S (Rm (S.tm rfl)) rfl fun a S=>Fx S rfl rfl rfl rfl hb4 (He S (Rm (S.tm rfl)) rfl fun a S=>Fx S rfl rfl rfl rfl hb4 (He S (Jt (S.tm rfl) rfl) rfl fun a S=>Fx S rfl rfl rfl rfl hb4 ?_))
       obtain ⟨hc1,h⟩:=Jc h
       obtain ⟨b3,hg2,hr2⟩:=Hy (a:=a) (x:=.tmp 38) (y:=.tmp 40) (ty:=0) DB Hp.enc_ok S (i:=0) rfl (Es hc1).1 (Es hc1).2 (S.tm rfl) (S.tm rfl)
       refine He S (hr2 _) rfl ?_;clear S;intro a S
       clear hr2
       exact Fx S rfl rfl rfl rfl hb4 (He S (Gb OG (S.tm rfl)) rfl fun a S=>Fx S rfl rfl rfl rfl hb4 (He S (Hw isAgg3 (off:=((W ((x1.length : Int) - 1)).toNat) * 6) (o:=3) (S.tm rfl) (Up Hp.enc_ok S (i:=0) rfl hg2 (Es hc1).1) rfl) rfl fun a S=>Fx S rfl rfl rfl rfl hb4 (He S (Vd (S.tm rfl) (S.tm rfl)) rfl fun a S=>Gv S rfl (Ll hb4 (S.tm rfl) (S.tm rfl)) rfl fun a S=>Jb (⟨_,h,Keep.refl _ _,S.nf [true,true] rfl (subR rfl)⟩))))
     clear S h;rintro a w11 ⟨c1,h,hk7,S⟩;rw [hj4] at h;clear hj4 j4
     refine Jb ?_
     replace S:=S.k7 2 5 7 9 10 11 45 rfl
     refine Tn ?_
     obtain ⟨j5,hj5,h⟩:=Fk h
     refine Fa (fun a w'=>∃ x4 : List Hp,∃ v5 : Value,j5 x4 = some r ∧ Sx w [] nov [.own v5 61 6 x4.length (x4.flatMap Hp.enc),.blk b1 [sV Ai.Key,sV Ai.Race,u1.val,iV Ai.Young,iV Ai.Old] 45] [(2,.pointer (some ⟨b1,0,none⟩)),(5,v5),(9,Ce),(10,iV (Cn.length : Int)),(11,iV (i1 : Int))] 54 a w') ?_ ?_
     ·refine Fc h (S.tm rfl) (fun hb5 h=>?_) (fun hb5 h=>?_)
      ·refine Fg (Vm S rfl rfl fun a S=>lv S (Gh isAgg45 sizeOf45 (off:=0) (o:=0) (part:=[sV Ai.Key,sV Ai.Race,u1.val,iV Ai.Young,iV Ai.Old]) rfl rfl (S.tm rfl) (S.cellsAt (i:=1) rfl)) rfl fun a S=>Vm S rfl rfl fun a S=>Er S (fun _=>Ei (vs:=[.agg (R45.enc (R45.mk Ai.Key Ai.Race u1 Ai.Young Ai.Old)).toArray,.pointer (some ⟨r1,0,none⟩)]) ⟨(S.tm rfl),(S.tm rfl),trivial⟩ call103) (KI _ Ai (R45.mk Ai.Key Ai.Race u1 Ai.Young Ai.Old) ⟨u1,rfl,(hs1.mono (S.le_arg Ez))⟩ r1 y1.s_ y1.sure_ y1.void_ ((S.le_arg Ez) _ _ hb1) _ rfl) rfl ?_);clear S;intro v6 a w13 hv3 hk8 hn3 S
       subst hv3
       refine Fq S underlying56 sizeOf61 zeroValue61 rfl rfl (pv:=[(0,.agg (Hp.enc (Pg Ai y1.s_ y1.sure_ y1.void_)).toArray)]) ⟨rfl,(S.tm rfl),trivial⟩ (cs:=[sV ((Pg Ai y1.s_ y1.sure_ y1.void_).Kind),sV ((Pg Ai y1.s_ y1.sure_ y1.void_).Id),sV ((Pg Ai y1.s_ y1.sure_ y1.void_).Who),iV ((Pg Ai y1.s_ y1.sure_ y1.void_).Time),iV ((Pg Ai y1.s_ y1.sure_ y1.void_).Since),bV ((Pg Ai y1.s_ y1.sure_ y1.void_).Sure)]) (by kernel_rfl) rfl ?_;clear S;intro a w14 b4 hz2 hk9 S
       obtain ⟨hc2,h⟩:=Jc h
       refine Np DB Hp.enc_ok S (S.tm rfl) (i:=1) rfl (S.tm rfl) (j:=0) rfl (ys:=[(Pg Ai y1.s_ y1.sure_ y1.void_)]) rfl rfl rfl rfl (by have:=Nx hc2;omega) rfl ?_;clear S;intro v7 a w15 hk10 S
       exact Va S rfl rfl fun a S=>Dl (⟨(x1 ++ [(Pg Ai y1.s_ y1.sure_ y1.void_)]),v7,h,S.nf [false,true,true] rfl (subR rfl)⟩)
      ·exact wp_skip (Tn (⟨x1,v1,h,S.nf [true,true] rfl (subR rfl)⟩))
     clear S h;rintro a w12 ⟨x4,v5,h,S⟩;rw [hj5] at h;clear hj5 j5
     exact Im (Tn (⟨x4,v5,h,S.nf [true,true] rfl (subR rfl)⟩))
   clear S h;rintro a w4 ⟨x2,v2,h,S⟩;rw [hj2] at h;clear hj2 j2
   exact Tn (Fg (Vq S Gw rfl rfl rfl fun a S=>Vm S rfl rfl fun a S=>Dl (⟨ys1,⟨i1 + 1,x2,v2,⟨_,(hd1).trans (List.append_cons _ _ _),by simp [hi1]⟩,h,S.nf [true,true] rfl ⟨rfl,rfl,rfl,rfl,(congrArg (fun z=>some (Value.int .i64 z)) (Iw hd1 hi1 (Xk De Df))),trivial⟩⟩,Nat.lt_succ_self _⟩)))
 clear S h;rintro a w3 ⟨x1,v1,h,S⟩;rw [hj1] at h;clear hj1 j1
 refine Tn (Fr (Vm S rfl rfl fun a S=>Va S rfl rfl fun a S=>Dl (wp_ret ?_)))
 obtain rfl:=Option.some.inj h
 exact Fd S results64 rfl (Uf S (i:=0) rfl rfl)
set_option maxRecDepth 20000 in
theorem HP (w : World) (Ai : Mw) (Cx : R45) (Dc : Vo (view w []) Ai Cx) (Ce : Value) (Cn : List Ep) (Da : List Nat) (De : Slc (view w []) 1 Ce (Da.map RP.enc)) (Df : Lp (AF (view w [])) Cn Da) (r : (List Hp)) (h : St Ai Cn = some r) :
    Calls prog 26 [.agg (R45.enc Cx).toArray,Ce].toArray w (Ret w [] fun τ v _=>Slc τ 6 v (r.map Hp.enc)):=by
 obtain ⟨u1,rfl,hs1⟩:=Dc
 refine Fe func26 rfl ntmps26 rfl fun a S=>?_
 unfold St at h
 replace S:=S.k2 0 1 rfl
 refine Fr (Mk S (S.tm rfl) (cs:=[sV Ai.Key,sV Ai.Race,u1.val,iV Ai.Young,iV Ai.Old]) rfl rfl ?_);clear S;intro a w1 b1 hz1 hk1 S
 refine Vk S rfl rfl fun a S=>Dz (lv S (Gh isAgg45 sizeOf45 (off:=0) (o:=0) (part:=[sV Ai.Key,sV Ai.Race,u1.val,iV Ai.Young,iV Ai.Old]) rfl rfl (S.tm rfl) (S.cellsAt (i:=0) rfl)) rfl fun a S=>Vm S rfl rfl ?_);clear S;intro a S
 obtain ⟨r1,hr1,h⟩:=Ga h
 have hz2:=S.keep.size
 refine Er S (fun _=>Ei (vs:=[.agg (R45.enc (R45.mk Ai.Key Ai.Race u1 Ai.Young Ai.Old)).toArray,Ce]) ⟨(S.tm rfl),(S.tm rfl),trivial⟩ call64) (GQ _ Ai (R45.mk Ai.Key Ai.Race u1 Ai.Young Ai.Old) ⟨u1,rfl,(hs1.mono (S.le_arg Ez))⟩ Ce Cn Da (De.mono (S.le_arg Ez)) (AW (S.le_arg Ez) Df) _ hr1) rfl ?_;clear S;intro v1 a w2 hv1 hk2 hn1 S
 obtain ⟨φ1,hl1,hm1,S⟩:=S.see' hn1 hz2
 have hs2:=hv1.mono hm1
 refine Va S rfl rfl fun a S=>Dl (Fs (Fr (Vm S rfl rfl fun a S=>lv S (Gn DB (S.tm rfl) (Gk (Hn Hp.enc_ok hs2))) rfl fun a S=>lv S (Rm rfl) rfl fun a S=>Dl ?_)))
 replace S:=S.n0.k4 5 11 12 13 rfl
 obtain ⟨j1,hj1,h⟩:=Fk h
 refine Fa (fun a w'=>j1 = some r ∧ Sx w [] φ1 [] [] 32 a w') ?_ ?_
 ·refine wp_block (Hs (fun (ys1 : List Hp) a w'=>∃ i1 : Nat,(∃ dn,r1 = dn ++ ys1 ∧ dn.length = i1) ∧ Lc r1 j1 ys1 i1 = some r ∧ Sx w [] φ1 [] [(5,v1),(11,v1),(12,iV (r1.length : Int)),(13,iV (i1 : Int))] 32 a w') List.length r1 ⟨0,⟨[],rfl,rfl⟩,h,S.nf [] rfl (subR rfl)⟩ ?_)
  clear S h;rintro ys1 a w3 ⟨i1,⟨dn,hd1,hi1⟩,h,S⟩
  cases ys1 with
  | nil =>
   rw [Lc.eq_1] at h
   refine Fr (Vb S Fp rfl rfl rfl fun a S=>Ld ?_)
   replace S:=S.k5 5 11 12 13 14 rfl
   exact Tn (Fs (wp_cond_false ((S.tm rfl).trans (congrArg Value.bool (Jq hd1 hi1))) (wp_exit (Ew (Ew (Hl (Tn (⟨h,S.nf [] rfl trivial⟩))))))))
  | cons y1 ys1 =>
   rw [Lc.eq_2] at h
   refine Fr (Vb S Fp rfl rfl rfl fun a S=>Ld ?_)
   replace S:=S.k5 5 11 12 13 14 rfl
   refine Tn (Fs (wp_cond_true ((S.tm rfl).trans (congrArg Value.bool (Iv hd1 hi1))) (wp_skip (Tn (Fs (wp_block (Fr (Vm S rfl rfl ?_))))))));clear S;intro a S
   obtain ⟨b2,o1,hm2,hr2⟩:=Fv (a:=a) (x:=.tmp 11) (y:=.tmp 13) (ty:=0) DB (Hn Hp.enc_ok hs2) (Js hd1 hi1) rfl (S.tm rfl) (S.tm rfl)
   refine lv S (hr2 _) rfl ?_;clear S;intro a S
   clear hr2
   refine lv S (Gh isAgg61 sizeOf61 (off:=o1) (o:=0) (part:=(Hp.enc y1)) rfl rfl (S.tm rfl) (hm2.at S.emb)) rfl fun a S=>Iz S zeroValue61 (cs:=[sV An,sV An,sV An,iV 0,iV 0,bV false]) rfl rfl ?_;clear S;intro a w5 b3 hz3 hk3 S
   refine Va S rfl rfl fun a S=>Ft S (S.tm rfl) (S.tm rfl) (i:=0) (off:=0) rfl sizeOf61 (vs:=(Hp.enc y1)) rfl rfl rfl rfl ?_;clear S;intro w6 hk4 S
   refine Dl (Fs (Hd [] ([]) Tryz.mixed S rfl (by kernel_rfl) ?_));clear S;intro w7 hk5 hsel S
   refine Kt [0,1,2,3,4,5,6,7,8,9] hsel (by kernel_rfl) rfl ?_
   clear hsel
   refine Gv S rfl (Gb OG (S.tm rfl)) rfl fun a S=>Gv S rfl (Mg isAgg3 (S.tm rfl) (S.cell (i:=0) rfl rfl)) rfl fun a S=>Gv S rfl (Rm (S.tm rfl)) rfl fun a S=>Gv S rfl (Rm (S.tm rfl)) rfl fun a S=>Gv S rfl (Gn DB (S.tm rfl) (Gk (Hn Hp.enc_ok hs2))) rfl fun a S=>Gv S rfl (Jt (S.tm rfl) rfl) rfl ?_;clear S;intro a S
   obtain ⟨hc1,h⟩:=Jc h
   obtain ⟨b4,o2,hm3,hr3⟩:=Fv (a:=a) (x:=.tmp 20) (y:=.tmp 23) (ty:=0) DB (Hn Hp.enc_ok hs2) (Es hc1).1 (Es hc1).2 (S.tm rfl) (S.tm rfl)
   refine Gv S rfl (hr3 _) rfl ?_;clear S;intro a S
   clear hr3
   refine Gv S rfl (Gb OG (S.tm rfl)) rfl fun a S=>Gv S rfl (Hw isAgg3 (off:=o2) (o:=3) (S.tm rfl) (hm3.at S.emb) rfl) rfl fun a S=>Gv S rfl (Jn (S.tm rfl) (S.tm rfl)) rfl fun a S=>Jb ?_
   replace S:=S.n0.k6 5 6 11 12 13 27 rfl
   refine Tn (Fc h (S.tm rfl) (fun hb1 h=>?_) (fun hb1 h=>?_))
   ·refine Fr (Vm S rfl rfl fun a S=>Vm S rfl rfl ?_);clear S;intro a S
    obtain ⟨hc2,h⟩:=Jc h
    obtain ⟨v2,hs3,hr4⟩:=WQ (a:=a) (x:=.tmp 28) (y:=.tmp 29) (ty:=56) DB (Hn Hp.enc_ok hs2) (S.tm rfl) (S.tm rfl) hc2
    refine lv S (hr4 _) rfl ?_;clear S;intro a S
    clear hr4
    refine Va S rfl rfl fun a S=>Dl (wp_ret (Gg (Ek (Ek (Gg (Ek (Ek ?_)))))))
    obtain rfl:=Option.some.inj h
    exact Fd S results26 rfl ((hs3).mono S.le_newer)
   ·exact wp_skip (Im (Tn (Fg (Vq S Gw rfl rfl rfl fun a S=>Vm S rfl rfl fun a S=>Dl (⟨ys1,⟨i1 + 1,⟨_,(hd1).trans (List.append_cons _ _ _),by simp [hi1]⟩,h,S.nf [] rfl ⟨rfl,rfl,rfl,(congrArg (fun z=>some (Value.int .i64 z)) (Iw hd1 hi1 (Kh (Hn Hp.enc_ok hs2)))),trivial⟩⟩,Nat.lt_succ_self _⟩)))))
 clear S h;rintro a w4 ⟨h,S⟩;rw [hj1] at h;clear hj1 j1
 refine Tn (Fr (Vk S rfl rfl fun a S=>Dl (wp_ret ?_)))
 obtain rfl:=Option.some.inj h
 exact Fd S results26 rfl (WI _ _)
theorem DQ (w : World) (Au : Value) (Aw : List Hp) (Be : Slc (view w []) 6 Au (Aw.map Hp.enc)) (r : (List Hp)) (h : Uz Aw = some r) :
    Calls prog 25 [Au].toArray w (Ret w [] fun τ v _=>Ve τ 61 6 v r.length (r.flatMap Hp.enc)):=by
 refine Fe func25 rfl ntmps25 rfl fun a S=>?_
 unfold Uz at h
 replace S:=S.k1 0 rfl
 refine Fr (Vk S rfl rfl fun a S=>Dl (Fs (Fr (Vm S rfl rfl fun a S=>lv S (WV underlying56 (Gk Be) (S.tm rfl) rfl) rfl fun a S=>Ld ?_))))
 refine Tn (WL (S.tm rfl) (fun hb1=>?_) (fun hb1=>?_))
 ·have hx1:=WU Be hb1
  subst hx1
  replace h : some ([] : List Hp) = some r:=h
  refine Fr (Vk S rfl rfl fun a S=>Dl (wp_ret (Ek ?_)))
  obtain rfl:=Option.some.inj h
  exact Fd S results25 rfl (Ug _ _ _)
 ·refine wp_skip (Tn (Fr (LH S underlying56 sizeOf61 rfl ?_)));clear S;intro a w1 b1 hz1 hk1 S
  refine Vm S rfl rfl ?_;clear S;intro a S
  replace S:=S.litOwn (i:=0) (xs:=([] : List Hp)) rfl Hp.enc_ok rfl rfl rfl
  replace S:=S.nk [.own (.slice (some ⟨b1,0,none⟩) 0 0) 61 6 (([] : List Hp) : List Hp).length ((([] : List Hp) : List Hp).flatMap Hp.enc)] [(0,Au),(2,.slice none 0 0),(3,Au),(4,bV (nilB Au)),(5,(.slice (some ⟨b1,0,none⟩) 0 0)),(6,Au)] [] rfl (subR rfl)
  obtain ⟨hc1,h⟩:=Jc h
  refine HE (Y:=[]) DB Hp.enc_ok S (S.tm rfl) (i:=0) rfl (S.tm rfl) (Be.mono (S.le_arg (fun _ h=>by cases h))) rfl rfl (by have:=Nx hc1;omega) rfl ?_;clear S;intro v1 a w2 hk2 S
  refine Va S rfl rfl fun a S=>Dl (wp_ret ?_)
  obtain rfl:=Option.some.inj h
  exact Fd S results25 rfl (Uf S (i:=0) rfl rfl)
theorem HQ (w : World) (By : Value) (Ai : List Mw) (Cc : List R45) (Cv : Slc (view w []) 5 By (Cc.map R45.enc)) (Cw : Lp (Vo (view w [])) Ai Cc) (Ab : Value) (Ad : List Ex) (Ae : Slc (view w []) 8 Ab (Ad.map Ex.enc)) (Bo : ByteArray) (Bd : Int) (r : (List Hp) × Int) (h : Wr Ai Ad Bo Bd = some r) :
    Calls prog 10 [By,Ab,sV Bo,iV Bd].toArray w (Ret w [] fun τ v _=>∃ u1 : Value,v = .tuple #[u1,iV r.2] ∧ Ve τ 61 6 u1 r.1.length (r.1.flatMap Hp.enc)):=by
 refine Fe func10 rfl ntmps10 rfl fun a S=>?_
 unfold Wr at h
 replace S:=S.k4 0 1 2 3 rfl
 refine Fr (Vk S rfl rfl fun a S=>Vk S rfl rfl fun a S=>Dl (Fs (Fg ?_)))
 iterate 4 (refine Vm S rfl rfl ?_;clear S;intro a S)
 obtain ⟨r1,hr1,h⟩:=Ga h
 have hz1:=S.keep.size
 refine Er S (fun _=>Ei (vs:=[By,Ab,sV Bo,iV Bd]) ⟨(S.tm rfl),(S.tm rfl),(S.tm rfl),(S.tm rfl),trivial⟩ call24) (LN _ (join (view w []) nov) (Ry (S.le_arg Ez) (S.le_new Ez)) By Ai Cc (Cv.mono (le_join_left _ _)) (EE (le_join_left _ _) Cw) Ab Ad (Ae.mono (le_join_left _ _)) Bo Bd _ hr1) rfl ?_;clear S;intro v1 a w1 hv1 hk1 hn1 S
 obtain ⟨u1,u2,rfl,ho1,ho2⟩:=hv1
 obtain ⟨φ1,hl1,hm1,S⟩:=S.see' hn1 hz1
 obtain ⟨q1,rfl,hq1⟩:=ho1
 obtain ⟨u3,rfl,hs1⟩:=Xe (Vi hl1 hm1) _ _ hq1
 obtain ⟨rs1,ho3,hr2⟩:=ho2
 have hs2:=ho3.mono hm1
 have hr3:=AW hm1 hr2
 refine Vm S rfl rfl ?_;clear S;intro a S
 iterate 3 (refine Vq S Ia rfl rfl rfl ?_;clear S;intro a S)
 refine Iz S zeroValue45 (cs:=[sV An,sV An,.slice none 0 0,iV 0,iV 0]) rfl rfl ?_;clear S;intro a w2 b1 hz2 hk2 S
 refine Ft S (S.tm rfl) (S.tm rfl) (i:=0) (off:=0) rfl sizeOf45 (vs:=[sV r1.1.Key,sV r1.1.Race,u3.val,iV r1.1.Young,iV r1.1.Old]) rfl rfl rfl (Rf rfl (Rf rfl (Rf (Lo.one (Gk hs1)) (Rf rfl (Rf rfl rfl))))) ?_;clear S;intro w3 hk3 S
 refine Va S rfl rfl fun a S=>Va S rfl rfl fun a S=>Ld ?_
 replace S:=(S.nl [.blk b1 [sV r1.1.Key,sV r1.1.Race,u3.val,iV r1.1.Young,iV r1.1.Old] 45] [true] rfl).k3 10 11 12 rfl
 refine Tn (Fs (Fr (Vm S rfl rfl fun a S=>Vq S Nt rfl rfl rfl fun a S=>Dl (Fc h (S.tm rfl) (fun hb1 h=>?_) (fun hb1 h=>?_)))))
 ·refine Fr (Vm S rfl rfl fun a S=>Vk S rfl rfl fun a S=>Va S rfl rfl fun a S=>Dl (wp_ret (Ek ?_)))
  obtain rfl:=Option.some.inj h
  exact Nz S results10 rfl rfl ⟨_,rfl,(Ug _ _ _)⟩
 ·refine wp_skip (Tn (Fr (lv S (Gh isAgg45 sizeOf45 (off:=0) (o:=0) (part:=[sV r1.1.Key,sV r1.1.Race,u3.val,iV r1.1.Young,iV r1.1.Old]) rfl rfl (S.tm rfl) (S.cellsAt (i:=0) rfl)) rfl fun a S=>Vm S rfl rfl ?_)));clear S;intro a S
  obtain ⟨r2,hr4,h⟩:=Ga h
  have hz3:=S.keep.size
  refine Er S (fun _=>Ei (vs:=[.agg (R45.enc (R45.mk r1.1.Key r1.1.Race u3 r1.1.Young r1.1.Old)).toArray,u2]) ⟨(S.tm rfl),(S.tm rfl),trivial⟩ call26) (HP _ r1.1 (R45.mk r1.1.Key r1.1.Race u3 r1.1.Young r1.1.Old) ⟨u3,rfl,(hs1.mono (Ry (S.le_arg Ez) (S.le_new Ez)))⟩ u2 r1.2.1 rs1 (hs2.mono (S.le_new Ez)) (AW (S.le_new Ez) hr3) _ hr4) rfl ?_;clear S;intro v2 a w4 hv2 hk4 hn2 S
  obtain ⟨φ2,hl2,hm2,S⟩:=S.see' hn2 hz3
  have hs3:=hv2.mono hm2
  obtain ⟨r3,hr5,h⟩:=Ga h
  have hz4:=S.keep.size
  refine Er S (fun _=>Ei (vs:=[v2]) ⟨(S.tm rfl),trivial⟩ call25) (DQ _ v2 r2 (hs3.mono (S.le_new Ez)) _ hr5) rfl ?_;clear S;intro v3 a w5 hv3 hk5 hn3 S
  obtain ⟨φ3,hl3,hm3,S⟩:=S.see' hn3 hz4
  have hs4:=hv3.mono hm3
  refine Va S rfl rfl fun a S=>Vk S rfl rfl fun a S=>Dl (wp_ret ?_)
  obtain rfl:=Option.some.inj h
  exact Nz S results10 rfl rfl ⟨_,rfl,((hs4).mono S.le_newer)⟩
theorem Xd (w : World) (Aj : Hp) (Bz : Nat) (Bj : Jy) (Ca : (view w []) Bz = some (.cells [iV Bj.Rank,sV Bj.Who,sV Bj.Club,iV Bj.Time,iV Bj.Fault,iV Bj.Points.Num,iV Bj.Points.Den].toArray 51 (0,0))) (r : Bool) (h : Ny Aj Bj = r) :
    Calls prog 12 [.agg (Hp.enc Aj).toArray,.pointer (some ⟨Bz,0,none⟩)].toArray w (Ret w [] fun _ v _=>v = bV r):=by
 refine Fe func12 rfl ntmps12 rfl fun a S=>?_
 unfold Ny at h
 replace S:=S.k2 0 1 rfl
 refine Fr (Mk S (S.tm rfl) (cs:=(Hp.enc Aj)) rfl rfl ?_);clear S;intro a w1 b1 hz1 hk1 S
 refine Vk S rfl rfl fun a S=>Dz (Vf fa_61_2 S rfl rfl fun a S=>Vl isAgg9 0 S rfl rfl rfl rfl fun a S=>Vf OD S rfl rfl fun a S=>lv S (Hw isAgg9 (off:=0) (o:=1) (S.tm rfl) ((Pl Ca).at S.emb0) rfl) rfl fun a S=>Vb S Wv rfl rfl rfl fun a S=>Va S rfl rfl ?_);clear S;intro a S
 refine Dl (wp_ret ?_)
 subst h
 exact Fd S results12 rfl rfl
theorem Qq (w : World) (Au : Value) (Aw : List Hp) (Be : Slc (view w []) 6 Au (Aw.map Hp.enc)) (Ay : Nat) (Av : Jy) (Bg : (view w []) Ay = some (.cells [iV Av.Rank,sV Av.Who,sV Av.Club,iV Av.Time,iV Av.Fault,iV Av.Points.Num,iV Av.Points.Den].toArray 51 (0,0))) (r : Int) (h : Jo Aw Av = r) :
    Calls prog 27 [Au,.func (.func 12) #[] #[.pointer (some ⟨Ay,0,none⟩)]].toArray w (Ret w [] fun _ v _=>v = iV r):=by
 refine Fe func27 rfl ntmps27 rfl fun a S=>?_
 unfold Jo at h
 replace S:=S.k2 0 1 rfl
 refine Fr (Vk S rfl rfl fun a S=>Dl (Fs (Fr (Vm S rfl rfl fun a S=>lv S (Gn DB (S.tm rfl) (Gk Be)) rfl fun a S=>lv S (Rm rfl) rfl ?_))));clear S;intro a S
 refine Dl ?_
 replace S:=S.k4 0 1 7 8 rfl
 obtain ⟨j1,hj1,h⟩:=Fk h
 refine Fa (fun a w'=>j1 = r ∧ Sx w [] nov [] [] 19 a w') ?_ ?_
 ·refine wp_block (Hs (fun (ys1 : List Hp) a w'=>∃ i1 : Nat,(∃ dn,Aw = dn ++ ys1 ∧ dn.length = i1) ∧ Ff Av j1 ys1 i1 = r ∧ Sx w [] nov [] [(0,Au),(1,.func (.func 12) #[] #[.pointer (some ⟨Ay,0,none⟩)]),(7,iV (Aw.length : Int)),(8,iV (i1 : Int))] 19 a w') List.length Aw ⟨0,⟨[],rfl,rfl⟩,h,S.nf [] rfl (subR rfl)⟩ ?_)
  clear S h;rintro ys1 a w1 ⟨i1,⟨dn,hd1,hi1⟩,h,S⟩
  cases ys1 with
  | nil =>
   rw [Ff.eq_1] at h
   refine Fr (Vb S Fp rfl rfl rfl fun a S=>Ld ?_)
   replace S:=S.k5 0 1 7 8 9 rfl
   exact Tn (Fs (wp_cond_false ((S.tm rfl).trans (congrArg Value.bool (Jq hd1 hi1))) (wp_exit (Ew (Ew (Hl (Tn (⟨h,S.nf [] rfl trivial⟩))))))))
  | cons y1 ys1 =>
   rw [Ff.eq_2] at h
   refine Fr (Vb S Fp rfl rfl rfl fun a S=>Ld ?_)
   replace S:=S.k5 0 1 7 8 9 rfl
   refine Tn (Fs (wp_cond_true ((S.tm rfl).trans (congrArg Value.bool (Iv hd1 hi1))) (wp_skip (Tn (Fs (wp_block (Fr (Vm S rfl rfl fun a S=>Va S rfl rfl ?_))))))));clear S;intro a S
   refine Dl (Fs (Fg ?_))
   iterate 3 (refine Vm S rfl rfl ?_;clear S;intro a S)
   obtain ⟨b1,o1,hm1,hr1⟩:=Fv (a:=a) (x:=.tmp 12) (y:=.tmp 13) (ty:=0) DB Be (Js hd1 hi1) rfl (S.tm rfl) (S.tm rfl)
   refine lv S (hr1 _) rfl ?_;clear S;intro a S
   clear hr1
   refine lv S (Gh isAgg61 sizeOf61 (off:=o1) (o:=0) (part:=(Hp.enc y1)) rfl rfl (S.tm rfl) (hm1.at S.emb0)) rfl fun a S=>Er S (fun _=>Te (cap:=[.pointer (some ⟨Ay,0,none⟩)]) (S.tm rfl) (vs:=[.agg (Hp.enc y1).toArray]) ⟨(S.tm rfl),trivial⟩ call12) (Xd _ y1 Ay Av ((S.le_arg Ez) _ _ Bg) _ rfl) rfl ?_;clear S;intro v1 a w3 hv1 hk1 hn1 S
   subst hv1
   refine Dl (Fc h (S.tm rfl) (fun hb1 h=>?_) (fun hb1 h=>?_))
   ·refine Fr (Vm S rfl rfl fun a S=>Va S rfl rfl fun a S=>Ld ?_)
    replace S:=S.k1 4 rfl
    refine Tn (wp_ret (Gg (Ek (Ek (Gg (Ek (Ek ?_)))))))
    subst h
    exact Fd S results27 rfl rfl
   ·exact wp_skip (Im (Tn (Fg (Vq S Gw rfl rfl rfl fun a S=>Vm S rfl rfl fun a S=>Dl (⟨ys1,⟨i1 + 1,⟨_,(hd1).trans (List.append_cons _ _ _),by simp [hi1]⟩,h,S.nf [] rfl ⟨rfl,rfl,rfl,(congrArg (fun z=>some (Value.int .i64 z)) (Iw hd1 hi1 (Kh Be))),trivial⟩⟩,Nat.lt_succ_self _⟩)))))
 clear S h;rintro a w2 ⟨h,S⟩;rw [hj1] at h;clear hj1 j1
 refine Tn (Fr (Vk S rfl rfl fun a S=>Dl (wp_ret ?_)))
 subst h
 exact Fd S results27 rfl rfl
theorem Qc (w : World) (Au : Value) (Aw : List Hp) (Be : Slc (view w []) 6 Au (Aw.map Hp.enc)) (Ay : Nat) (Av : Jy) (Bg : (view w []) Ay = some (.cells [iV Av.Rank,sV Av.Who,sV Av.Club,iV Av.Time,iV Av.Fault,iV Av.Points.Num,iV Av.Points.Den].toArray 51 (0,0))) (r : Bool) (h : Jk Aw Av = r) :
    Calls prog 11 [Au,.func (.func 12) #[] #[.pointer (some ⟨Ay,0,none⟩)]].toArray w (Ret w [] fun _ v _=>v = bV r):=by
 refine Fe func11 rfl ntmps11 rfl fun a S=>?_
 unfold Jk at h
 replace S:=S.k2 0 1 rfl
 refine Fr (Vk S rfl rfl fun a S=>Dz (Vm S rfl rfl fun a S=>Vm S rfl rfl fun a S=>Er S (fun _=>Ei (vs:=[Au,.func (.func 12) #[] #[.pointer (some ⟨Ay,0,none⟩)]]) ⟨(S.tm rfl),(S.tm rfl),trivial⟩ call27) (Qq _ Au Aw (Be.mono (S.le_arg Ez)) Ay Av ((S.le_arg Ez) _ _ Bg) _ rfl) rfl ?_));clear S;intro v1 a w1 hv1 hk1 hn1 S
 subst hv1
 refine Vq S Re rfl rfl rfl fun a S=>Va S rfl rfl fun a S=>Dl (wp_ret ?_)
 subst h
 exact Fd S results11 rfl rfl
theorem CG (w : World) (Br : Int) (r : Bool) (h : Ze Br = r) :
    Calls prog 104 [iV Br].toArray w (Ret w [] fun _ v _=>v = bV r):=by
 refine Fe func104 rfl ntmps104 rfl fun a S=>?_
 unfold Ze at h
 replace S:=S.k1 0 rfl
 refine Fr (Vk S rfl rfl fun a S=>Dz (Vm S rfl rfl fun a S=>lv S (CP (S.tm rfl) rfl (by decide)) rfl fun a S=>Vq S Jn rfl rfl rfl fun a S=>Vm S rfl rfl ?_));clear S;intro a S
 refine Io 9 (fun a w'=>Keep [] w w' ∧ Sx w [] nov [] [(15,bV ((decide ((Int.tmod Br 4) = 0)) && ((!decide ((Int.tmod Br 100) = 0)) || (decide ((Int.tmod Br 400) = 0)))))] 16 a w') ?_ ?_
 ·rcases Bool.eq_false_or_eq_true (decide ((Int.tmod Br 4) = 0)) with hb1 | hb1
  ·refine Em S rfl rfl rfl hb1 (Vm S rfl rfl fun a S=>Em S rfl rfl rfl hb1 (lv S (CP (S.tm rfl) rfl (by decide)) rfl fun a S=>Em S rfl rfl rfl hb1 (Vq S Nt rfl rfl rfl fun a S=>Em S rfl rfl rfl hb1 (Vm S rfl rfl fun a S=>Io 4 (fun a w'=>Keep [] w w' ∧ Sx w [] nov [] [(6,bV (decide ((Int.tmod Br 4) = 0))),(14,bV ((!decide ((Int.tmod Br 100) = 0)) || (decide ((Int.tmod Br 400) = 0))))] 16 a w') ?_ ?_))))
   ·rcases Bool.eq_false_or_eq_true (!decide ((Int.tmod Br 100) = 0)) with hb2 | hb2
    ·iterate 3 (refine Hk S rfl rfl rfl (Ng hb2) rfl ?_ rfl;clear S;intro a S)
     exact Em S rfl rfl rfl hb1 (lv S (Lk (decide ((Int.tmod Br 400) = 0)) hb2 (S.tm rfl) rfl) rfl fun a S=>Dl (⟨Keep.refl _ _,S.nf [] rfl (subR rfl)⟩))
    ·exact Em S rfl rfl rfl hb2 (Vm S rfl rfl fun a S=>Em S rfl rfl rfl hb2 (lv S (CP (S.tm rfl) rfl (by decide)) rfl fun a S=>Em S rfl rfl rfl hb2 (Vq S Jn rfl rfl rfl fun a S=>Em S rfl rfl rfl hb1 (lv S (Ll hb2 (S.tm rfl) (S.tm rfl)) rfl fun a S=>Dl (⟨Keep.refl _ _,S.nf [] rfl (subR rfl)⟩)))))
   clear S;rintro a w2 ⟨hk1,S⟩
   exact lv S (Ii hb1 (S.tm rfl) (S.tm rfl)) rfl fun a S=>Dl (⟨hk1,S.nf [] rfl ⟨rfl,trivial⟩⟩)
  ·iterate 4 (refine Hk S rfl rfl rfl (Ka hb1) rfl ?_ rfl;clear S;intro a S)
   iterate 3 (refine BM S rfl rfl rfl rfl ?_;clear S;intro a S)
   exact Hk S rfl rfl rfl (Ka hb1) rfl (fun a S=>lv S (Ij ((!decide ((Int.tmod Br 100) = 0)) || (decide ((Int.tmod Br 400) = 0))) hb1 (S.tm rfl) rfl) rfl fun a S=>Dl (⟨Keep.refl _ _,S.nf [] rfl ⟨rfl,trivial⟩⟩)) rfl
 clear S;rintro a w1 ⟨hk2,S⟩
 refine Va S rfl rfl fun a S=>Dl (wp_ret ?_)
 subst h
 exact Fd S results104 rfl rfl
theorem Yz (w : World) (Br : Int) (Db : Int) (r : Int) (h : Ov Br Db = r) :
    Calls prog 66 [iV Br,iV Db].toArray w (Ret w [] fun _ v _=>v = iV r):=by
 refine Fe func66 rfl ntmps66 rfl fun a S=>?_
 unfold Ov at h
 replace S:=S.k2 0 1 rfl
 refine Fr (Vk S rfl rfl fun a S=>Dl (Fs (Fr (Vm S rfl rfl fun a S=>Dl ?_))))
 refine wp_block (Fr (Vq S Jn rfl rfl rfl fun a S=>Va S rfl rfl fun a S=>Dl (Fc h (S.tm rfl) (fun hb1 h=>?_) (fun hb1 h=>?_))))
 ·refine Fs (Fr (Vm S rfl rfl fun a S=>Er S (fun _=>Ei (vs:=[iV Br]) ⟨(S.tm rfl),trivial⟩ call104) (CG _ Br _ rfl) rfl ?_));clear S;intro v1 a w1 hv1 hk1 hn1 S
  subst hv1
  refine Dl (Fc h (S.tm rfl) (fun hb2 h=>?_) (fun hb2 h=>?_))
  ·refine Fr (Vk S rfl rfl fun a S=>Dl (wp_ret (Ek (Gg (Ek ?_)))))
   subst h
   exact Fd S results66 rfl rfl
  ·refine wp_skip (Tn (Fr (Vk S rfl rfl fun a S=>Dl (wp_ret (Gg (Ek ?_))))))
   subst h
   exact Fd S results66 rfl rfl
 ·refine Fs (Fr (Vq S Jn rfl rfl rfl fun a S=>Va S rfl rfl fun a S=>Dl ?_))
  obtain ⟨j1,hj1,h⟩:=Fk h
  refine Fa (fun a w'=>∃ x1 : Bool,j1 x1 = r ∧ Sx w [] nov [] [(10,bV x1)] 15 a w') ?_ ?_
  ·refine Fc h (S.tm rfl) (fun hb3 h=>?_) (fun hb3 h=>?_)
   ·exact wp_skip (Tn (⟨decide (Db = 4),h,S.nf [] rfl ⟨rfl,trivial⟩⟩))
   ·refine Fr (Vq S Jn rfl rfl rfl fun a S=>Va S rfl rfl fun a S=>Dl ?_)
    obtain ⟨j2,hj2,h⟩:=Fk h
    refine Fa (fun a w'=>∃ x2 : Bool,j2 x2 = r ∧ Sx w [] nov [] [(10,bV x2)] 15 a w') ?_ ?_
    ·refine Fc h (S.tm rfl) (fun hb4 h=>?_) (fun hb4 h=>?_)
     ·exact wp_skip (Tn (⟨decide (Db = 6),h,S.nf [] rfl ⟨rfl,trivial⟩⟩))
     ·refine Fr (Vq S Jn rfl rfl rfl fun a S=>Va S rfl rfl fun a S=>Dl ?_)
      obtain ⟨j3,hj3,h⟩:=Fk h
      refine Fa (fun a w'=>∃ x3 : Bool,j3 x3 = r ∧ Sx w [] nov [] [(10,bV x3)] 15 a w') ?_ ?_
      ·refine Fc h (S.tm rfl) (fun hb5 h=>?_) (fun hb5 h=>?_)
       ·exact wp_skip (Tn (⟨decide (Db = 9),h,S.nf [] rfl ⟨rfl,trivial⟩⟩))
       ·exact Fg (Vq S Jn rfl rfl rfl fun a S=>Va S rfl rfl fun a S=>Dl (⟨decide (Db = 11),h,S.nf [] rfl ⟨rfl,trivial⟩⟩))
      clear S h;rintro a w4 ⟨x3,h,S⟩;rw [hj3] at h;clear hj3 j3
      exact Tn (⟨x3,h,S.nf [] rfl ⟨rfl,trivial⟩⟩)
    clear S h;rintro a w3 ⟨x2,h,S⟩;rw [hj2] at h;clear hj2 j2
    exact Tn (⟨x2,h,S.nf [] rfl ⟨rfl,trivial⟩⟩)
  clear S h;rintro a w2 ⟨x1,h,S⟩;rw [hj1] at h;clear hj1 j1
  refine Tn (Fc h (S.tm rfl) (fun hb6 h=>?_) (fun hb6 h=>?_))
  ·refine Fr (Vk S rfl rfl fun a S=>Dl (wp_ret (Gg (Ek ?_))))
   subst h
   exact Fd S results66 rfl rfl
  ·refine wp_skip (Im (Tn (Fr (Vk S rfl rfl fun a S=>Dl (wp_ret ?_)))))
   subst h
   exact Fd S results66 rfl rfl
theorem Za (w : World) (Br : Int) (r : Int) (h : Rp Br = r) :
    Calls prog 67 [iV Br].toArray w (Ret w [] fun _ v _=>v = iV r):=by
 refine Fe func67 rfl ntmps67 rfl fun a S=>?_
 unfold Rp at h
 replace S:=S.k1 0 rfl
 refine Fr (Vk S rfl rfl fun a S=>Dl (Fs (Fr (Vm S rfl rfl fun a S=>Er S (fun _=>Ei (vs:=[iV Br]) ⟨(S.tm rfl),trivial⟩ call104) (CG _ Br _ rfl) rfl ?_))));clear S;intro v1 a w1 hv1 hk1 hn1 S
 subst hv1
 refine Dl (Fc h (S.tm rfl) (fun hb1 h=>?_) (fun hb1 h=>?_))
 ·refine Fr (Vk S rfl rfl fun a S=>Dl (wp_ret (Ek ?_)))
  subst h
  exact Fd S results67 rfl rfl
 ·refine wp_skip (Tn (Fr (Vk S rfl rfl fun a S=>Dl (wp_ret ?_))))
  subst h
  exact Fd S results67 rfl rfl
theorem HR (w : World) (Bb : Int) (r : Bool) (h : AJ Bb = r) :
    Calls prog 68 [iV Bb].toArray w (Ret w [] fun _ v _=>v = bV r):=by
 refine Fe func68 rfl ntmps68 rfl fun a S=>?_
 unfold AJ at h
 replace S:=S.k1 0 rfl
 refine Fr (Vk S rfl rfl fun a S=>Dz (Vm S rfl rfl fun a S=>Er S (fun _=>Ei (vs:=[iV Bb,iV (-40000),iV 4000]) ⟨(S.tm rfl),rfl,rfl,trivial⟩ call65) (Gl _ Bb (-40000) 4000 _ rfl) rfl ?_));clear S;intro v1 a w1 hv1 hk1 hn1 S
 subst hv1
 refine Va S rfl rfl fun a S=>Dl (wp_ret ?_)
 subst h
 exact Fd S results68 rfl rfl
set_option maxRecDepth 20000 in
theorem HS (w : World) (Af : Nv) (r : Int × Int) (h : AK Af = some r) :
    Calls prog 28 [.agg (Nv.enc Af).toArray].toArray w (Ret w [] fun _ v _=>v = .tuple #[iV r.1,iV r.2]):=by
 refine Fe func28 rfl ntmps28 rfl fun a S=>?_
 unfold AK at h
 replace S:=S.k1 0 rfl
 refine Fr (Mk S (S.tm rfl) (cs:=(Nv.enc Af)) rfl rfl ?_);clear S;intro a w1 b1 hz1 hk1 S
 refine Vk S rfl rfl fun a S=>Vk S rfl rfl fun a S=>Dl (Fs (Fs ?_))
 obtain ⟨j1,hj1,h⟩:=Fk h
 refine Fa (fun a w'=>∃ x1 : Bool,j1 x1 = some r ∧ Sx w [] nov [.blk b1 (Nv.enc Af) 86] [(1,.pointer (some ⟨b1,0,none⟩)),(28,bV x1)] 68 a w') ?_ ?_
 ·rcases Bool.eq_false_or_eq_true (!(El Af.Year 1900 2100)) with hb1 | hb1
  ·replace h:=Rz h hb1
   rcases Bool.eq_false_or_eq_true true with hb2 | hb2
   ·replace h:=Rz h hb2
    refine Hd [] ([]) Tryz.mixed S rfl (by kernel_rfl) ?_;clear S;intro w6 hk5 hsel S
    refine Eo 0 S hsel rfl rfl rfl (by kernel_rfl) (by kernel_rfl) rfl (fun _ hw=>(Gb Zg (S.tm rfl))) fun a S=>Eo 1 S hsel rfl rfl rfl (by kernel_rfl) (by kernel_rfl) rfl (fun _ hw=>(Hw isAgg3 (off:=0) (o:=0) (S.tm rfl) ((S.blk_mem (i:=0) (cells:=(Nv.enc Af)) (b:=b1) (T:=86) rfl (Ik (e':=.blk b1 (Nv.enc Af) 86))).kept hw) rfl)) fun a S=>Hi 2 (by kernel_rfl) rfl (Er S (fun _=>Ei (vs:=[iV Af.Year,iV 1900,iV 2100]) ⟨(S.tm rfl),rfl,rfl,trivial⟩ call65) (Gl _ Af.Year 1900 2100 _ rfl) rfl ?_);clear S;intro v4 a w7 hv4 hk6 hn4 S
    subst hv4
    refine Ld (It hk6 (Kt [3,4,5,6,7,8,9,10,11,12,13,14,15,16,17,18,19,20] hsel (by kernel_rfl) rfl ?_))
    clear hsel
    refine Gv S rfl (Ig (S.tm rfl)) rfl fun a S=>Gv S rfl (Rm (S.tm rfl)) rfl ?_;clear S;intro a S
    iterate 4 (refine Qo S rfl rfl rfl rfl (Ng hb1) rfl ?_ rfl;clear S;intro a S)
    refine Gv S rfl (Qe hb1 (S.tm rfl) rfl) rfl fun a S=>Gv S rfl (Rm (S.tm rfl)) rfl ?_;clear S;intro a S
    iterate 9 (refine Qo S rfl rfl rfl rfl (Ng hb2) rfl ?_ rfl;clear S;intro a S)
    refine Gv S rfl (Qe hb2 (S.tm rfl) rfl) rfl fun a S=>Jb ?_
    replace S:=(S.nl [.blk b1 (Nv.enc Af) 86] [true] rfl).k2 1 28 rfl
    exact Tn (⟨true,h,S.nf [true] rfl (subR rfl)⟩)
   ·replace h:=Sa h hb2
    refine Hd [] ([]) Tryz.mixed S rfl (by kernel_rfl) ?_;clear S;intro w11 hk10 hsel S
    refine Eo 0 S hsel rfl rfl rfl (by kernel_rfl) (by kernel_rfl) rfl (fun _ hw=>(Gb Zg (S.tm rfl))) fun a S=>Eo 1 S hsel rfl rfl rfl (by kernel_rfl) (by kernel_rfl) rfl (fun _ hw=>(Hw isAgg3 (off:=0) (o:=0) (S.tm rfl) ((S.blk_mem (i:=0) (cells:=(Nv.enc Af)) (b:=b1) (T:=86) rfl (Ik (e':=.blk b1 (Nv.enc Af) 86))).kept hw) rfl)) fun a S=>Hi 2 (by kernel_rfl) rfl (Er S (fun _=>Ei (vs:=[iV Af.Year,iV 1900,iV 2100]) ⟨(S.tm rfl),rfl,rfl,trivial⟩ call65) (Gl _ Af.Year 1900 2100 _ rfl) rfl ?_);clear S;intro v8 a w12 hv8 hk11 hn8 S
    subst hv8
    refine Ld (It hk11 (Eo 3 S hsel rfl rfl rfl (by kernel_rfl) (by kernel_rfl) rfl (fun _ hw=>(Ig (S.tm rfl))) fun a S=>Eo 4 S hsel rfl rfl rfl (by kernel_rfl) (by kernel_rfl) rfl (fun _ hw=>(Rm (S.tm rfl))) fun a S=>NJ 5 S hsel rfl rfl rfl rfl (Ng hb1) rfl (by kernel_rfl) (by kernel_rfl) rfl fun a S=>NJ 6 S hsel rfl rfl rfl rfl (Ng hb1) rfl (by kernel_rfl) (by kernel_rfl) rfl fun a S=>NJ 7 S hsel rfl rfl rfl rfl (Ng hb1) rfl (by kernel_rfl) (by kernel_rfl) rfl fun a S=>NJ 8 S hsel rfl rfl rfl rfl (Ng hb1) rfl (by kernel_rfl) (by kernel_rfl) rfl fun a S=>Eo 9 S hsel rfl rfl rfl (by kernel_rfl) (by kernel_rfl) rfl (fun _ hw=>(Qe hb1 (S.tm rfl) rfl)) fun a S=>Eo 10 S hsel rfl rfl rfl (by kernel_rfl) (by kernel_rfl) rfl (fun _ hw=>(Rm (S.tm rfl))) fun a S=>Ey 11 S hsel rfl rfl rfl rfl hb2 rfl rfl (by kernel_rfl) (by kernel_rfl) rfl (fun _ hw=>(Gb OH (S.tm rfl))) ?_));clear S;intro a S
    refine Ey 12 S hsel rfl rfl rfl rfl hb2 rfl rfl (by kernel_rfl) (by kernel_rfl) rfl (fun _ hw=>(Hw isAgg3 (off:=0) (o:=2) (S.tm rfl) ((S.blk_mem (i:=0) (cells:=(Nv.enc Af)) (b:=b1) (T:=86) rfl (Ik (e':=.blk b1 (Nv.enc Af) 86))).kept hw) rfl)) fun a S=>Ey 13 S hsel rfl rfl rfl rfl hb2 rfl rfl (by kernel_rfl) (by kernel_rfl) rfl (fun _ hw=>(Gb Zg (S.tm rfl))) fun a S=>Ey 14 S hsel rfl rfl rfl rfl hb2 rfl rfl (by kernel_rfl) (by kernel_rfl) rfl (fun _ hw=>(Hw isAgg3 (off:=0) (o:=0) (S.tm rfl) ((S.blk_mem (i:=0) (cells:=(Nv.enc Af)) (b:=b1) (T:=86) rfl (Ik (e':=.blk b1 (Nv.enc Af) 86))).kept hw) rfl)) fun a S=>Ey 15 S hsel rfl rfl rfl rfl hb2 rfl rfl (by kernel_rfl) (by kernel_rfl) rfl (fun _ hw=>(Gb GG (S.tm rfl))) fun a S=>Ey 16 S hsel rfl rfl rfl rfl hb2 rfl rfl (by kernel_rfl) (by kernel_rfl) rfl (fun _ hw=>(Hw isAgg3 (off:=0) (o:=1) (S.tm rfl) ((S.blk_mem (i:=0) (cells:=(Nv.enc Af)) (b:=b1) (T:=86) rfl (Ik (e':=.blk b1 (Nv.enc Af) 86))).kept hw) rfl)) fun a S=>Hi 17 (by kernel_rfl) rfl (Em S rfl rfl rfl hb2 (Er S (fun _=>Ei (vs:=[iV Af.Year,iV Af.Month]) ⟨(S.tm rfl),(S.tm rfl),trivial⟩ call66) (Yz _ Af.Year Af.Month _ rfl) rfl ?_));clear S;intro v9 a w13 hv9 hk12 hn9 S
    subst hv9
    refine Ld (It hk12 (Hi 18 (by kernel_rfl) rfl (Em S rfl rfl rfl hb2 (Er S (fun _=>Ei (vs:=[iV Af.Day,iV 1,iV (Ov Af.Year Af.Month)]) ⟨(S.tm rfl),rfl,(S.tm rfl),trivial⟩ call65) (Gl _ Af.Day 1 (Ov Af.Year Af.Month) _ rfl) rfl ?_))));clear S;intro v10 a w14 hv10 hk13 hn10 S
    subst hv10
    refine Ld (It hk13 (Kt [19,20] hsel (by kernel_rfl) rfl ?_))
    clear hsel
    refine Fx S rfl rfl rfl rfl hb2 (He S (Ig (S.tm rfl)) rfl fun a S=>Gv S rfl (Qf hb2 (S.tm rfl) (S.tm rfl)) rfl fun a S=>Jb ?_)
    replace S:=(S.nl [.blk b1 (Nv.enc Af) 86] [true] rfl).k2 1 28 rfl
    exact Tn (⟨!(El Af.Day 1 (Ov Af.Year Af.Month)),h,S.nf [true] rfl (subR rfl)⟩)
  ·replace h:=Sa h hb1
   rcases Bool.eq_false_or_eq_true (!(El Af.Month 1 12)) with hb3 | hb3
   ·replace h:=Rz h hb3
    refine Hd [] ([]) Tryz.mixed S rfl (by kernel_rfl) ?_;clear S;intro w19 hk18 hsel S
    refine Eo 0 S hsel rfl rfl rfl (by kernel_rfl) (by kernel_rfl) rfl (fun _ hw=>(Gb Zg (S.tm rfl))) fun a S=>Eo 1 S hsel rfl rfl rfl (by kernel_rfl) (by kernel_rfl) rfl (fun _ hw=>(Hw isAgg3 (off:=0) (o:=0) (S.tm rfl) ((S.blk_mem (i:=0) (cells:=(Nv.enc Af)) (b:=b1) (T:=86) rfl (Ik (e':=.blk b1 (Nv.enc Af) 86))).kept hw) rfl)) fun a S=>Hi 2 (by kernel_rfl) rfl (Er S (fun _=>Ei (vs:=[iV Af.Year,iV 1900,iV 2100]) ⟨(S.tm rfl),rfl,rfl,trivial⟩ call65) (Gl _ Af.Year 1900 2100 _ rfl) rfl ?_);clear S;intro v15 a w20 hv15 hk19 hn15 S
    subst hv15
    refine Ld (It hk19 (Eo 3 S hsel rfl rfl rfl (by kernel_rfl) (by kernel_rfl) rfl (fun _ hw=>(Ig (S.tm rfl))) fun a S=>Eo 4 S hsel rfl rfl rfl (by kernel_rfl) (by kernel_rfl) rfl (fun _ hw=>(Rm (S.tm rfl))) fun a S=>Ey 5 S hsel rfl rfl rfl rfl hb1 rfl rfl (by kernel_rfl) (by kernel_rfl) rfl (fun _ hw=>(Gb GG (S.tm rfl))) fun a S=>Ey 6 S hsel rfl rfl rfl rfl hb1 rfl rfl (by kernel_rfl) (by kernel_rfl) rfl (fun _ hw=>(Hw isAgg3 (off:=0) (o:=1) (S.tm rfl) ((S.blk_mem (i:=0) (cells:=(Nv.enc Af)) (b:=b1) (T:=86) rfl (Ik (e':=.blk b1 (Nv.enc Af) 86))).kept hw) rfl)) fun a S=>Hi 7 (by kernel_rfl) rfl (Em S rfl rfl rfl hb1 (Er S (fun _=>Ei (vs:=[iV Af.Month,iV 1,iV 12]) ⟨(S.tm rfl),rfl,rfl,trivial⟩ call65) (Gl _ Af.Month 1 12 _ rfl) rfl ?_))));clear S;intro v16 a w21 hv16 hk20 hn16 S
    subst hv16
    refine Ld (It hk20 (Kt [8,9,10,11,12,13,14,15,16,17,18,19,20] hsel (by kernel_rfl) rfl ?_))
    clear hsel
    refine Fx S rfl rfl rfl rfl hb1 (He S (Ig (S.tm rfl)) rfl fun a S=>Gv S rfl (Qf hb1 (S.tm rfl) (S.tm rfl)) rfl fun a S=>Gv S rfl (Rm (S.tm rfl)) rfl ?_);clear S;intro a S
    iterate 9 (refine Qo S rfl rfl rfl rfl (Ng hb3) rfl ?_ rfl;clear S;intro a S)
    refine Gv S rfl (Qe hb3 (S.tm rfl) rfl) rfl fun a S=>Jb ?_
    replace S:=(S.nl [.blk b1 (Nv.enc Af) 86] [true] rfl).k2 1 28 rfl
    exact Tn (⟨true,h,S.nf [true] rfl (subR rfl)⟩)
   ·replace h:=Sa h hb3
    refine Hd [] ([]) Tryz.mixed S rfl (by kernel_rfl) ?_;clear S;intro w26 hk25 hsel S
    refine Eo 0 S hsel rfl rfl rfl (by kernel_rfl) (by kernel_rfl) rfl (fun _ hw=>(Gb Zg (S.tm rfl))) fun a S=>Eo 1 S hsel rfl rfl rfl (by kernel_rfl) (by kernel_rfl) rfl (fun _ hw=>(Hw isAgg3 (off:=0) (o:=0) (S.tm rfl) ((S.blk_mem (i:=0) (cells:=(Nv.enc Af)) (b:=b1) (T:=86) rfl (Ik (e':=.blk b1 (Nv.enc Af) 86))).kept hw) rfl)) fun a S=>Hi 2 (by kernel_rfl) rfl (Er S (fun _=>Ei (vs:=[iV Af.Year,iV 1900,iV 2100]) ⟨(S.tm rfl),rfl,rfl,trivial⟩ call65) (Gl _ Af.Year 1900 2100 _ rfl) rfl ?_);clear S;intro v21 a w27 hv21 hk26 hn21 S
    subst hv21
    refine Ld (It hk26 (Eo 3 S hsel rfl rfl rfl (by kernel_rfl) (by kernel_rfl) rfl (fun _ hw=>(Ig (S.tm rfl))) fun a S=>Eo 4 S hsel rfl rfl rfl (by kernel_rfl) (by kernel_rfl) rfl (fun _ hw=>(Rm (S.tm rfl))) fun a S=>Ey 5 S hsel rfl rfl rfl rfl hb1 rfl rfl (by kernel_rfl) (by kernel_rfl) rfl (fun _ hw=>(Gb GG (S.tm rfl))) fun a S=>Ey 6 S hsel rfl rfl rfl rfl hb1 rfl rfl (by kernel_rfl) (by kernel_rfl) rfl (fun _ hw=>(Hw isAgg3 (off:=0) (o:=1) (S.tm rfl) ((S.blk_mem (i:=0) (cells:=(Nv.enc Af)) (b:=b1) (T:=86) rfl (Ik (e':=.blk b1 (Nv.enc Af) 86))).kept hw) rfl)) fun a S=>Hi 7 (by kernel_rfl) rfl (Em S rfl rfl rfl hb1 (Er S (fun _=>Ei (vs:=[iV Af.Month,iV 1,iV 12]) ⟨(S.tm rfl),rfl,rfl,trivial⟩ call65) (Gl _ Af.Month 1 12 _ rfl) rfl ?_))));clear S;intro v22 a w28 hv22 hk27 hn22 S
    subst hv22
    refine Ld (It hk27 (Ey 8 S hsel rfl rfl rfl rfl hb1 rfl rfl (by kernel_rfl) (by kernel_rfl) rfl (fun _ hw=>(Ig (S.tm rfl))) fun a S=>Eo 9 S hsel rfl rfl rfl (by kernel_rfl) (by kernel_rfl) rfl (fun _ hw=>(Qf hb1 (S.tm rfl) (S.tm rfl))) fun a S=>Eo 10 S hsel rfl rfl rfl (by kernel_rfl) (by kernel_rfl) rfl (fun _ hw=>(Rm (S.tm rfl))) fun a S=>Ey 11 S hsel rfl rfl rfl rfl hb3 rfl rfl (by kernel_rfl) (by kernel_rfl) rfl (fun _ hw=>(Gb OH (S.tm rfl))) fun a S=>Ey 12 S hsel rfl rfl rfl rfl hb3 rfl rfl (by kernel_rfl) (by kernel_rfl) rfl (fun _ hw=>(Hw isAgg3 (off:=0) (o:=2) (S.tm rfl) ((S.blk_mem (i:=0) (cells:=(Nv.enc Af)) (b:=b1) (T:=86) rfl (Ik (e':=.blk b1 (Nv.enc Af) 86))).kept hw) rfl)) fun a S=>Ey 13 S hsel rfl rfl rfl rfl hb3 rfl rfl (by kernel_rfl) (by kernel_rfl) rfl (fun _ hw=>(Gb Zg (S.tm rfl))) fun a S=>Ey 14 S hsel rfl rfl rfl rfl hb3 rfl rfl (by kernel_rfl) (by kernel_rfl) rfl (fun _ hw=>(Hw isAgg3 (off:=0) (o:=0) (S.tm rfl) ((S.blk_mem (i:=0) (cells:=(Nv.enc Af)) (b:=b1) (T:=86) rfl (Ik (e':=.blk b1 (Nv.enc Af) 86))).kept hw) rfl)) fun a S=>Ey 15 S hsel rfl rfl rfl rfl hb3 rfl rfl (by kernel_rfl) (by kernel_rfl) rfl (fun _ hw=>(Gb GG (S.tm rfl))) fun a S=>Ey 16 S hsel rfl rfl rfl rfl hb3 rfl rfl (by kernel_rfl) (by kernel_rfl) rfl (fun _ hw=>(Hw isAgg3 (off:=0) (o:=1) (S.tm rfl) ((S.blk_mem (i:=0) (cells:=(Nv.enc Af)) (b:=b1) (T:=86) rfl (Ik (e':=.blk b1 (Nv.enc Af) 86))).kept hw) rfl)) ?_));clear S;intro a S
    refine Hi 17 (by kernel_rfl) rfl (Em S rfl rfl rfl hb3 (Er S (fun _=>Ei (vs:=[iV Af.Year,iV Af.Month]) ⟨(S.tm rfl),(S.tm rfl),trivial⟩ call66) (Yz _ Af.Year Af.Month _ rfl) rfl ?_));clear S;intro v23 a w29 hv23 hk28 hn23 S
    subst hv23
    refine Ld (It hk28 (Hi 18 (by kernel_rfl) rfl (Em S rfl rfl rfl hb3 (Er S (fun _=>Ei (vs:=[iV Af.Day,iV 1,iV (Ov Af.Year Af.Month)]) ⟨(S.tm rfl),rfl,(S.tm rfl),trivial⟩ call65) (Gl _ Af.Day 1 (Ov Af.Year Af.Month) _ rfl) rfl ?_))));clear S;intro v24 a w30 hv24 hk29 hn24 S
    subst hv24
    refine Ld (It hk29 (Kt [19,20] hsel (by kernel_rfl) rfl ?_))
    clear hsel
    refine Fx S rfl rfl rfl rfl hb3 (He S (Ig (S.tm rfl)) rfl fun a S=>Gv S rfl (Qf hb3 (S.tm rfl) (S.tm rfl)) rfl fun a S=>Jb ?_)
    replace S:=(S.nl [.blk b1 (Nv.enc Af) 86] [true] rfl).k2 1 28 rfl
    exact Tn (⟨!(El Af.Day 1 (Ov Af.Year Af.Month)),h,S.nf [true] rfl (subR rfl)⟩)
 clear S h;rintro a w2 ⟨x1,h,S⟩;rw [hj1] at h;clear hj1 j1
 refine Tn (Fc h (S.tm rfl) (fun hb4 h=>?_) (fun hb4 h=>?_))
 ·refine Fr (Vk S rfl rfl fun a S=>Vk S rfl rfl fun a S=>Dl (wp_ret (Ek ?_)))
  obtain rfl:=Option.some.inj h
  exact Nz S results28 rfl rfl rfl
 ·refine wp_skip (Tn (Fr (Vf OH S rfl rfl fun a S=>Vl isAgg3 0 S rfl rfl rfl rfl fun a S=>Vq S Jt rfl rfl rfl fun a S=>Va S rfl rfl fun a S=>Dl (Fs ?_))))
  refine Fr (Vk S rfl rfl fun a S=>Dl ?_)
  replace S:=S.k3 1 4 5 rfl
  obtain ⟨j2,hj2,h⟩:=Fk h
  refine Fa (fun a w'=>∃ x2 : Int,j2 x2 = some r ∧ Sx w [] nov [.blk b1 (Nv.enc Af) 86] [(1,.pointer (some ⟨b1,0,none⟩)),(4,iV x2)] 68 a w') ?_ ?_
  ·refine wp_block (Hs (fun (m1 : Nat) a w'=>∃ x2 : Int,∃ x3 : Int,Ph Af j2 m1 x2 x3 = some r ∧ Sx w [] nov [.blk b1 (Nv.enc Af) 86] [(1,.pointer (some ⟨b1,0,none⟩)),(4,iV x2),(5,iV x3)] 68 a w') id ((Af.Month - 1).toNat + 2) ⟨W (Af.Day - 1),1,h,S.nf [true] rfl (subR rfl)⟩ ?_)
   clear S h;rintro m1 a w31 ⟨x2,x3,h,S⟩
   cases m1 with
   | zero=>rw [Ph.eq_1] at h;cases h
   | succ m1 =>
    rw [Ph.eq_2] at h
    refine Fs (Fr (Vm S rfl rfl fun a S=>Vf GG S rfl rfl fun a S=>Vl isAgg3 0 S rfl rfl rfl rfl fun a S=>Vb S Fp rfl rfl rfl fun a S=>Dl (Fc h (S.tm rfl) (fun hb5 h=>?_) (fun hb5 h=>?_))))
    ·refine wp_skip (Tn (Fs (wp_block (Fg (Vm S rfl rfl fun a S=>Vf Zg S rfl rfl fun a S=>Vl isAgg3 0 S rfl rfl rfl rfl fun a S=>Vm S rfl rfl fun a S=>Er S (fun _=>Ei (vs:=[iV Af.Year,iV x3]) ⟨(S.tm rfl),(S.tm rfl),trivial⟩ call66) (Yz _ Af.Year x3 _ rfl) rfl ?_)))));clear S;intro v25 a w33 hv25 hk30 hn25 S
     subst hv25
     refine Vb S Gw rfl rfl rfl fun a S=>Va S rfl rfl fun a S=>Ld (Im (Tn (Fg (Vm S rfl rfl fun a S=>Vq S Gw rfl rfl rfl fun a S=>Va S rfl rfl fun a S=>Ld ?_))))
     replace S:=S.k3 1 4 5 rfl
     exact Tn (⟨m1,⟨W (x2 + (Ov Af.Year x3)),W (x3 + 1),h,S.nf [true] rfl ⟨rfl,rfl,rfl,trivial⟩⟩,Nat.lt_succ_self _⟩)
    ·exact wp_exit (Ew (Ew (Hl (Tn (⟨x2,h,S.nf [true] rfl (subR rfl)⟩)))))
  clear S h;rintro a w32 ⟨x2,h,S⟩;rw [hj2] at h;clear hj2 j2
  refine Tn (Fs (Fr (Vk S rfl rfl fun a S=>Dl ?_)))
  replace S:=S.k3 1 4 6 rfl
  obtain ⟨j3,hj3,h⟩:=Fk h
  refine Fa (fun a w'=>∃ x4 : Int,j3 x4 = some r ∧ Sx w [] nov [.blk b1 (Nv.enc Af) 86] [(1,.pointer (some ⟨b1,0,none⟩)),(4,iV x4)] 68 a w') ?_ ?_
  ·refine wp_block (Hs (fun (m2 : Nat) a w'=>∃ x4 : Int,∃ x5 : Int,Pi Af j3 m2 x4 x5 = some r ∧ Sx w [] nov [.blk b1 (Nv.enc Af) 86] [(1,.pointer (some ⟨b1,0,none⟩)),(4,iV x4),(6,iV x5)] 68 a w') id ((Af.Year - 2024).toNat + 2) ⟨x2,2024,h,S.nf [true] rfl (subR rfl)⟩ ?_)
   clear S h;rintro m2 a w34 ⟨x4,x5,h,S⟩
   cases m2 with
   | zero=>rw [Pi.eq_1] at h;cases h
   | succ m2 =>
    rw [Pi.eq_2] at h
    refine Fs (Fr (Vm S rfl rfl fun a S=>Vf Zg S rfl rfl fun a S=>Vl isAgg3 0 S rfl rfl rfl rfl fun a S=>Vb S Fp rfl rfl rfl fun a S=>Dl (Fc h (S.tm rfl) (fun hb6 h=>?_) (fun hb6 h=>?_))))
    ·refine wp_skip (Tn (Fs (wp_block (Fg (Vm S rfl rfl fun a S=>Vm S rfl rfl fun a S=>Er S (fun _=>Ei (vs:=[iV x5]) ⟨(S.tm rfl),trivial⟩ call67) (Za _ x5 _ rfl) rfl ?_)))));clear S;intro v26 a w36 hv26 hk31 hn26 S
     subst hv26
     refine Vb S Gw rfl rfl rfl fun a S=>Va S rfl rfl fun a S=>Ld (Im (Tn (Fg (Vm S rfl rfl fun a S=>Vq S Gw rfl rfl rfl fun a S=>Va S rfl rfl fun a S=>Dl ?_))))
     exact ⟨m2,⟨W (x4 + (Rp x5)),W (x5 + 1),h,S.nf [true] rfl ⟨rfl,rfl,rfl,trivial⟩⟩,Nat.lt_succ_self _⟩
    ·exact wp_exit (Ew (Ew (Hl (Tn (⟨x4,h,S.nf [true] rfl (subR rfl)⟩)))))
  clear S h;rintro a w35 ⟨x4,h,S⟩;rw [hj3] at h;clear hj3 j3
  refine Tn (Fs (Fr (Vf Zg S rfl rfl fun a S=>Vl isAgg3 0 S rfl rfl rfl rfl fun a S=>Va S rfl rfl fun a S=>Dl ?_)))
  replace S:=S.n0.k2 4 7 rfl
  obtain ⟨j4,hj4,h⟩:=Fk h
  refine Fa (fun a w'=>∃ x6 : Int,j4 x6 = some r ∧ Sx w [] nov [] [(4,iV x6)] 68 a w') ?_ ?_
  ·refine wp_block (Hs (fun (m3 : Nat) a w'=>∃ x6 : Int,∃ x7 : Int,Pj j4 m3 x6 x7 = some r ∧ Sx w [] nov [] [(4,iV x6),(7,iV x7)] 68 a w') id ((2024 - Af.Year).toNat + 2) ⟨x4,Af.Year,h,S.nf [] rfl (subR rfl)⟩ ?_)
   clear S h;rintro m3 a w37 ⟨x6,x7,h,S⟩
   cases m3 with
   | zero=>rw [Pj.eq_1] at h;cases h
   | succ m3 =>
    rw [Pj.eq_2] at h
    refine Fs (Fr (Vm S rfl rfl fun a S=>Vq S Fp rfl rfl rfl fun a S=>Dl (Fc h (S.tm rfl) (fun hb7 h=>?_) (fun hb7 h=>?_))))
    ·refine wp_skip (Tn (Fs (wp_block (Fg (Vm S rfl rfl fun a S=>Vm S rfl rfl fun a S=>Er S (fun _=>Ei (vs:=[iV x7]) ⟨(S.tm rfl),trivial⟩ call67) (Za _ x7 _ rfl) rfl ?_)))));clear S;intro v27 a w39 hv27 hk32 hn27 S
     subst hv27
     refine Vb S Jt rfl rfl rfl fun a S=>Va S rfl rfl fun a S=>Ld (Im (Tn (Fg (Vm S rfl rfl fun a S=>Vq S Gw rfl rfl rfl fun a S=>Va S rfl rfl fun a S=>Dl ?_))))
     exact ⟨m3,⟨W (x6 - (Rp x7)),W (x7 + 1),h,S.nf [] rfl ⟨rfl,rfl,trivial⟩⟩,Nat.lt_succ_self _⟩
    ·exact wp_exit (Ew (Ew (Hl (Tn (⟨x6,h,S.nf [] rfl ⟨rfl,trivial⟩⟩)))))
  clear S h;rintro a w38 ⟨x6,h,S⟩;rw [hj4] at h;clear hj4 j4
  refine Tn (Fs (Fr (Vm S rfl rfl fun a S=>Er S (fun _=>Ei (vs:=[iV x6]) ⟨(S.tm rfl),trivial⟩ call68) (HR _ x6 _ rfl) rfl ?_)));clear S;intro v28 a w40 hv28 hk33 hn28 S
  subst hv28
  refine Vu S Ig rfl rfl fun a S=>Dl (Fc h (S.tm rfl) (fun hb8 h=>?_) (fun hb8 h=>?_))
  ·refine Fr (Vk S rfl rfl fun a S=>Vk S rfl rfl fun a S=>Dl (wp_ret (Ek ?_)))
   obtain rfl:=Option.some.inj h
   exact Nz S results28 rfl rfl rfl
  ·refine wp_skip (Tn (Fr (Vm S rfl rfl fun a S=>Va S rfl rfl fun a S=>Vk S rfl rfl fun a S=>Dl (wp_ret ?_))))
   obtain rfl:=Option.some.inj h
   exact Nz S results28 rfl rfl rfl
theorem CO (w : World) (Ab : Value) (Ad : List Oy) (Ae : Slc (view w []) 5 Ab (Ad.map Oy.enc)) (r : Int) (h : Xb Ad = some r) :
    Calls prog 105 [Ab].toArray w (Ret w [] fun _ v _=>v = iV r):=by
 refine Fe func105 rfl ntmps105 rfl fun a S=>?_
 unfold Xb at h
 replace S:=S.k1 0 rfl
 refine Fr (Vk S rfl rfl fun a S=>Dl (Fs (Fr (Vm S rfl rfl fun a S=>lv S (Gn PO (S.tm rfl) (Gk Ae)) rfl fun a S=>Vq S Jz rfl rfl rfl ?_))));clear S;intro a S
 refine Dl (Fc h (S.tm rfl) (fun hb1 h=>?_) (fun hb1 h=>?_))
 ·refine Fr (Vk S rfl rfl fun a S=>Dl (wp_ret (Ek ?_)))
  obtain rfl:=Option.some.inj h
  exact Fd S results105 rfl rfl
 ·refine wp_skip (Tn (Fr (Sf (κ:=ByteArray) (ν:=Bool) S rfl Value.string Value.bool ?_)));clear S;intro a w1 b1 hz1 hk1 S
  refine Va S rfl rfl fun a S=>Dl (Fs (Fr (Vm S rfl rfl fun a S=>lv S (Gn PO (S.tm rfl) (Gk Ae)) rfl fun a S=>lv S (Rm rfl) rfl fun a S=>Dl ?_)))
  replace S:=(S.nl [.map b1 (Gx Value.string Value.bool ([] : List (ByteArray × Bool))) ([] : List (ByteArray × Bool)).length] [true] rfl).k4 3 10 11 12 rfl
  obtain ⟨j1,hj1,h⟩:=Fk h
  refine Fa (fun a w'=>∃ x1 : List (ByteArray × Bool),j1 x1 = some r ∧ Sx w [] nov [.map b1 (Gx Value.string Value.bool x1) x1.length] [] 53 a w') ?_ ?_
  ·refine wp_block (Hs (fun (ys1 : List Oy) a w'=>∃ i1 : Nat,∃ x1 : List (ByteArray × Bool),(∃ dn,Ad = dn ++ ys1 ∧ dn.length = i1) ∧ Mf j1 ys1 i1 x1 = some r ∧ Sx w [] nov [.map b1 (Gx Value.string Value.bool x1) x1.length] [(3,.map (some b1)),(10,Ab),(11,iV (Ad.length : Int)),(12,iV (i1 : Int))] 53 a w') List.length Ad ⟨0,([] : List (ByteArray × Bool)),⟨[],rfl,rfl⟩,h,S.nf [true] rfl (subR rfl)⟩ ?_)
   clear S h;rintro ys1 a w2 ⟨i1,x1,⟨dn,hd1,hi1⟩,h,S⟩
   cases ys1 with
   | nil =>
    rw [Mf.eq_1] at h
    refine Fr (Vb S Fp rfl rfl rfl fun a S=>Ld ?_)
    replace S:=S.k5 3 10 11 12 13 rfl
    exact Tn (Fs (wp_cond_false ((S.tm rfl).trans (congrArg Value.bool (Jq hd1 hi1))) (wp_exit (Ew (Ew (Hl (Tn (⟨x1,h,S.nf [true] rfl trivial⟩))))))))
   | cons y1 ys1 =>
    rw [Mf.eq_2] at h
    refine Fr (Vb S Fp rfl rfl rfl fun a S=>Ld ?_)
    replace S:=S.k5 3 10 11 12 13 rfl
    refine Tn (Fs (wp_cond_true ((S.tm rfl).trans (congrArg Value.bool (Iv hd1 hi1))) (wp_skip (Tn (Fs (wp_block (Fs (Fg ?_))))))))
    obtain ⟨b2,o1,hm1,hr1⟩:=Fv (a:=a) (x:=.tmp 10) (y:=.tmp 12) (ty:=0) PO Ae (Js hd1 hi1) rfl (S.tm rfl) (S.tm rfl)
    refine lv S (hr1 _) rfl ?_;clear S;intro a S
    clear hr1
    refine lv S (Gh isAgg89 sizeOf89 (off:=o1) (o:=0) (part:=(Oy.enc y1)) rfl rfl (S.tm rfl) (hm1.at S.emb0)) rfl fun a S=>Iz S zeroValue89 (cs:=[sV An,iV 0,iV 0,iV 0,iV 0]) rfl rfl ?_;clear S;intro a w4 b3 hz2 hk2 S
    refine Ft S (S.tm rfl) (S.tm rfl) (i:=0) (off:=0) rfl sizeOf89 (vs:=(Oy.enc y1)) rfl rfl rfl rfl ?_;clear S;intro w5 hk3 S
    refine Dl (Fs (wp_block (Fr (Vf JH S rfl rfl fun a S=>Vl isAgg9 0 S rfl rfl rfl rfl ?_))));clear S;intro a S
    obtain ⟨r1,hr2,h⟩:=Ga h
    refine Er S (fun _=>Ei (vs:=[sV y1.Key]) ⟨(S.tm rfl),trivial⟩ call107) (Jp _ y1.Key _ hr2) rfl ?_;clear S;intro v1 a w6 hv1 hk4 hn1 S
    subst hv1
    refine Vu S Ig rfl rfl fun a S=>Va S rfl rfl fun a S=>Dl (Fc h (S.tm rfl) (fun hb2 h=>?_) (fun hb2 h=>?_))
    ·refine Fr (Vk S rfl rfl fun a S=>Dl (wp_ret (Gg (Ek (Gg (Ek (Ek ?_)))))))
     refine Gg (Ek (Ek ?_))
     obtain rfl:=Option.some.inj h
     exact Fd S results105 rfl rfl
    ·refine Fr (Vm S rfl rfl fun a S=>Vf JH S rfl rfl fun a S=>Vl isAgg9 0 S rfl rfl rfl rfl fun a S=>lv S (Qu (kv:=Value.string) (vv:=Value.bool) (m:=x1) (key:=y1.Key) (z:=false) (S.map_at (i:=1) rfl) underlying228 (Nu underlying9) zeroValue4 (S.tm rfl) (S.tm rfl)) rfl fun a S=>Va S rfl rfl fun a S=>Ld ?_)
     replace S:=(S.nl [.blk b3 (Oy.enc y1) 89,.map b1 (Gx Value.string Value.bool x1) x1.length] [true,true] rfl).k6 3 5 10 11 12 21 rfl
     refine Tn (Fc h (S.tm rfl) (fun hb3 h=>?_) (fun hb3 h=>?_))
     ·refine Fr (Vk S rfl rfl fun a S=>Dl (wp_ret (Gg (Ek (Gg (Ek (Ek ?_)))))))
      refine Gg (Ek (Ek ?_))
      obtain rfl:=Option.some.inj h
      exact Fd S results105 rfl rfl
     ·refine Fr (Vf OI S rfl rfl fun a S=>Vl isAgg3 0 S rfl rfl rfl rfl fun a S=>Er S (fun _=>Ei (vs:=[iV y1.Heats,iV 1,iV 60]) ⟨(S.tm rfl),rfl,rfl,trivial⟩ call65) (Gl _ y1.Heats 1 60 _ rfl) rfl ?_);clear S;intro v2 a w7 hv2 hk5 hn2 S
      subst hv2
      refine Vu S Ig rfl rfl fun a S=>Vm S rfl rfl fun a S=>Io 5 (fun a w'=>Keep [] w7 w' ∧ Sx w [] nov [.blk b3 (Oy.enc y1) 89,.map b1 (Gx Value.string Value.bool x1) x1.length] [(3,.map (some b1)),(5,.pointer (some ⟨b3,0,none⟩)),(10,Ab),(11,iV (Ad.length : Int)),(12,iV (i1 : Int)),(36,bV ((!(El y1.Heats 1 60)) || (!(El y1.Long 1 3600000))))] 53 a w') ?_ ?_
      ·rcases Bool.eq_false_or_eq_true (!(El y1.Heats 1 60)) with hb4 | hb4
       ·iterate 4 (refine Hk S rfl rfl rfl (Ng hb4) rfl ?_ rfl;clear S;intro a S)
        exact lv S (Lk (!(El y1.Long 1 3600000)) hb4 (S.tm rfl) rfl) rfl fun a S=>Dl (⟨Keep.refl _ _,S.nf [true,true] rfl (subR rfl)⟩)
       ·refine Em S rfl rfl rfl hb4 (Vf OJ S rfl rfl fun a S=>Em S rfl rfl rfl hb4 (Vl isAgg3 0 S rfl rfl rfl rfl fun a S=>Em S rfl rfl rfl hb4 (Er S (fun _=>Ei (vs:=[iV y1.Long,iV 1,iV 3600000]) ⟨(S.tm rfl),rfl,rfl,trivial⟩ call65) (Gl _ y1.Long 1 3600000 _ rfl) rfl ?_)));clear S;intro v3 a w9 hv3 hk6 hn3 S
        subst hv3
        exact Em S rfl rfl rfl hb4 (Vu S Ig rfl rfl fun a S=>lv S (Ll hb4 (S.tm rfl) (S.tm rfl)) rfl fun a S=>Dl (⟨hk6,S.nf [true,true] rfl (subR rfl)⟩))
      clear S;rintro a w8 ⟨hk7,S⟩
      refine Vm S rfl rfl fun a S=>Io 5 (fun a w'=>Keep [] w8 w' ∧ Sx w [] nov [.blk b3 (Oy.enc y1) 89,.map b1 (Gx Value.string Value.bool x1) x1.length] [(3,.map (some b1)),(5,.pointer (some ⟨b3,0,none⟩)),(10,Ab),(11,iV (Ad.length : Int)),(12,iV (i1 : Int)),(42,bV (((!(El y1.Heats 1 60)) || (!(El y1.Long 1 3600000))) || (!(El y1.Gap 0 3600000))))] 53 a w') ?_ ?_
      ·rcases Bool.eq_false_or_eq_true ((!(El y1.Heats 1 60)) || (!(El y1.Long 1 3600000))) with hb5 | hb5
       ·iterate 4 (refine Hk S rfl rfl rfl (Ng hb5) rfl ?_ rfl;clear S;intro a S)
        exact lv S (Lk (!(El y1.Gap 0 3600000)) hb5 (S.tm rfl) rfl) rfl fun a S=>Dl (⟨Keep.refl _ _,S.nf [true,true] rfl (subR rfl)⟩)
       ·refine Em S rfl rfl rfl hb5 (Vf TH S rfl rfl fun a S=>Em S rfl rfl rfl hb5 (Vl isAgg3 0 S rfl rfl rfl rfl fun a S=>Em S rfl rfl rfl hb5 (Er S (fun _=>Ei (vs:=[iV y1.Gap,iV 0,iV 3600000]) ⟨(S.tm rfl),rfl,rfl,trivial⟩ call65) (Gl _ y1.Gap 0 3600000 _ rfl) rfl ?_)));clear S;intro v4 a w11 hv4 hk8 hn4 S
        subst hv4
        exact Em S rfl rfl rfl hb5 (Vu S Ig rfl rfl fun a S=>lv S (Ll hb5 (S.tm rfl) (S.tm rfl)) rfl fun a S=>Dl (⟨hk8,S.nf [true,true] rfl (subR rfl)⟩))
      clear S;rintro a w10 ⟨hk9,S⟩
      refine Vm S rfl rfl fun a S=>Io 5 (fun a w'=>Keep [] w10 w' ∧ Sx w [] nov [.blk b3 (Oy.enc y1) 89,.map b1 (Gx Value.string Value.bool x1) x1.length] [(3,.map (some b1)),(5,.pointer (some ⟨b3,0,none⟩)),(10,Ab),(11,iV (Ad.length : Int)),(12,iV (i1 : Int)),(48,bV ((((!(El y1.Heats 1 60)) || (!(El y1.Long 1 3600000))) || (!(El y1.Gap 0 3600000))) || (!(El y1.Break 0 3600000))))] 53 a w') ?_ ?_
      ·rcases Bool.eq_false_or_eq_true (((!(El y1.Heats 1 60)) || (!(El y1.Long 1 3600000))) || (!(El y1.Gap 0 3600000))) with hb6 | hb6
       ·iterate 4 (refine Hk S rfl rfl rfl (Ng hb6) rfl ?_ rfl;clear S;intro a S)
        exact lv S (Lk (!(El y1.Break 0 3600000)) hb6 (S.tm rfl) rfl) rfl fun a S=>Dl (⟨Keep.refl _ _,S.nf [true,true] rfl (subR rfl)⟩)
       ·refine Em S rfl rfl rfl hb6 (Vf TI S rfl rfl fun a S=>Em S rfl rfl rfl hb6 (Vl isAgg3 0 S rfl rfl rfl rfl fun a S=>Em S rfl rfl rfl hb6 (Er S (fun _=>Ei (vs:=[iV y1.Break,iV 0,iV 3600000]) ⟨(S.tm rfl),rfl,rfl,trivial⟩ call65) (Gl _ y1.Break 0 3600000 _ rfl) rfl ?_)));clear S;intro v5 a w13 hv5 hk10 hn5 S
        subst hv5
        exact Em S rfl rfl rfl hb6 (Vu S Ig rfl rfl fun a S=>lv S (Ll hb6 (S.tm rfl) (S.tm rfl)) rfl fun a S=>Dl (⟨hk10,S.nf [true,true] rfl (subR rfl)⟩))
      clear S;rintro a w12 ⟨hk11,S⟩
      refine Va S rfl rfl fun a S=>Dl (Fc h (S.tm rfl) (fun hb7 h=>?_) (fun hb7 h=>?_))
      ·refine Fr (Vk S rfl rfl fun a S=>Dl (wp_ret (Gg (Ek (Gg (Ek (Ek ?_)))))))
       refine Gg (Ek (Ek ?_))
       obtain rfl:=Option.some.inj h
       exact Fd S results105 rfl rfl
      ·refine wp_skip (Im (Tn (Fg (Vm S rfl rfl fun a S=>Vf JH S rfl rfl fun a S=>Vl isAgg9 0 S rfl rfl rfl rfl fun a S=>Qa (kv:=Value.string) (vv:=Value.bool) (m:=x1) (key:=y1.Key) (val:=true) S (i:=1) rfl underlying228 (Nu underlying9) (S.tm rfl) (S.tm rfl) rfl ?_))));clear S;intro w14 hk12 S
       exact Ld (Im (Tn (Fg (Vq S Gw rfl rfl rfl fun a S=>Vm S rfl rfl fun a S=>Dl (⟨ys1,⟨i1 + 1,(Hj x1 y1.Key true),⟨_,(hd1).trans (List.append_cons _ _ _),by simp [hi1]⟩,h,S.nf [false,true] rfl ⟨rfl,rfl,rfl,(congrArg (fun z=>some (Value.int .i64 z)) (Iw hd1 hi1 (Kh Ae))),trivial⟩⟩,Nat.lt_succ_self _⟩)))))
  clear S h;rintro a w3 ⟨x1,h,S⟩;rw [hj1] at h;clear hj1 j1
  refine Tn (Fr (Vk S rfl rfl fun a S=>Dl (wp_ret ?_)))
  obtain rfl:=Option.some.inj h
  exact Fd S results105 rfl rfl
theorem DR (w : World) (Ab : Value) (Ad : List Oy) (Ae : Slc (view w []) 5 Ab (Ad.map Oy.enc)) (Bl : Int) (r : (List Lx)) (h : Xs Ad Bl = some r) :
    Calls prog 135 [Ab,iV Bl].toArray w (Ret w [] fun τ v _=>Ve τ 201 4 v r.length (r.flatMap Lx.enc)):=by
 refine Fe func135 rfl ntmps135 rfl fun a S=>?_
 unfold Xs at h
 replace S:=S.k2 0 1 rfl
 refine Fr (Vk S rfl rfl fun a S=>Dz (Vk S rfl rfl ?_));clear S;intro a S
 replace S:=S.nil 201 4
 refine Dz (Vm S rfl rfl fun a S=>Va S rfl rfl fun a S=>Dl (Fs (Fs (Fg ?_))))
 refine Vm S rfl rfl fun a S=>lv S (Gn PO (S.tm rfl) (Gk Ae)) rfl fun a S=>lv S (Rm rfl) rfl fun a S=>Dl ?_
 replace S:=(S.nl [.own (.slice none 0 0) 201 4 ([] : List Lx).length (([] : List Lx).flatMap Lx.enc)] [true] rfl).k5 5 6 11 12 13 rfl
 obtain ⟨j1,hj1,h⟩:=Fk h
 refine Fa (fun a w'=>∃ x1 : List Lx,∃ v1 : Value,j1 x1 = some r ∧ Sx w [] nov [.own v1 201 4 x1.length (x1.flatMap Lx.enc)] [(5,v1)] 54 a w') ?_ ?_
 ·refine wp_block (Hs (fun (ys1 : List Oy) a w'=>∃ i1 : Nat,∃ x1 : List Lx,∃ x2 : Int,∃ v1 : Value,(∃ dn,Ad = dn ++ ys1 ∧ dn.length = i1) ∧ Na j1 ys1 i1 x1 x2 = some r ∧ Sx w [] nov [.own v1 201 4 x1.length (x1.flatMap Lx.enc)] [(5,v1),(6,iV x2),(11,Ab),(12,iV (Ad.length : Int)),(13,iV (i1 : Int))] 54 a w') List.length Ad ⟨0,([] : List Lx),Bl,(.slice none 0 0),⟨[],rfl,rfl⟩,h,S.nf [true] rfl (subR rfl)⟩ ?_)
  clear S h;rintro ys1 a w1 ⟨i1,x1,x2,v1,⟨dn,hd1,hi1⟩,h,S⟩
  cases ys1 with
  | nil =>
   rw [Na.eq_1] at h
   refine Fr (Vb S Fp rfl rfl rfl fun a S=>Ld ?_)
   replace S:=S.k6 5 6 11 12 13 14 rfl
   exact Tn (Fs (wp_cond_false ((S.tm rfl).trans (congrArg Value.bool (Jq hd1 hi1))) (wp_exit (Ew (Ew (Hl (Tn (⟨x1,v1,h,S.nf [true] rfl ⟨rfl,trivial⟩⟩))))))))
  | cons y1 ys1 =>
   rw [Na.eq_2] at h
   refine Fr (Vb S Fp rfl rfl rfl fun a S=>Ld ?_)
   replace S:=S.k6 5 6 11 12 13 14 rfl
   refine Tn (Fs (wp_cond_true ((S.tm rfl).trans (congrArg Value.bool (Iv hd1 hi1))) (wp_skip (Tn (Fs (wp_block (Fs (Fg ?_))))))))
   obtain ⟨b1,o1,hm1,hr1⟩:=Fv (a:=a) (x:=.tmp 11) (y:=.tmp 13) (ty:=0) PO Ae (Js hd1 hi1) rfl (S.tm rfl) (S.tm rfl)
   refine lv S (hr1 _) rfl ?_;clear S;intro a S
   clear hr1
   refine lv S (Gh isAgg89 sizeOf89 (off:=o1) (o:=0) (part:=(Oy.enc y1)) rfl rfl (S.tm rfl) (hm1.at S.emb0)) rfl fun a S=>Iz S zeroValue89 (cs:=[sV An,iV 0,iV 0,iV 0,iV 0]) rfl rfl ?_;clear S;intro a w3 b2 hz1 hk1 S
   refine Ft S (S.tm rfl) (S.tm rfl) (i:=0) (off:=0) rfl sizeOf89 (vs:=(Oy.enc y1)) rfl rfl rfl rfl ?_;clear S;intro w4 hk2 S
   refine Dl (Fs (Fr (Vk S rfl rfl fun a S=>Dl ?_)))
   replace S:=(S.nl [.blk b2 (Oy.enc y1) 89,.own v1 201 4 x1.length (x1.flatMap Lx.enc)] [true,true] rfl).k7 5 6 8 9 11 12 13 rfl
   obtain ⟨j2,hj2,h⟩:=Fk h
   refine Fa (fun a w'=>∃ x3 : List Lx,∃ x4 : Int,∃ v2 : Value,j2 x3 x4 = some r ∧ Sx w [] nov [.blk b2 (Oy.enc y1) 89,.own v2 201 4 x3.length (x3.flatMap Lx.enc)] [(5,v2),(6,iV x4),(8,.pointer (some ⟨b2,0,none⟩)),(11,Ab),(12,iV (Ad.length : Int)),(13,iV (i1 : Int))] 54 a w') ?_ ?_
   ·refine wp_block (Hs (fun (m1 : Nat) a w'=>∃ x3 : List Lx,∃ x4 : Int,∃ x5 : Int,∃ v2 : Value,Mz y1 j2 m1 x3 x4 x5 = some r ∧ Sx w [] nov [.blk b2 (Oy.enc y1) 89,.own v2 201 4 x3.length (x3.flatMap Lx.enc)] [(5,v2),(6,iV x4),(8,.pointer (some ⟨b2,0,none⟩)),(9,iV x5),(11,Ab),(12,iV (Ad.length : Int)),(13,iV (i1 : Int))] 54 a w') id ((y1.Heats - 1).toNat + 2) ⟨x1,x2,1,v1,h,S.nf [true,true] rfl (subR rfl)⟩ ?_)
    clear S h;rintro m1 a w5 ⟨x3,x4,x5,v2,h,S⟩
    cases m1 with
    | zero=>rw [Mz.eq_1] at h;cases h
    | succ m1 =>
     rw [Mz.eq_2] at h
     refine Fs (Fr (Vm S rfl rfl fun a S=>Vf OI S rfl rfl fun a S=>Vl isAgg3 0 S rfl rfl rfl rfl fun a S=>Vb S Vd rfl rfl rfl fun a S=>Dl (Fc h (S.tm rfl) (fun hb1 h=>?_) (fun hb1 h=>?_))))
     ·refine wp_skip (Tn (Fs ?_))
      obtain ⟨j3,hj3,h⟩:=Fk h
      refine Fa (fun a w'=>∃ x6 : List Lx,∃ x7 : Int,∃ v3 : Value,j3 x6 x7 = some r ∧ Sx w [] nov [.blk b2 (Oy.enc y1) 89,.own v3 201 4 x6.length (x6.flatMap Lx.enc)] [(5,v3),(6,iV x7),(8,.pointer (some ⟨b2,0,none⟩)),(9,iV x5),(11,Ab),(12,iV (Ad.length : Int)),(13,iV (i1 : Int))] 54 a w') ?_ ?_
      ·refine wp_block (Fr (Vm S rfl rfl fun a S=>Vf JH S rfl rfl fun a S=>Vl isAgg9 0 S rfl rfl rfl rfl ?_));clear S;intro a S
       iterate 3 (refine Vm S rfl rfl ?_;clear S;intro a S)
       refine Vf OJ S rfl rfl fun a S=>Vl isAgg3 0 S rfl rfl rfl rfl fun a S=>Vb S Gw rfl rfl rfl fun a S=>lv S (Nc bt_199 (pv:=[(0,iV x4),(1,iV (W (x4 + y1.Long)))]) ⟨rfl,(S.tm rfl),rfl,(S.tm rfl),trivial⟩ (cs:=[iV x4,iV (W (x4 + y1.Long))]) (by kernel_rfl)) rfl fun a S=>lv S (Nc bt_201 (pv:=[(0,sV y1.Key),(1,iV x5),(2,.agg #[iV x4,iV (W (x4 + y1.Long))])]) ⟨rfl,(S.tm rfl),rfl,(S.tm rfl),rfl,(S.tm rfl),trivial⟩ (cs:=[sV y1.Key,iV x5,iV x4,iV (W (x4 + y1.Long))]) (by kernel_rfl)) rfl fun a S=>Fq S underlying150 sizeOf201 zeroValue201 rfl rfl (pv:=[(0,.agg #[sV y1.Key,iV x5,iV x4,iV (W (x4 + y1.Long))])]) ⟨rfl,(S.tm rfl),trivial⟩ (cs:=[sV y1.Key,iV x5,iV x4,iV (W (x4 + y1.Long))]) (by kernel_rfl) rfl ?_;clear S;intro a w8 b3 hz2 hk3 S
       obtain ⟨hc1,h⟩:=Jc h
       refine Np NV Lx.enc_ok S (S.tm rfl) (i:=2) rfl (S.tm rfl) (j:=0) rfl (ys:=[(Lx.mk y1.Key x5 (Vv.mk x4 (W (x4 + y1.Long))))]) rfl rfl rfl rfl (by have:=Nx hc1;omega) rfl ?_;clear S;intro v4 a w9 hk4 S
       refine Va S rfl rfl fun a S=>Ld ?_
       replace S:=(S.nl [.blk b2 (Oy.enc y1) 89,.own v4 201 4 (x3 ++ [(Lx.mk y1.Key x5 (Vv.mk x4 (W (x4 + y1.Long))))]).length ((x3 ++ [(Lx.mk y1.Key x5 (Vv.mk x4 (W (x4 + y1.Long))))]).flatMap Lx.enc)] [false,true,true] rfl).k7 5 6 8 9 11 12 13 rfl
       refine Tn (Fr (Vm S rfl rfl fun a S=>Vf OJ S rfl rfl fun a S=>Vl isAgg3 0 S rfl rfl rfl rfl fun a S=>Vb S Gw rfl rfl rfl fun a S=>Va S rfl rfl fun a S=>Dl (Fs ?_)))
       refine Fg (Vm S rfl rfl fun a S=>Vf OI S rfl rfl fun a S=>Vl isAgg3 0 S rfl rfl rfl rfl fun a S=>Vb S Fp rfl rfl rfl fun a S=>Ld ?_)
       replace S:=S.k8 5 6 8 9 11 12 13 43 rfl
       refine Tn ?_
       obtain ⟨j4,hj4,h⟩:=Fk h
       refine Fa (fun a w'=>∃ x8 : Int,j4 x8 = some r ∧ Sx w [] nov [.blk b2 (Oy.enc y1) 89,.own v4 201 4 (x3 ++ [(Lx.mk y1.Key x5 (Vv.mk x4 (W (x4 + y1.Long))))]).length ((x3 ++ [(Lx.mk y1.Key x5 (Vv.mk x4 (W (x4 + y1.Long))))]).flatMap Lx.enc)] [(5,v4),(6,iV x8),(8,.pointer (some ⟨b2,0,none⟩)),(9,iV x5),(11,Ab),(12,iV (Ad.length : Int)),(13,iV (i1 : Int))] 54 a w') ?_ ?_
       ·refine Fc h (S.tm rfl) (fun hb2 h=>?_) (fun hb2 h=>?_)
        ·exact Fg (Vm S rfl rfl fun a S=>Vf TH S rfl rfl fun a S=>Vl isAgg3 0 S rfl rfl rfl rfl fun a S=>Vb S Gw rfl rfl rfl fun a S=>Va S rfl rfl fun a S=>Dl (⟨W ((W (x4 + y1.Long)) + y1.Gap),h,S.nf [true,true] rfl (subR rfl)⟩))
        ·exact wp_skip (Tn (⟨W (x4 + y1.Long),h,S.nf [true,true] rfl (subR rfl)⟩))
       clear S h;rintro a w10 ⟨x8,h,S⟩;rw [hj4] at h;clear hj4 j4
       exact Im (Tn (⟨(x3 ++ [(Lx.mk y1.Key x5 (Vv.mk x4 (W (x4 + y1.Long))))]),x8,v4,h,S.nf [true,true] rfl (subR rfl)⟩))
      clear S h;rintro a w7 ⟨x6,x7,v3,h,S⟩;rw [hj3] at h;clear hj3 j3
      exact Tn (Fg (Vm S rfl rfl fun a S=>Vq S Gw rfl rfl rfl fun a S=>Va S rfl rfl fun a S=>Dl (⟨m1,⟨x6,x7,W (x5 + 1),v3,h,S.nf [true,true] rfl ⟨rfl,rfl,rfl,rfl,rfl,rfl,rfl,trivial⟩⟩,Nat.lt_succ_self _⟩)))
     ·exact wp_exit (Ew (Ew (Hl (Tn (⟨x3,x4,v2,h,S.nf [true,true] rfl (subR rfl)⟩)))))
   clear S h;rintro a w6 ⟨x3,x4,v2,h,S⟩;rw [hj2] at h;clear hj2 j2
   refine Tn (Fg (Vm S rfl rfl fun a S=>Vf TI S rfl rfl fun a S=>Vl isAgg3 0 S rfl rfl rfl rfl fun a S=>Vb S Gw rfl rfl rfl fun a S=>Va S rfl rfl fun a S=>Ld (Im (Tn (Fg ?_)))))
   exact Vq S Gw rfl rfl rfl fun a S=>Vm S rfl rfl fun a S=>Dl (⟨ys1,⟨i1 + 1,x3,W (x4 + y1.Break),v2,⟨_,(hd1).trans (List.append_cons _ _ _),by simp [hi1]⟩,h,S.nf [false,true] rfl ⟨rfl,rfl,rfl,rfl,(congrArg (fun z=>some (Value.int .i64 z)) (Iw hd1 hi1 (Kh Ae))),trivial⟩⟩,Nat.lt_succ_self _⟩)
 clear S h;rintro a w2 ⟨x1,v1,h,S⟩;rw [hj1] at h;clear hj1 j1
 refine Tn (Fr (Vm S rfl rfl fun a S=>Va S rfl rfl fun a S=>Dl (wp_ret ?_)))
 obtain rfl:=Option.some.inj h
 exact Fd S results135 rfl (Uf S (i:=0) rfl rfl)
theorem DS (w : World) (Ab : Value) (Ad : List Lx) (Ae : Slc (view w []) 4 Ab (Ad.map Lx.enc)) (Bl : Int) (r : Int) (h : AB Ad Bl = some r) :
    Calls prog 70 [Ab,iV Bl].toArray w (Ret w [] fun _ v _=>v = iV r):=by
 refine Fe func70 rfl ntmps70 rfl fun a S=>?_
 unfold AB at h
 replace S:=S.k2 0 1 rfl
 refine Fr (Vk S rfl rfl fun a S=>Dl (Fs (Fr (Vm S rfl rfl fun a S=>lv S (Gn NV (S.tm rfl) (Gk Ae)) rfl fun a S=>Vq S Jn rfl rfl rfl ?_))));clear S;intro a S
 refine Dl (Fc h (S.tm rfl) (fun hb1 h=>?_) (fun hb1 h=>?_))
 ·refine Fr (Vm S rfl rfl fun a S=>Va S rfl rfl fun a S=>Dl (wp_ret (Ek ?_)))
  obtain rfl:=Option.some.inj h
  exact Fd S results70 rfl rfl
 ·refine wp_skip (Tn (Fr (Vm S rfl rfl fun a S=>Vm S rfl rfl fun a S=>lv S (Gn NV (S.tm rfl) (Gk Ae)) rfl fun a S=>Vq S Jt rfl rfl rfl ?_)));clear S;intro a S
  obtain ⟨hc1,h⟩:=Jc h
  obtain ⟨b1,o1,hm1,hr1⟩:=Fv (a:=a) (x:=.tmp 9) (y:=.tmp 12) (ty:=0) NV Ae (Es hc1).1 (Es hc1).2 (S.tm rfl) (S.tm rfl)
  refine lv S (hr1 _) rfl ?_;clear S;intro a S
  clear hr1
  refine Vf XF S rfl rfl fun a S=>Vf XE S rfl rfl fun a S=>lv S (Hw isAgg3 (off:=o1) (o:=3) (S.tm rfl) (hm1.at S.emb0) rfl) rfl fun a S=>Va S rfl rfl fun a S=>Dl (wp_ret ?_)
  obtain rfl:=Option.some.inj h
  exact Fd S results70 rfl rfl
theorem HT (w : World) (Ab : Value) (Ad : List Oy) (Ae : Slc (view w []) 5 Ab (Ad.map Oy.enc)) (Bl : Int) (r : (List Lx) × Int) (h : AL Ad Bl = some r) :
    Calls prog 106 [Ab,iV Bl].toArray w (Ret w [] fun τ v _=>∃ u1 : Value,v = .tuple #[u1,iV r.2] ∧ Ve τ 201 4 u1 r.1.length (r.1.flatMap Lx.enc)):=by
 refine Fe func106 rfl ntmps106 rfl fun a S=>?_
 unfold AL at h
 replace S:=S.k2 0 1 rfl
 refine Fr (Vk S rfl rfl fun a S=>Vk S rfl rfl fun a S=>Dl (Fs (Fr (Vm S rfl rfl fun a S=>Er S (fun _=>Ei (vs:=[iV Bl]) ⟨(S.tm rfl),trivial⟩ call62) (Sq _ Bl _ rfl) rfl ?_))));clear S;intro v1 a w1 hv1 hk1 hn1 S
 subst hv1
 refine Vu S Ig rfl rfl fun a S=>Dl (Fc h (S.tm rfl) (fun hb1 h=>?_) (fun hb1 h=>?_))
 ·refine Fr (Vk S rfl rfl fun a S=>Vk S rfl rfl fun a S=>Dl (wp_ret (Ek ?_)))
  obtain rfl:=Option.some.inj h
  exact Nz S results106 rfl rfl ⟨_,rfl,(Ug _ _ _)⟩
 ·refine wp_skip (Tn (Fr (Vm S rfl rfl fun a S=>Vm S rfl rfl ?_)));clear S;intro a S
  obtain ⟨r1,hr1,h⟩:=Ga h
  have hz1:=S.keep.size
  refine Er S (fun _=>Ei (vs:=[Ab,iV Bl]) ⟨(S.tm rfl),(S.tm rfl),trivial⟩ call135) (DR _ Ab Ad (Ae.mono (S.le_arg Ez)) Bl _ hr1) rfl ?_;clear S;intro v2 a w2 hv2 hk2 hn2 S
  obtain ⟨φ1,hl1,hm1,S⟩:=S.see' hn2 hz1
  have hs1:=hv2.mono hm1
  refine Va S rfl rfl fun a S=>Dl (Fs (Fr (Vm S rfl rfl fun a S=>Vm S rfl rfl ?_)));clear S;intro a S
  obtain ⟨r2,hr2,h⟩:=Ga h
  refine Er S (fun _=>Ei (vs:=[v2,iV Bl]) ⟨(S.tm rfl),(S.tm rfl),trivial⟩ call70) (DS _ v2 r1 ((Hn Lx.enc_ok hs1).mono (S.le_new Ez)) Bl _ hr2) rfl ?_;clear S;intro v3 a w3 hv3 hk3 hn3 S
  subst hv3
  refine Vq S Jz rfl rfl rfl fun a S=>Ld ?_
  replace S:=S.k2 6 16 rfl
  refine Tn (Fc h (S.tm rfl) (fun hb2 h=>?_) (fun hb2 h=>?_))
  ·refine Fr (Vk S rfl rfl fun a S=>Vk S rfl rfl fun a S=>Dl (wp_ret (Ek ?_)))
   obtain rfl:=Option.some.inj h
   exact Nz S results106 rfl rfl ⟨_,rfl,(Ug _ _ _)⟩
  ·refine wp_skip (Tn (Fr (Vm S rfl rfl fun a S=>Va S rfl rfl fun a S=>Vk S rfl rfl fun a S=>Dl (wp_ret ?_))))
   obtain rfl:=Option.some.inj h
   exact Nz S results106 rfl rfl ⟨_,rfl,((hs1).mono S.le_newer)⟩
theorem DT (w : World) (Ab : Value) (Ad : List Oy) (Ae : Slc (view w []) 5 Ab (Ad.map Oy.enc)) (Bl : Int) (r : (List Lx) × Int) (h : Xt Ad Bl = some r) :
    Calls prog 69 [Ab,iV Bl].toArray w (Ret w [] fun τ v _=>∃ u1 : Value,v = .tuple #[u1,iV r.2] ∧ Ve τ 201 4 u1 r.1.length (r.1.flatMap Lx.enc)):=by
 refine Fe func69 rfl ntmps69 rfl fun a S=>?_
 unfold Xt at h
 replace S:=S.k2 0 1 rfl
 refine Fr (Vk S rfl rfl fun a S=>Vk S rfl rfl fun a S=>Dl (Fs (Fr (Vm S rfl rfl ?_))));clear S;intro a S
 obtain ⟨r1,hr1,h⟩:=Ga h
 refine Er S (fun _=>Ei (vs:=[Ab]) ⟨(S.tm rfl),trivial⟩ call105) (CO _ Ab Ad (Ae.mono (S.le_arg Ez)) _ hr1) rfl ?_;clear S;intro v1 a w1 hv1 hk1 hn1 S
 subst hv1
 refine Va S rfl rfl fun a S=>Dz (Vm S rfl rfl fun a S=>Vq S Nt rfl rfl rfl fun a S=>Dl (Fc h (S.tm rfl) (fun hb1 h=>?_) (fun hb1 h=>?_)))
 ·refine Fr (Vm S rfl rfl fun a S=>Vk S rfl rfl fun a S=>Va S rfl rfl fun a S=>Dl (wp_ret (Ek ?_)))
  obtain rfl:=Option.some.inj h
  exact Nz S results69 rfl rfl ⟨_,rfl,(Ug _ _ _)⟩
 ·refine wp_skip (Tn (Fr (Vm S rfl rfl fun a S=>Vm S rfl rfl ?_)));clear S;intro a S
  obtain ⟨r2,hr2,h⟩:=Ga h
  have hz1:=S.keep.size
  refine Er S (fun _=>Ei (vs:=[Ab,iV Bl]) ⟨(S.tm rfl),(S.tm rfl),trivial⟩ call106) (HT _ Ab Ad (Ae.mono (S.le_arg Ez)) Bl _ hr2) rfl ?_;clear S;intro v2 a w2 hv2 hk2 hn2 S
  obtain ⟨u1,rfl,ho1⟩:=hv2
  obtain ⟨φ1,hl1,hm1,S⟩:=S.see' hn2 hz1
  have hs1:=ho1.mono hm1
  refine Vq S Ia rfl rfl rfl fun a S=>Vq S Ia rfl rfl rfl fun a S=>Va S rfl rfl fun a S=>Va S rfl rfl fun a S=>Dl (wp_ret ?_)
  obtain rfl:=Option.some.inj h
  exact Nz S results69 rfl rfl ⟨_,rfl,((hs1).mono S.le_newer)⟩
theorem IZ (w : World) (Ab : Value) (Ad : List Oy) (Ae : Slc (view w []) 5 Ab (Ad.map Oy.enc)) (Bl : Int) (r : Int × Int) (h : BS Ad Bl = some r) :
    Calls prog 29 [Ab,iV Bl].toArray w (Ret w [] fun _ v _=>v = .tuple #[iV r.1,iV r.2]):=by
 refine Fe func29 rfl ntmps29 rfl fun a S=>?_
 unfold BS at h
 replace S:=S.k2 0 1 rfl
 refine Fr (Vk S rfl rfl fun a S=>Vk S rfl rfl fun a S=>Dz (Vm S rfl rfl fun a S=>Vm S rfl rfl ?_));clear S;intro a S
 obtain ⟨r1,hr1,h⟩:=Ga h
 have hz1:=S.keep.size
 refine Er S (fun _=>Ei (vs:=[Ab,iV Bl]) ⟨(S.tm rfl),(S.tm rfl),trivial⟩ call69) (DT _ Ab Ad (Ae.mono (S.le_arg Ez)) Bl _ hr1) rfl ?_;clear S;intro v1 a w1 hv1 hk1 hn1 S
 obtain ⟨u1,rfl,ho1⟩:=hv1
 obtain ⟨φ1,hl1,hm1,S⟩:=S.see' hn1 hz1
 have hs1:=ho1.mono hm1
 refine Vm S rfl rfl fun a S=>Vq S Ia rfl rfl rfl fun a S=>Vq S Ia rfl rfl rfl fun a S=>Va S rfl rfl fun a S=>Va S rfl rfl fun a S=>Dl (Fs (Fr (Vm S rfl rfl ?_)));clear S;intro a S
 refine Vq S Nt rfl rfl rfl fun a S=>Dl (Fc h (S.tm rfl) (fun hb1 h=>?_) (fun hb1 h=>?_))
 ·refine Fr (Vm S rfl rfl fun a S=>Vk S rfl rfl fun a S=>Va S rfl rfl fun a S=>Ld ?_)
  replace S:=S.k2 4 5 rfl
  refine Tn (wp_ret (Ek ?_))
  obtain rfl:=Option.some.inj h
  exact Nz S results29 rfl rfl rfl
 ·refine wp_skip (Tn (Fr (Vm S rfl rfl fun a S=>Vm S rfl rfl ?_)));clear S;intro a S
  obtain ⟨r2,hr2,h⟩:=Ga h
  refine Er S (fun _=>Ei (vs:=[u1,iV Bl]) ⟨(S.tm rfl),(S.tm rfl),trivial⟩ call70) (DS _ u1 r1.1 ((Hn Lx.enc_ok hs1).mono (S.le_new Ez)) Bl _ hr2) rfl ?_;clear S;intro v2 a w2 hv2 hk2 hn2 S
  subst hv2
  refine Va S rfl rfl fun a S=>Vk S rfl rfl fun a S=>Ld ?_
  replace S:=S.k2 4 5 rfl
  refine Tn (wp_ret ?_)
  obtain rfl:=Option.some.inj h
  exact Nz S results29 rfl rfl rfl
set_option maxRecDepth 20000 in
theorem EW (w : World) (Ab : Value) (Ad : List Sw) (Ae : Slc (view w []) 2 Ab (Ad.map Sw.enc)) (r : Int) (h : Yd Ad = some r) :
    Calls prog 71 [Ab].toArray w (Ret w [] fun _ v _=>v = iV r):=by
 refine Fe func71 rfl ntmps71 rfl fun a S=>?_
 unfold Yd at h
 replace S:=S.k1 0 rfl
 refine Fr (Vk S rfl rfl fun a S=>Dl (Fs (Fr (Vm S rfl rfl fun a S=>lv S (Gn ML (S.tm rfl) (Gk Ae)) rfl fun a S=>Vq S Jz rfl rfl rfl ?_))));clear S;intro a S
 refine Dl (Fc h (S.tm rfl) (fun hb1 h=>?_) (fun hb1 h=>?_))
 ·refine Fr (Vk S rfl rfl fun a S=>Dl (wp_ret (Ek ?_)))
  obtain rfl:=Option.some.inj h
  exact Fd S results71 rfl rfl
 ·refine wp_skip (Tn (Fs (Fr (Vm S rfl rfl fun a S=>lv S (Gn ML (S.tm rfl) (Gk Ae)) rfl fun a S=>lv S (Rm rfl) rfl fun a S=>Dl ?_))))
  replace S:=S.k4 0 8 9 10 rfl
  obtain ⟨j1,hj1,h⟩:=Fk h
  refine Fa (fun a w'=>j1 = some r ∧ Sx w [] nov [] [] 40 a w') ?_ ?_
  ·refine wp_block (Hs (fun (ys1 : List Sw) a w'=>∃ i1 : Nat,(∃ dn,Ad = dn ++ ys1 ∧ dn.length = i1) ∧ Ns Ad j1 ys1 i1 = some r ∧ Sx w [] nov [] [(0,Ab),(8,Ab),(9,iV (Ad.length : Int)),(10,iV (i1 : Int))] 40 a w') List.length Ad ⟨0,⟨[],rfl,rfl⟩,h,S.nf [] rfl (subR rfl)⟩ ?_)
   clear S h;rintro ys1 a w1 ⟨i1,⟨dn,hd1,hi1⟩,h,S⟩
   cases ys1 with
   | nil =>
    rw [Ns.eq_1] at h
    refine Fr (Vb S Fp rfl rfl rfl fun a S=>Ld ?_)
    replace S:=S.k5 0 8 9 10 11 rfl
    exact Tn (Fs (wp_cond_false ((S.tm rfl).trans (congrArg Value.bool (Jq hd1 hi1))) (wp_exit (Ew (Ew (Hl (Tn (⟨h,S.nf [] rfl trivial⟩))))))))
   | cons y1 ys1 =>
    rw [Ns.eq_2] at h
    refine Fr (Vb S Fp rfl rfl rfl fun a S=>Ld ?_)
    replace S:=S.k5 0 8 9 10 11 rfl
    refine Tn (Fs (wp_cond_true ((S.tm rfl).trans (congrArg Value.bool (Iv hd1 hi1))) (wp_skip (Tn (Fs (wp_block (Fr (Vm S rfl rfl ?_))))))));clear S;intro a S
    obtain ⟨b1,o1,hm1,hr1⟩:=Fv (a:=a) (x:=.tmp 8) (y:=.tmp 10) (ty:=0) ML Ae (Js hd1 hi1) rfl (S.tm rfl) (S.tm rfl)
    refine lv S (hr1 _) rfl ?_;clear S;intro a S
    clear hr1
    refine lv S (Gh isAgg93 sizeOf93 (off:=o1) (o:=0) (part:=(Sw.enc y1)) rfl rfl (S.tm rfl) (hm1.at S.emb0)) rfl fun a S=>Iz S zeroValue93 (cs:=[sV An,iV 0]) rfl rfl ?_;clear S;intro a w3 b2 hz1 hk1 S
    refine Va S rfl rfl fun a S=>Ft S (S.tm rfl) (S.tm rfl) (i:=0) (off:=0) rfl sizeOf93 (vs:=(Sw.enc y1)) rfl rfl rfl rfl ?_;clear S;intro w4 hk2 S
    refine Dl (wp_block (Fr (Vf JI S rfl rfl fun a S=>Vl isAgg9 0 S rfl rfl rfl rfl ?_)));clear S;intro a S
    obtain ⟨r1,hr2,h⟩:=Ga h
    refine Er S (fun _=>Ei (vs:=[sV y1.Race]) ⟨(S.tm rfl),trivial⟩ call107) (Jp _ y1.Race _ hr2) rfl ?_;clear S;intro v1 a w5 hv1 hk3 hn1 S
    subst hv1
    refine Vu S Ig rfl rfl fun a S=>Va S rfl rfl fun a S=>Ld ?_
    replace S:=(S.nl [.blk b2 (Sw.enc y1) 93] [true] rfl).k7 0 3 4 8 9 10 15 rfl
    refine Tn (Fc h (S.tm rfl) (fun hb2 h=>?_) (fun hb2 h=>?_))
    ·refine Fr (Vk S rfl rfl fun a S=>Dl (wp_ret (Gg (Gg (Ek (Ek (Gg ?_)))))))
     refine Ek (Ek ?_)
     obtain rfl:=Option.some.inj h
     exact Fd S results71 rfl rfl
    ·refine Fs (Hd [] ([]) Tryz.mixed S rfl (by kernel_rfl) ?_);clear S;intro w6 hk4 hsel S
     refine Kt [0,1,2,3,4,5,6,7,8,9,10,11,12,13] hsel (by kernel_rfl) rfl ?_
     clear hsel
     refine Gv S rfl (Rm (S.tm rfl)) rfl fun a S=>Gv S rfl (Jz (S.tm rfl) rfl) rfl fun a S=>Gv S rfl (Rm (S.tm rfl)) rfl ?_;clear S;intro a S
     obtain ⟨j2,hj2,h⟩:=Fk h
     refine Zn 10 (fun a w'=>∃ c1,j2 c1 = some r ∧ Keep [] w6 w' ∧ Sx w [] nov [.blk b2 (Sw.enc y1) 93] [(0,Ab),(4,.pointer (some ⟨b2,0,none⟩)),(8,Ab),(9,iV (Ad.length : Int)),(10,iV (i1 : Int)),(33,bV c1)] 40 a w') ?_ ?_
     ·rcases Bool.eq_false_or_eq_true (decide (0 < (i1 : Int))) with hb3 | hb3
      ·replace h:=Rz h hb3
       refine Fx S rfl rfl rfl rfl hb3 (He S (Gb JI (S.tm rfl)) rfl fun a S=>Fx S rfl rfl rfl rfl hb3 (He S (Mg isAgg9 (S.tm rfl) (S.cell (i:=0) rfl rfl)) rfl fun a S=>Fx S rfl rfl rfl rfl hb3 (He S (Rm (S.tm rfl)) rfl fun a S=>Fx S rfl rfl rfl rfl hb3 (He S (Rm (S.tm rfl)) rfl fun a S=>Fx S rfl rfl rfl rfl hb3 (He S (Jt (S.tm rfl) rfl) rfl fun a S=>Fx S rfl rfl rfl rfl hb3 ?_)))))
       obtain ⟨hc1,h⟩:=Jc h
       obtain ⟨b3,o2,hm2,hr3⟩:=Fv (a:=a) (x:=.tmp 26) (y:=.tmp 28) (ty:=0) ML Ae (Es hc1).1 (Es hc1).2 (S.tm rfl) (S.tm rfl)
       refine He S (hr3 _) rfl ?_;clear S;intro a S
       clear hr3
       exact Fx S rfl rfl rfl rfl hb3 (He S (Gb JI (S.tm rfl)) rfl fun a S=>Fx S rfl rfl rfl rfl hb3 (He S (Hw isAgg9 (off:=o2) (o:=0) (S.tm rfl) (hm2.at S.emb0) rfl) rfl fun a S=>Fx S rfl rfl rfl rfl hb3 (He S (JA (S.tm rfl) (S.tm rfl)) rfl fun a S=>Gv S rfl (Ii hb3 (S.tm rfl) (S.tm rfl)) rfl fun a S=>Jb (⟨_,h,Keep.refl _ _,S.nf [true] rfl (subR rfl)⟩))))
      ·replace h:=Sa h hb3
       iterate 9 (refine Qo S rfl rfl rfl rfl (Ka hb3) rfl ?_ rfl;clear S;intro a S)
       exact Gv S rfl (Ij true hb3 (S.tm rfl) rfl) rfl fun a S=>Jb (⟨_,h,Keep.refl _ _,S.nf [true] rfl (subR rfl)⟩)
     clear S h;rintro a w7 ⟨c1,h,hk5,S⟩;rw [hj2] at h;clear hj2 j2
     refine Gv S rfl (Ra (S.tm rfl)) rfl fun a S=>Jb ?_
     replace S:=S.k6 0 4 8 9 10 20 rfl
     refine Tn (Fc h (S.tm rfl) (fun hb4 h=>?_) (fun hb4 h=>?_))
     ·refine Fr (Vk S rfl rfl fun a S=>Dl (wp_ret (Gg (Gg (Ek (Ek (Gg ?_)))))))
      refine Ek (Ek ?_)
      obtain rfl:=Option.some.inj h
      exact Fd S results71 rfl rfl
     ·refine Fr (Vf TJ S rfl rfl fun a S=>Vl isAgg3 0 S rfl rfl rfl rfl fun a S=>Er S (fun _=>Ei (vs:=[iV y1.Time]) ⟨(S.tm rfl),trivial⟩ call73) (Ye _ y1.Time _ rfl) rfl ?_);clear S;intro v2 a w8 hv2 hk6 hn2 S
      subst hv2
      refine Vu S Ig rfl rfl fun a S=>Va S rfl rfl fun a S=>Dl (Fc h (S.tm rfl) (fun hb5 h=>?_) (fun hb5 h=>?_))
      ·refine Fr (Vk S rfl rfl fun a S=>Dl (wp_ret (Gg (Gg (Ek (Ek (Gg ?_)))))))
       refine Ek (Ek ?_)
       obtain rfl:=Option.some.inj h
       exact Fd S results71 rfl rfl
      ·exact wp_skip (Im (Im (Tn (Fg (Vq S Gw rfl rfl rfl fun a S=>Vm S rfl rfl fun a S=>Dl (⟨ys1,⟨i1 + 1,⟨_,(hd1).trans (List.append_cons _ _ _),by simp [hi1]⟩,h,S.nf [false] rfl ⟨rfl,rfl,rfl,(congrArg (fun z=>some (Value.int .i64 z)) (Iw hd1 hi1 (Kh Ae))),trivial⟩⟩,Nat.lt_succ_self _⟩))))))
  clear S h;rintro a w2 ⟨h,S⟩;rw [hj1] at h;clear hj1 j1
  refine Tn (Fr (Vk S rfl rfl fun a S=>Dl (wp_ret ?_)))
  obtain rfl:=Option.some.inj h
  exact Fd S results71 rfl rfl
theorem HU (w : World) (Ab : Value) (Ad : List Sw) (Ae : Slc (view w []) 2 Ab (Ad.map Sw.enc)) (As : ByteArray) (r : Int) (h : Ur Ad As = r) :
    Calls prog 72 [Ab,sV As].toArray w (Ret w [] fun _ v _=>v = iV r):=by
 refine Fe func72 rfl ntmps72 rfl fun a S=>?_
 unfold Ur at h
 replace S:=S.k2 0 1 rfl
 refine Fr (Vk S rfl rfl fun a S=>Dl (Fs (Fr (Vm S rfl rfl fun a S=>lv S (Gn ML (S.tm rfl) (Gk Ae)) rfl fun a S=>lv S (Rm rfl) rfl ?_))));clear S;intro a S
 refine Dl ?_
 replace S:=S.k4 1 7 8 9 rfl
 obtain ⟨j1,hj1,h⟩:=Fk h
 refine Fa (fun a w'=>j1 = r ∧ Sx w [] nov [] [] 20 a w') ?_ ?_
 ·refine wp_block (Hs (fun (ys1 : List Sw) a w'=>∃ i1 : Nat,(∃ dn,Ad = dn ++ ys1 ∧ dn.length = i1) ∧ Pk As j1 ys1 i1 = r ∧ Sx w [] nov [] [(1,sV As),(7,Ab),(8,iV (Ad.length : Int)),(9,iV (i1 : Int))] 20 a w') List.length Ad ⟨0,⟨[],rfl,rfl⟩,h,S.nf [] rfl (subR rfl)⟩ ?_)
  clear S h;rintro ys1 a w1 ⟨i1,⟨dn,hd1,hi1⟩,h,S⟩
  cases ys1 with
  | nil =>
   rw [Pk.eq_1] at h
   refine Fr (Vb S Fp rfl rfl rfl fun a S=>Ld ?_)
   replace S:=S.k5 1 7 8 9 10 rfl
   exact Tn (Fs (wp_cond_false ((S.tm rfl).trans (congrArg Value.bool (Jq hd1 hi1))) (wp_exit (Ew (Ew (Hl (Tn (⟨h,S.nf [] rfl trivial⟩))))))))
  | cons y1 ys1 =>
   rw [Pk.eq_2] at h
   refine Fr (Vb S Fp rfl rfl rfl fun a S=>Ld ?_)
   replace S:=S.k5 1 7 8 9 10 rfl
   refine Tn (Fs (wp_cond_true ((S.tm rfl).trans (congrArg Value.bool (Iv hd1 hi1))) (wp_skip (Tn (Fs (wp_block (Fs (Fg ?_))))))))
   obtain ⟨b1,o1,hm1,hr1⟩:=Fv (a:=a) (x:=.tmp 7) (y:=.tmp 9) (ty:=0) ML Ae (Js hd1 hi1) rfl (S.tm rfl) (S.tm rfl)
   refine lv S (hr1 _) rfl ?_;clear S;intro a S
   clear hr1
   refine lv S (Gh isAgg93 sizeOf93 (off:=o1) (o:=0) (part:=(Sw.enc y1)) rfl rfl (S.tm rfl) (hm1.at S.emb0)) rfl fun a S=>Iz S zeroValue93 (cs:=[sV An,iV 0]) rfl rfl ?_;clear S;intro a w3 b2 hz1 hk1 S
   refine Ft S (S.tm rfl) (S.tm rfl) (i:=0) (off:=0) rfl sizeOf93 (vs:=(Sw.enc y1)) rfl rfl rfl rfl ?_;clear S;intro w4 hk2 S
   refine Dz (Vf JI S rfl rfl fun a S=>Vl isAgg9 0 S rfl rfl rfl rfl fun a S=>Vm S rfl rfl fun a S=>Vb S Wv rfl rfl rfl fun a S=>Dl (Fc h (S.tm rfl) (fun hb1 h=>?_) (fun hb1 h=>?_)))
   ·refine Fr (Vf TJ S rfl rfl fun a S=>Vl isAgg3 0 S rfl rfl rfl rfl fun a S=>Va S rfl rfl fun a S=>Ld ?_)
    replace S:=S.n0.k1 4 rfl
    refine Tn (wp_ret (Gg (Ek (Ek (Gg (Ek (Ek ?_)))))))
    subst h
    exact Fd S results72 rfl rfl
   ·exact wp_skip (Im (Tn (Fg (Vq S Gw rfl rfl rfl fun a S=>Vm S rfl rfl fun a S=>Dl (⟨ys1,⟨i1 + 1,⟨_,(hd1).trans (List.append_cons _ _ _),by simp [hi1]⟩,h,S.nf [false] rfl ⟨rfl,rfl,rfl,(congrArg (fun z=>some (Value.int .i64 z)) (Iw hd1 hi1 (Kh Ae))),trivial⟩⟩,Nat.lt_succ_self _⟩)))))
 clear S h;rintro a w2 ⟨h,S⟩;rw [hj1] at h;clear hj1 j1
 refine Tn (Fr (Vk S rfl rfl fun a S=>Dl (wp_ret ?_)))
 subst h
 exact Fd S results72 rfl rfl
theorem LO (w : World) (Ac : Int) (Bn : Int) (r : Int × Int) (h : Tz Ac Bn = r) :
    Calls prog 108 [.int .u64 Ac,.int .u64 Bn].toArray w (Ret w [] fun _ v _=>v = .tuple #[.int .u64 r.1,.int .u64 r.2]):=by
 refine Fe func108 rfl ntmps108 rfl fun a S=>?_
 unfold Tz at h
 replace S:=S.k2 0 1 rfl
 refine Fr (Vk S rfl rfl fun a S=>Vk S rfl rfl fun a S=>Dz (Vm S rfl rfl fun a S=>Vq S FT rfl rfl rfl fun a S=>Va S rfl rfl ?_));clear S;intro a S
 refine Dz (Vm S rfl rfl fun a S=>lv S (Xh (S.tm rfl) rfl (by decide)) rfl fun a S=>Va S rfl rfl fun a S=>Dl (Fs (Fg ?_)))
 refine Vm S rfl rfl fun a S=>Vq S FT rfl rfl rfl fun a S=>Va S rfl rfl fun a S=>Dz (Vm S rfl rfl fun a S=>lv S (Xh (S.tm rfl) rfl (by decide)) rfl fun a S=>Va S rfl rfl fun a S=>Ld ?_)
 replace S:=S.k6 0 1 6 7 8 9 rfl
 refine Tn (Fr (Vm S rfl rfl fun a S=>Vm S rfl rfl fun a S=>Vb S Qt rfl rfl rfl fun a S=>Va S rfl rfl fun a S=>Dl (Fs (Fg ?_))))
 refine Vm S rfl rfl fun a S=>Vm S rfl rfl fun a S=>Vb S Qt rfl rfl rfl fun a S=>Vm S rfl rfl fun a S=>lv S (Xh (S.tm rfl) rfl (by decide)) rfl fun a S=>Vb S Xg rfl rfl rfl fun a S=>Va S rfl rfl fun a S=>Ld ?_
 replace S:=S.k6 0 1 6 7 9 11 rfl
 refine Tn (Fr (Vm S rfl rfl fun a S=>Vq S FT rfl rfl rfl fun a S=>Va S rfl rfl fun a S=>Dz (Vm S rfl rfl ?_)));clear S;intro a S
 refine lv S (Xh (S.tm rfl) rfl (by decide)) rfl fun a S=>Va S rfl rfl fun a S=>Dl (Fs (Fg ?_))
 iterate 3 (refine Vm S rfl rfl ?_;clear S;intro a S)
 refine Vb S Qt rfl rfl rfl fun a S=>Vb S Xg rfl rfl rfl fun a S=>Va S rfl rfl fun a S=>Ld ?_
 replace S:=S.k6 0 1 7 9 12 13 rfl
 refine Tn (Fr (Vm S rfl rfl fun a S=>Vm S rfl rfl fun a S=>Vb S Qt rfl rfl rfl fun a S=>Vm S rfl rfl fun a S=>Vb S Xg rfl rfl rfl fun a S=>Vm S rfl rfl fun a S=>lv S (Xh (S.tm rfl) rfl (by decide)) rfl fun a S=>Vb S Xg rfl rfl rfl ?_));clear S;intro a S
 refine Va S rfl rfl fun a S=>Ld ?_
 replace S:=S.k3 0 1 4 rfl
 refine Tn (Fr (Vm S rfl rfl fun a S=>Vm S rfl rfl fun a S=>Vb S Qt rfl rfl rfl fun a S=>Va S rfl rfl fun a S=>Dl (wp_ret ?_)))
 subst h
 exact Nz S results108 rfl rfl rfl
theorem CC (w : World) (Ac : Int) (r : Int) (h : Wl Ac = some r) :
    Calls prog 137 [.int .u64 Ac].toArray w (Ret w [] fun _ v _=>v = iV r):=by
 refine Fe func137 rfl ntmps137 rfl fun a S=>?_
 unfold Wl at h
 replace S:=S.k1 0 rfl
 refine Fr (Vk S rfl rfl fun a S=>Dz (Vm S rfl rfl ?_));clear S;intro a S
 obtain ⟨r1,hr1,h⟩:=Ga h
 refine Er S (fun _=>Ei (vs:=[.int .u64 Ac]) ⟨(S.tm rfl),trivial⟩ call59) (FB _ Ac _ hr1) rfl ?_;clear S;intro v1 a w1 hv1 hk1 hn1 S
 subst hv1
 refine Vu S (Jt rfl) rfl rfl fun a S=>Va S rfl rfl fun a S=>Dl (wp_ret ?_)
 obtain rfl:=Option.some.inj h
 exact Fd S results137 rfl rfl
set_option maxRecDepth 20000 in
theorem LP (w : World) (Co : Int) (Bp : Int) (Bn : Int) (r : Int × Int) (h : FF Co Bp Bn = some r) :
    Calls prog 109 [.int .u64 Co,.int .u64 Bp,.int .u64 Bn].toArray w (Ret w [] fun _ v _=>v = .tuple #[.int .u64 r.1,.int .u64 r.2]):=by
 refine Fe func109 rfl ntmps109 rfl fun a S=>?_
 unfold FF at h
 replace S:=S.k3 0 1 2 rfl
 refine Fr (Vk S rfl rfl fun a S=>Vk S rfl rfl fun a S=>Dl (Fs (Fr (Vm S rfl rfl fun a S=>Vq S Jn rfl rfl rfl ?_))));clear S;intro a S
 refine Dl (Fc h (S.tm rfl) (fun hb1 h=>?_) (fun hb1 h=>?_))
 ·cases h
 ·refine wp_skip (Tn (Fs (Fr (Vm S rfl rfl fun a S=>Vm S rfl rfl fun a S=>Vb S Vd rfl rfl rfl fun a S=>Dl (Fc h (S.tm rfl) (fun hb2 h=>?_) (fun hb2 h=>?_))))))
  ·cases h
  ·refine wp_skip (Tn (Fs (Fr (Vm S rfl rfl fun a S=>Vq S Jn rfl rfl rfl fun a S=>Dl (Fc h (S.tm rfl) (fun hb3 h=>?_) (fun hb3 h=>?_))))))
   ·refine Fs (Hd [] ([]) Tryz.mixed S rfl (by kernel_rfl) ?_);clear S;intro w1 hk1 hsel S
    refine Kt [0,1,2,3,4,5,6,7] hsel (by kernel_rfl) rfl ?_
    clear hsel
    refine Gv S rfl (Rm (S.tm rfl)) rfl fun a S=>Gv S rfl (Rm (S.tm rfl)) rfl ?_;clear S;intro a S
    obtain ⟨hc1,h⟩:=Jc h
    refine Gv S rfl (ND (S.tm rfl) (S.tm rfl) (Wg hc1)) rfl fun a S=>Gv S rfl (Rm (S.tm rfl)) rfl fun a S=>Gv S rfl (Rm (S.tm rfl)) rfl ?_;clear S;intro a S
    obtain ⟨hc2,h⟩:=Jc h
    refine Gv S rfl (rn_remk (S.tm rfl) (S.tm rfl) (Wg hc2)) rfl fun a S=>Gv S rfl (Ra (S.tm rfl)) rfl fun a S=>Gv S rfl (Ra (S.tm rfl)) rfl fun a S=>Jb ?_
    replace S:=S.k2 6 7 rfl
    refine Tn (wp_ret (Ek ?_))
    obtain rfl:=Option.some.inj h
    exact Nz S results109 rfl rfl rfl
   ·refine wp_skip (Tn (Fr (Vm S rfl rfl ?_)));clear S;intro a S
    obtain ⟨r1,hr1,h⟩:=Ga h
    refine Er S (fun _=>Ei (vs:=[.int .u64 Bn]) ⟨(S.tm rfl),trivial⟩ call137) (CC _ Bn _ hr1) rfl ?_;clear S;intro v1 a w2 hv1 hk2 hn1 S
    subst hv1
    refine Vu S (Xi underlying3 underlying76) rfl rfl fun a S=>Va S rfl rfl fun a S=>Ld ?_
    replace S:=S.k4 0 1 2 8 rfl
    refine Tn (Fr (Vm S rfl rfl fun a S=>Vm S rfl rfl ?_));clear S;intro a S
    obtain ⟨hc3,h⟩:=Jc h
    refine lv S (RD (S.tm rfl) (S.tm rfl) (of_decide_eq_true hc3)) rfl fun a S=>Va S rfl rfl fun a S=>Dz (Vm S rfl rfl fun a S=>lv S (Xh (S.tm rfl) rfl (by decide)) rfl fun a S=>Va S rfl rfl fun a S=>Dl ?_)
    refine Fr (Vm S rfl rfl fun a S=>Vq S FT rfl rfl rfl fun a S=>Va S rfl rfl fun a S=>Dz (Vm S rfl rfl fun a S=>Vm S rfl rfl ?_));clear S;intro a S
    obtain ⟨hc4,h⟩:=Jc h
    refine lv S (RD (S.tm rfl) (S.tm rfl) (of_decide_eq_true hc4)) rfl fun a S=>Vm S rfl rfl fun a S=>Vm S rfl rfl fun a S=>Vu S (BK rfl) rfl rfl ?_;clear S;intro a S
    obtain ⟨hc5,h⟩:=Jc h
    refine lv S (Xh (S.tm rfl) (S.tm rfl) (of_decide_eq_true hc5)) rfl fun a S=>Vb S rn_or_ rfl rfl rfl fun a S=>Va S rfl rfl fun a S=>Ld ?_
    replace S:=S.k6 1 2 8 9 10 11 rfl
    refine Tn (Fr (Vm S rfl rfl fun a S=>Vm S rfl rfl ?_));clear S;intro a S
    obtain ⟨hc6,h⟩:=Jc h
    refine lv S (RD (S.tm rfl) (S.tm rfl) (of_decide_eq_true hc6)) rfl fun a S=>Va S rfl rfl fun a S=>Dz (Vm S rfl rfl fun a S=>lv S (Xh (S.tm rfl) rfl (by decide)) rfl fun a S=>Va S rfl rfl fun a S=>Dl ?_)
    refine Fr (Vm S rfl rfl fun a S=>Vq S FT rfl rfl rfl fun a S=>Va S rfl rfl fun a S=>Ld ?_)
    replace S:=S.k7 2 8 9 10 11 13 14 rfl
    refine Tn (Fr (Vm S rfl rfl fun a S=>Vm S rfl rfl ?_));clear S;intro a S
    obtain ⟨hc7,h⟩:=Jc h
    refine lv S (ND (S.tm rfl) (S.tm rfl) (Wg hc7)) rfl fun a S=>Va S rfl rfl fun a S=>Dl (Fs (Fg ?_))
    iterate 3 (refine Vm S rfl rfl ?_;clear S;intro a S)
    refine Vb S Qt rfl rfl rfl fun a S=>Vb S BK rfl rfl rfl fun a S=>Va S rfl rfl fun a S=>Ld ?_
    replace S:=S.k9 2 8 9 10 11 13 14 15 16 rfl
    refine Tn (Fs ?_)
    obtain ⟨j1,hj1,h⟩:=Fk h
    refine Fa (fun a w'=>∃ x1 : Int,j1 x1 = some r ∧ Sx w [] nov [] [(2,.int .u64 (Gm .u64 Bn (IntKind.wrap .u64 r1))),(8,.int .u64 (IntKind.wrap .u64 r1)),(9,.int .u64 (Hq .u64 (Gm .u64 Bn (IntKind.wrap .u64 r1)) 32)),(10,.int .u64 (Oz .u64 (Gm .u64 Bn (IntKind.wrap .u64 r1)) 4294967295)),(11,.int .u64 (Ue .u64 (Gm .u64 Co (IntKind.wrap .u64 r1)) (Hq .u64 Bp (IntKind.wrap .u64 (64 - (IntKind.wrap .u64 r1)))))),(13,.int .u64 (Hq .u64 (Gm .u64 Bp (IntKind.wrap .u64 r1)) 32)),(14,.int .u64 (Oz .u64 (Gm .u64 Bp (IntKind.wrap .u64 r1)) 4294967295)),(15,.int .u64 x1)] 135 a w') ?_ ?_
    ·refine wp_block (Hs (fun (m1 : Nat) a w'=>∃ x1 : Int,∃ x2 : Int,Rl Bp r1 Bn j1 m1 x1 x2 = some r ∧ Sx w [] nov [] [(2,.int .u64 (Gm .u64 Bn (IntKind.wrap .u64 r1))),(8,.int .u64 (IntKind.wrap .u64 r1)),(9,.int .u64 (Hq .u64 (Gm .u64 Bn (IntKind.wrap .u64 r1)) 32)),(10,.int .u64 (Oz .u64 (Gm .u64 Bn (IntKind.wrap .u64 r1)) 4294967295)),(11,.int .u64 (Ue .u64 (Gm .u64 Co (IntKind.wrap .u64 r1)) (Hq .u64 Bp (IntKind.wrap .u64 (64 - (IntKind.wrap .u64 r1)))))),(13,.int .u64 (Hq .u64 (Gm .u64 Bp (IntKind.wrap .u64 r1)) 32)),(14,.int .u64 (Oz .u64 (Gm .u64 Bp (IntKind.wrap .u64 r1)) 4294967295)),(15,.int .u64 x1),(16,.int .u64 x2)] 135 a w') id (((IntKind.wrap .u64 (Int.tdiv (Ue .u64 (Gm .u64 Co (IntKind.wrap .u64 r1)) (Hq .u64 Bp (IntKind.wrap .u64 (64 - (IntKind.wrap .u64 r1))))) (Hq .u64 (Gm .u64 Bn (IntKind.wrap .u64 r1)) 32))) - 4294967296).toNat + 2) ⟨IntKind.wrap .u64 (Int.tdiv (Ue .u64 (Gm .u64 Co (IntKind.wrap .u64 r1)) (Hq .u64 Bp (IntKind.wrap .u64 (64 - (IntKind.wrap .u64 r1))))) (Hq .u64 (Gm .u64 Bn (IntKind.wrap .u64 r1)) 32)),IntKind.wrap .u64 ((Ue .u64 (Gm .u64 Co (IntKind.wrap .u64 r1)) (Hq .u64 Bp (IntKind.wrap .u64 (64 - (IntKind.wrap .u64 r1))))) - (IntKind.wrap .u64 ((IntKind.wrap .u64 (Int.tdiv (Ue .u64 (Gm .u64 Co (IntKind.wrap .u64 r1)) (Hq .u64 Bp (IntKind.wrap .u64 (64 - (IntKind.wrap .u64 r1))))) (Hq .u64 (Gm .u64 Bn (IntKind.wrap .u64 r1)) 32))) * (Hq .u64 (Gm .u64 Bn (IntKind.wrap .u64 r1)) 32)))),h,S.nf [] rfl (subR rfl)⟩ ?_)
     clear S h;rintro m1 a w3 ⟨x1,x2,h,S⟩
     cases m1 with
     | zero=>rw [Rl.eq_1] at h;cases h
     | succ m1 =>
      rw [Rl.eq_2] at h
      refine Fs (Fr (Vm S rfl rfl fun a S=>Vq S Re rfl rfl rfl fun a S=>Vm S rfl rfl fun a S=>Io 9 (fun a w'=>Keep [] w3 w' ∧ Sx w [] nov [] [(2,.int .u64 (Gm .u64 Bn (IntKind.wrap .u64 r1))),(8,.int .u64 (IntKind.wrap .u64 r1)),(9,.int .u64 (Hq .u64 (Gm .u64 Bn (IntKind.wrap .u64 r1)) 32)),(10,.int .u64 (Oz .u64 (Gm .u64 Bn (IntKind.wrap .u64 r1)) 4294967295)),(11,.int .u64 (Ue .u64 (Gm .u64 Co (IntKind.wrap .u64 r1)) (Hq .u64 Bp (IntKind.wrap .u64 (64 - (IntKind.wrap .u64 r1)))))),(13,.int .u64 (Hq .u64 (Gm .u64 Bp (IntKind.wrap .u64 r1)) 32)),(14,.int .u64 (Oz .u64 (Gm .u64 Bp (IntKind.wrap .u64 r1)) 4294967295)),(15,.int .u64 x1),(16,.int .u64 x2),(78,bV ((decide (4294967296 ≤ x1)) || (decide ((IntKind.wrap .u64 ((IntKind.wrap .u64 (4294967296 * x2)) + (Hq .u64 (Gm .u64 Bp (IntKind.wrap .u64 r1)) 32))) < (IntKind.wrap .u64 (x1 * (Oz .u64 (Gm .u64 Bn (IntKind.wrap .u64 r1)) 4294967295)))))))] 135 a w') ?_ ?_))
      ·rcases Bool.eq_false_or_eq_true (decide (4294967296 ≤ x1)) with hb4 | hb4
       ·iterate 8 (refine Hk S rfl rfl rfl (Ng hb4) rfl ?_ rfl;clear S;intro a S)
        exact lv S (Lk (decide ((IntKind.wrap .u64 ((IntKind.wrap .u64 (4294967296 * x2)) + (Hq .u64 (Gm .u64 Bp (IntKind.wrap .u64 r1)) 32))) < (IntKind.wrap .u64 (x1 * (Oz .u64 (Gm .u64 Bn (IntKind.wrap .u64 r1)) 4294967295))))) hb4 (S.tm rfl) rfl) rfl fun a S=>Dl (⟨Keep.refl _ _,S.nf [] rfl (subR rfl)⟩)
       ·refine Em S rfl rfl rfl hb4 (Vm S rfl rfl fun a S=>Em S rfl rfl rfl hb4 (Vm S rfl rfl fun a S=>Em S rfl rfl rfl hb4 (Vb S Qt rfl rfl rfl fun a S=>Em S rfl rfl rfl hb4 (Vm S rfl rfl fun a S=>Em S rfl rfl rfl hb4 (Vu S (Qt rfl) rfl rfl fun a S=>Em S rfl rfl rfl hb4 ?_)))))
        exact Vm S rfl rfl fun a S=>Em S rfl rfl rfl hb4 (Vb S Xg rfl rfl rfl fun a S=>Em S rfl rfl rfl hb4 (Vb S Jz rfl rfl rfl fun a S=>lv S (Ll hb4 (S.tm rfl) (S.tm rfl)) rfl fun a S=>Dl (⟨Keep.refl _ _,S.nf [] rfl (subR rfl)⟩)))
      clear S;rintro a w5 ⟨hk3,S⟩
      refine Dl (Fc h (S.tm rfl) (fun hb5 h=>?_) (fun hb5 h=>?_))
      ·refine wp_skip (Tn (wp_block (Fr (Vm S rfl rfl fun a S=>Vq S BK rfl rfl rfl fun a S=>Va S rfl rfl fun a S=>Dl (Fs ?_)))))
       refine Fg (Vm S rfl rfl fun a S=>Vm S rfl rfl fun a S=>Vb S Xg rfl rfl rfl fun a S=>Va S rfl rfl fun a S=>Ld ?_)
       replace S:=S.k9 2 8 9 10 11 13 14 15 16 rfl
       refine Tn (Fr (Vm S rfl rfl fun a S=>Vq S Re rfl rfl rfl fun a S=>Dl (Fc h (S.tm rfl) (fun hb6 h=>?_) (fun hb6 h=>?_))))
       ·exact wp_exit (NH rfl (Ew (Hl (Tn (⟨IntKind.wrap .u64 (x1 - 1),h,S.nf [] rfl (subR rfl)⟩)))))
       ·exact wp_skip (Im (Tn (⟨m1,⟨IntKind.wrap .u64 (x1 - 1),IntKind.wrap .u64 (x2 + (Hq .u64 (Gm .u64 Bn (IntKind.wrap .u64 r1)) 32)),h,S.nf [] rfl ⟨rfl,rfl,rfl,rfl,rfl,rfl,rfl,rfl,rfl,trivial⟩⟩,Nat.lt_succ_self _⟩)))
      ·exact wp_exit (Ew (Ew (Hl (Tn (⟨x1,h,S.nf [] rfl (subR rfl)⟩)))))
    clear S h;rintro a w4 ⟨x1,h,S⟩;rw [hj1] at h;clear hj1 j1
    refine Tn (Fr (Vm S rfl rfl fun a S=>Vq S Qt rfl rfl rfl fun a S=>Vm S rfl rfl fun a S=>Vb S Xg rfl rfl rfl fun a S=>Vm S rfl rfl fun a S=>Vm S rfl rfl fun a S=>Vb S Qt rfl rfl rfl fun a S=>Vb S BK rfl rfl rfl ?_));clear S;intro a S
    refine Va S rfl rfl fun a S=>Ld ?_
    replace S:=S.k7 2 8 9 10 14 15 17 rfl
    refine Tn (Fr (Vm S rfl rfl fun a S=>Vm S rfl rfl ?_));clear S;intro a S
    obtain ⟨hc8,h⟩:=Jc h
    refine lv S (ND (S.tm rfl) (S.tm rfl) (Wg hc8)) rfl fun a S=>Va S rfl rfl fun a S=>Dl (Fs (Fg ?_))
    iterate 3 (refine Vm S rfl rfl ?_;clear S;intro a S)
    refine Vb S Qt rfl rfl rfl fun a S=>Vb S BK rfl rfl rfl fun a S=>Va S rfl rfl fun a S=>Ld ?_
    replace S:=S.k9 2 8 9 10 14 15 16 17 18 rfl
    refine Tn (Fs ?_)
    obtain ⟨j2,hj2,h⟩:=Fk h
    refine Fa (fun a w'=>∃ x4 : Int,j2 x4 = some r ∧ Sx w [] nov [] [(2,.int .u64 (Gm .u64 Bn (IntKind.wrap .u64 r1))),(8,.int .u64 (IntKind.wrap .u64 r1)),(14,.int .u64 (Oz .u64 (Gm .u64 Bp (IntKind.wrap .u64 r1)) 4294967295)),(15,.int .u64 x1),(17,.int .u64 (IntKind.wrap .u64 ((IntKind.wrap .u64 ((IntKind.wrap .u64 ((Ue .u64 (Gm .u64 Co (IntKind.wrap .u64 r1)) (Hq .u64 Bp (IntKind.wrap .u64 (64 - (IntKind.wrap .u64 r1))))) * 4294967296)) + (Hq .u64 (Gm .u64 Bp (IntKind.wrap .u64 r1)) 32))) - (IntKind.wrap .u64 (x1 * (Gm .u64 Bn (IntKind.wrap .u64 r1))))))),(18,.int .u64 x4)] 135 a w') ?_ ?_
    ·refine wp_block (Hs (fun (m2 : Nat) a w'=>∃ x3 : Int,∃ x4 : Int,Ro Bp r1 Bn j2 m2 x3 x4 = some r ∧ Sx w [] nov [] [(2,.int .u64 (Gm .u64 Bn (IntKind.wrap .u64 r1))),(8,.int .u64 (IntKind.wrap .u64 r1)),(9,.int .u64 (Hq .u64 (Gm .u64 Bn (IntKind.wrap .u64 r1)) 32)),(10,.int .u64 (Oz .u64 (Gm .u64 Bn (IntKind.wrap .u64 r1)) 4294967295)),(14,.int .u64 (Oz .u64 (Gm .u64 Bp (IntKind.wrap .u64 r1)) 4294967295)),(15,.int .u64 x1),(16,.int .u64 x3),(17,.int .u64 (IntKind.wrap .u64 ((IntKind.wrap .u64 ((IntKind.wrap .u64 ((Ue .u64 (Gm .u64 Co (IntKind.wrap .u64 r1)) (Hq .u64 Bp (IntKind.wrap .u64 (64 - (IntKind.wrap .u64 r1))))) * 4294967296)) + (Hq .u64 (Gm .u64 Bp (IntKind.wrap .u64 r1)) 32))) - (IntKind.wrap .u64 (x1 * (Gm .u64 Bn (IntKind.wrap .u64 r1))))))),(18,.int .u64 x4)] 135 a w') id (((IntKind.wrap .u64 (Int.tdiv (IntKind.wrap .u64 ((IntKind.wrap .u64 ((IntKind.wrap .u64 ((Ue .u64 (Gm .u64 Co (IntKind.wrap .u64 r1)) (Hq .u64 Bp (IntKind.wrap .u64 (64 - (IntKind.wrap .u64 r1))))) * 4294967296)) + (Hq .u64 (Gm .u64 Bp (IntKind.wrap .u64 r1)) 32))) - (IntKind.wrap .u64 (x1 * (Gm .u64 Bn (IntKind.wrap .u64 r1)))))) (Hq .u64 (Gm .u64 Bn (IntKind.wrap .u64 r1)) 32))) - 4294967296).toNat + 2) ⟨IntKind.wrap .u64 ((IntKind.wrap .u64 ((IntKind.wrap .u64 ((IntKind.wrap .u64 ((Ue .u64 (Gm .u64 Co (IntKind.wrap .u64 r1)) (Hq .u64 Bp (IntKind.wrap .u64 (64 - (IntKind.wrap .u64 r1))))) * 4294967296)) + (Hq .u64 (Gm .u64 Bp (IntKind.wrap .u64 r1)) 32))) - (IntKind.wrap .u64 (x1 * (Gm .u64 Bn (IntKind.wrap .u64 r1)))))) - (IntKind.wrap .u64 ((IntKind.wrap .u64 (Int.tdiv (IntKind.wrap .u64 ((IntKind.wrap .u64 ((IntKind.wrap .u64 ((Ue .u64 (Gm .u64 Co (IntKind.wrap .u64 r1)) (Hq .u64 Bp (IntKind.wrap .u64 (64 - (IntKind.wrap .u64 r1))))) * 4294967296)) + (Hq .u64 (Gm .u64 Bp (IntKind.wrap .u64 r1)) 32))) - (IntKind.wrap .u64 (x1 * (Gm .u64 Bn (IntKind.wrap .u64 r1)))))) (Hq .u64 (Gm .u64 Bn (IntKind.wrap .u64 r1)) 32))) * (Hq .u64 (Gm .u64 Bn (IntKind.wrap .u64 r1)) 32)))),IntKind.wrap .u64 (Int.tdiv (IntKind.wrap .u64 ((IntKind.wrap .u64 ((IntKind.wrap .u64 ((Ue .u64 (Gm .u64 Co (IntKind.wrap .u64 r1)) (Hq .u64 Bp (IntKind.wrap .u64 (64 - (IntKind.wrap .u64 r1))))) * 4294967296)) + (Hq .u64 (Gm .u64 Bp (IntKind.wrap .u64 r1)) 32))) - (IntKind.wrap .u64 (x1 * (Gm .u64 Bn (IntKind.wrap .u64 r1)))))) (Hq .u64 (Gm .u64 Bn (IntKind.wrap .u64 r1)) 32)),h,S.nf [] rfl (subR rfl)⟩ ?_)
     clear S h;rintro m2 a w6 ⟨x3,x4,h,S⟩
     cases m2 with
     | zero=>rw [Ro.eq_1] at h;cases h
     | succ m2 =>
      rw [Ro.eq_2] at h
      refine Fs (Fr (Vm S rfl rfl fun a S=>Vq S Re rfl rfl rfl fun a S=>Vm S rfl rfl fun a S=>Io 9 (fun a w'=>Keep [] w6 w' ∧ Sx w [] nov [] [(2,.int .u64 (Gm .u64 Bn (IntKind.wrap .u64 r1))),(8,.int .u64 (IntKind.wrap .u64 r1)),(9,.int .u64 (Hq .u64 (Gm .u64 Bn (IntKind.wrap .u64 r1)) 32)),(10,.int .u64 (Oz .u64 (Gm .u64 Bn (IntKind.wrap .u64 r1)) 4294967295)),(14,.int .u64 (Oz .u64 (Gm .u64 Bp (IntKind.wrap .u64 r1)) 4294967295)),(15,.int .u64 x1),(16,.int .u64 x3),(17,.int .u64 (IntKind.wrap .u64 ((IntKind.wrap .u64 ((IntKind.wrap .u64 ((Ue .u64 (Gm .u64 Co (IntKind.wrap .u64 r1)) (Hq .u64 Bp (IntKind.wrap .u64 (64 - (IntKind.wrap .u64 r1))))) * 4294967296)) + (Hq .u64 (Gm .u64 Bp (IntKind.wrap .u64 r1)) 32))) - (IntKind.wrap .u64 (x1 * (Gm .u64 Bn (IntKind.wrap .u64 r1))))))),(18,.int .u64 x4),(113,bV ((decide (4294967296 ≤ x4)) || (decide ((IntKind.wrap .u64 ((IntKind.wrap .u64 (4294967296 * x3)) + (Oz .u64 (Gm .u64 Bp (IntKind.wrap .u64 r1)) 4294967295))) < (IntKind.wrap .u64 (x4 * (Oz .u64 (Gm .u64 Bn (IntKind.wrap .u64 r1)) 4294967295)))))))] 135 a w') ?_ ?_))
      ·rcases Bool.eq_false_or_eq_true (decide (4294967296 ≤ x4)) with hb7 | hb7
       ·iterate 8 (refine Hk S rfl rfl rfl (Ng hb7) rfl ?_ rfl;clear S;intro a S)
        exact lv S (Lk (decide ((IntKind.wrap .u64 ((IntKind.wrap .u64 (4294967296 * x3)) + (Oz .u64 (Gm .u64 Bp (IntKind.wrap .u64 r1)) 4294967295))) < (IntKind.wrap .u64 (x4 * (Oz .u64 (Gm .u64 Bn (IntKind.wrap .u64 r1)) 4294967295))))) hb7 (S.tm rfl) rfl) rfl fun a S=>Dl (⟨Keep.refl _ _,S.nf [] rfl (subR rfl)⟩)
       ·refine Em S rfl rfl rfl hb7 (Vm S rfl rfl fun a S=>Em S rfl rfl rfl hb7 (Vm S rfl rfl fun a S=>Em S rfl rfl rfl hb7 (Vb S Qt rfl rfl rfl fun a S=>Em S rfl rfl rfl hb7 (Vm S rfl rfl fun a S=>Em S rfl rfl rfl hb7 (Vu S (Qt rfl) rfl rfl fun a S=>Em S rfl rfl rfl hb7 ?_)))))
        exact Vm S rfl rfl fun a S=>Em S rfl rfl rfl hb7 (Vb S Xg rfl rfl rfl fun a S=>Em S rfl rfl rfl hb7 (Vb S Jz rfl rfl rfl fun a S=>lv S (Ll hb7 (S.tm rfl) (S.tm rfl)) rfl fun a S=>Dl (⟨Keep.refl _ _,S.nf [] rfl (subR rfl)⟩)))
      clear S;rintro a w8 ⟨hk4,S⟩
      refine Dl (Fc h (S.tm rfl) (fun hb8 h=>?_) (fun hb8 h=>?_))
      ·refine wp_skip (Tn (wp_block (Fr (Vm S rfl rfl fun a S=>Vq S BK rfl rfl rfl fun a S=>Va S rfl rfl fun a S=>Dl (Fs ?_)))))
       refine Fg (Vm S rfl rfl fun a S=>Vm S rfl rfl fun a S=>Vb S Xg rfl rfl rfl fun a S=>Va S rfl rfl fun a S=>Ld ?_)
       replace S:=S.k9 2 8 9 10 14 15 16 17 18 rfl
       refine Tn (Fr (Vm S rfl rfl fun a S=>Vq S Re rfl rfl rfl fun a S=>Dl (Fc h (S.tm rfl) (fun hb9 h=>?_) (fun hb9 h=>?_))))
       ·exact wp_exit (NH rfl (Ew (Hl (Tn (⟨IntKind.wrap .u64 (x4 - 1),h,S.nf [] rfl (subR rfl)⟩)))))
       ·exact wp_skip (Im (Tn (⟨m2,⟨IntKind.wrap .u64 (x3 + (Hq .u64 (Gm .u64 Bn (IntKind.wrap .u64 r1)) 32)),IntKind.wrap .u64 (x4 - 1),h,S.nf [] rfl ⟨rfl,rfl,rfl,rfl,rfl,rfl,rfl,rfl,rfl,trivial⟩⟩,Nat.lt_succ_self _⟩)))
      ·exact wp_exit (Ew (Ew (Hl (Tn (⟨x4,h,S.nf [] rfl (subR rfl)⟩)))))
    clear S h;rintro a w7 ⟨x4,h,S⟩;rw [hj2] at h;clear hj2 j2
    refine Tn (Fr (Vm S rfl rfl fun a S=>Vq S Qt rfl rfl rfl fun a S=>Vm S rfl rfl fun a S=>Vb S Xg rfl rfl rfl fun a S=>Vm S rfl rfl fun a S=>Vq S Qt rfl rfl rfl fun a S=>Vm S rfl rfl fun a S=>Vb S Xg rfl rfl rfl ?_));clear S;intro a S
    refine Vm S rfl rfl fun a S=>Vm S rfl rfl fun a S=>Vb S Qt rfl rfl rfl fun a S=>Vb S BK rfl rfl rfl fun a S=>Vm S rfl rfl ?_;clear S;intro a S
    obtain ⟨hc9,h⟩:=Jc h
    refine lv S (Xh (S.tm rfl) (S.tm rfl) (of_decide_eq_true hc9)) rfl fun a S=>Va S rfl rfl fun a S=>Va S rfl rfl fun a S=>Ld ?_
    replace S:=S.k2 6 7 rfl
    refine Tn (wp_ret ?_)
    obtain rfl:=Option.some.inj h
    exact Nz S results109 rfl rfl rfl
theorem HV (w : World) (Bv : Int) (Cd : Int) (r : Int) (h : AM Bv Cd = some r) :
    Calls prog 74 [iV Bv,iV Cd].toArray w (Ret w [] fun _ v _=>v = iV r):=by
 refine Fe func74 rfl ntmps74 rfl fun a S=>?_
 unfold AM at h
 replace S:=S.k2 0 1 rfl
 refine Fr (Vk S rfl rfl fun a S=>Dz (Vm S rfl rfl fun a S=>Vu S (Xi underlying3 underlying144) rfl rfl fun a S=>Vm S rfl rfl fun a S=>Vu S (Xi underlying3 underlying144) rfl rfl ?_));clear S;intro a S
 refine Va S rfl rfl fun a S=>Va S rfl rfl fun a S=>Dz (Vm S rfl rfl fun a S=>Vm S rfl rfl fun a S=>Vb S Qt rfl rfl rfl fun a S=>Vm S rfl rfl fun a S=>Vb S Qt rfl rfl rfl ?_);clear S;intro a S
 refine Er S (fun _=>Ei (vs:=[.int .u64 (IntKind.wrap .u64 ((IntKind.wrap .u64 ((IntKind.wrap .u64 Bv) * (IntKind.wrap .u64 Bv))) * (IntKind.wrap .u64 Bv))),.int .u64 1000]) ⟨(S.tm rfl),rfl,trivial⟩ call108) (LO _ (IntKind.wrap .u64 ((IntKind.wrap .u64 ((IntKind.wrap .u64 Bv) * (IntKind.wrap .u64 Bv))) * (IntKind.wrap .u64 Bv))) 1000 _ rfl) rfl ?_;clear S;intro v1 a w1 hv1 hk1 hn1 S
 subst hv1
 refine Vm S rfl rfl fun a S=>Vq S Ia rfl rfl rfl fun a S=>Vq S Ia rfl rfl rfl fun a S=>Va S rfl rfl fun a S=>Va S rfl rfl fun a S=>Ld ?_
 replace S:=S.k3 6 7 8 rfl
 refine Tn (Fr (Vm S rfl rfl fun a S=>Vm S rfl rfl fun a S=>Vb S Qt rfl rfl rfl fun a S=>Vm S rfl rfl fun a S=>Vb S Qt rfl rfl rfl fun a S=>Va S rfl rfl fun a S=>Dl ?_))
 refine Fs (Fr (Vm S rfl rfl fun a S=>Vm S rfl rfl fun a S=>Vb S Re rfl rfl rfl fun a S=>Dl (Fc h (S.tm rfl) (fun hb1 h=>?_) (fun hb1 h=>?_))))
 ·refine Fr (Vk S rfl rfl fun a S=>Dl (wp_ret (Ek ?_)))
  obtain rfl:=Option.some.inj h
  exact Fd S results74 rfl rfl
 ·refine wp_skip (Tn (Fs (Fg ?_)))
  iterate 3 (refine Vm S rfl rfl ?_;clear S;intro a S)
  obtain ⟨r1,hr1,h⟩:=Ga h
  refine Er S (fun _=>Ei (vs:=[.int .u64 ((Tz (IntKind.wrap .u64 ((IntKind.wrap .u64 ((IntKind.wrap .u64 Bv) * (IntKind.wrap .u64 Bv))) * (IntKind.wrap .u64 Bv))) 1000).1),.int .u64 ((Tz (IntKind.wrap .u64 ((IntKind.wrap .u64 ((IntKind.wrap .u64 Bv) * (IntKind.wrap .u64 Bv))) * (IntKind.wrap .u64 Bv))) 1000).2),.int .u64 (IntKind.wrap .u64 ((IntKind.wrap .u64 ((IntKind.wrap .u64 Cd) * (IntKind.wrap .u64 Cd))) * (IntKind.wrap .u64 Cd)))]) ⟨(S.tm rfl),(S.tm rfl),(S.tm rfl),trivial⟩ call109) (LP _ ((Tz (IntKind.wrap .u64 ((IntKind.wrap .u64 ((IntKind.wrap .u64 Bv) * (IntKind.wrap .u64 Bv))) * (IntKind.wrap .u64 Bv))) 1000).1) ((Tz (IntKind.wrap .u64 ((IntKind.wrap .u64 ((IntKind.wrap .u64 Bv) * (IntKind.wrap .u64 Bv))) * (IntKind.wrap .u64 Bv))) 1000).2) (IntKind.wrap .u64 ((IntKind.wrap .u64 ((IntKind.wrap .u64 Cd) * (IntKind.wrap .u64 Cd))) * (IntKind.wrap .u64 Cd))) _ hr1) rfl ?_;clear S;intro v2 a w2 hv2 hk2 hn2 S
  subst hv2
  refine Vm S rfl rfl fun a S=>Vq S Ia rfl rfl rfl fun a S=>Vq S Ia rfl rfl rfl fun a S=>Va S rfl rfl fun a S=>Va S rfl rfl fun a S=>Ld ?_
  replace S:=S.k1 9 rfl
  refine Tn (Fr (Vm S rfl rfl fun a S=>Vq S rn_min2 rfl rfl rfl fun a S=>Vu S (Xi underlying144 underlying3) rfl rfl fun a S=>Va S rfl rfl fun a S=>Dl (wp_ret ?_)))
  obtain rfl:=Option.some.inj h
  exact Fd S results74 rfl rfl
theorem HW (w : World) (Ab : Value) (Ad : List Sw) (Ae : Slc (view w []) 2 Ab (Ad.map Sw.enc)) (As : ByteArray) (Cd : Int) (r : Int × Int) (h : AN Ad As Cd = some r) :
    Calls prog 30 [Ab,sV As,iV Cd].toArray w (Ret w [] fun _ v _=>v = .tuple #[iV r.1,iV r.2]):=by
 refine Fe func30 rfl ntmps30 rfl fun a S=>?_
 unfold AN at h
 replace S:=S.k3 0 1 2 rfl
 refine Fr (Vk S rfl rfl fun a S=>Vk S rfl rfl fun a S=>Dl (Fs (Fr (Vm S rfl rfl ?_))));clear S;intro a S
 obtain ⟨r1,hr1,h⟩:=Ga h
 refine Er S (fun _=>Ei (vs:=[Ab]) ⟨(S.tm rfl),trivial⟩ call71) (EW _ Ab Ad (Ae.mono (S.le_arg Ez)) _ hr1) rfl ?_;clear S;intro v1 a w1 hv1 hk1 hn1 S
 subst hv1
 refine Va S rfl rfl fun a S=>Dz (Vm S rfl rfl fun a S=>Vq S Nt rfl rfl rfl fun a S=>Dl (Fc h (S.tm rfl) (fun hb1 h=>?_) (fun hb1 h=>?_)))
 ·refine Fr (Vm S rfl rfl fun a S=>Vk S rfl rfl fun a S=>Va S rfl rfl fun a S=>Dl (wp_ret (Ek ?_)))
  obtain rfl:=Option.some.inj h
  exact Nz S results30 rfl rfl rfl
 ·refine wp_skip (Tn (Fr (Vm S rfl rfl fun a S=>Vm S rfl rfl fun a S=>Er S (fun _=>Ei (vs:=[Ab,sV As]) ⟨(S.tm rfl),(S.tm rfl),trivial⟩ call72) (HU _ Ab Ad (Ae.mono (S.le_arg Ez)) As _ rfl) rfl ?_)));clear S;intro v2 a w2 hv2 hk2 hn2 S
  subst hv2
  refine Va S rfl rfl fun a S=>Dl (Fs (Fr (Vm S rfl rfl fun a S=>Vq S Jn rfl rfl rfl fun a S=>Ld ?_)))
  replace S:=S.k3 2 9 19 rfl
  refine Tn (Fc h (S.tm rfl) (fun hb2 h=>?_) (fun hb2 h=>?_))
  ·refine Fr (Vk S rfl rfl fun a S=>Vk S rfl rfl fun a S=>Dl (wp_ret (Ek ?_)))
   obtain rfl:=Option.some.inj h
   exact Nz S results30 rfl rfl rfl
  ·refine wp_skip (Tn (Fs (Fr (Vm S rfl rfl fun a S=>Er S (fun _=>Ei (vs:=[iV Cd]) ⟨(S.tm rfl),trivial⟩ call73) (Ye _ Cd _ rfl) rfl ?_))));clear S;intro v3 a w3 hv3 hk3 hn3 S
   subst hv3
   refine Vu S Ig rfl rfl fun a S=>Dl (Fc h (S.tm rfl) (fun hb3 h=>?_) (fun hb3 h=>?_))
   ·refine Fr (Vk S rfl rfl fun a S=>Vk S rfl rfl fun a S=>Dl (wp_ret (Ek ?_)))
    obtain rfl:=Option.some.inj h
    exact Nz S results30 rfl rfl rfl
   ·refine wp_skip (Tn (Fr (Vm S rfl rfl fun a S=>Vm S rfl rfl ?_)));clear S;intro a S
    obtain ⟨r2,hr2,h⟩:=Ga h
    refine Er S (fun _=>Ei (vs:=[iV (Ur Ad As),iV Cd]) ⟨(S.tm rfl),(S.tm rfl),trivial⟩ call74) (HV _ (Ur Ad As) Cd _ hr2) rfl ?_;clear S;intro v4 a w4 hv4 hk4 hn4 S
    subst hv4
    refine Va S rfl rfl fun a S=>Vk S rfl rfl fun a S=>Dl (wp_ret ?_)
    obtain rfl:=Option.some.inj h
    exact Nz S results30 rfl rfl rfl
theorem EX (w : World) (r : Bool) (h : Wb = some r) :
    Calls prog 13 [].toArray w (Ret w [] fun _ v _=>v = bV r):=by
 refine Fe func13 rfl ntmps13 rfl fun a S=>?_
 unfold Wb at h
 replace S:=S.k0
 refine Fr (Vk S rfl rfl fun a S=>Dz (lv S (Nc bt_86 (pv:=[(0,iV 2024),(1,iV 3),(2,iV 1)]) ⟨rfl,rfl,rfl,rfl,rfl,rfl,trivial⟩ (cs:=[iV 2024,iV 3,iV 1]) (by kernel_rfl)) rfl ?_));clear S;intro a S
 obtain ⟨r1,hr1,h⟩:=Ga h
 refine Er S (fun _=>Ei (vs:=[.agg (Nv.enc (Nv.mk 2024 3 1)).toArray]) ⟨(S.tm rfl),trivial⟩ call28) (HS _ (Nv.mk 2024 3 1) _ hr1) rfl ?_;clear S;intro v1 a w1 hv1 hk1 hn1 S
 subst hv1
 refine Vm S rfl rfl fun a S=>Vq S Ia rfl rfl rfl fun a S=>Vq S Ia rfl rfl rfl fun a S=>Va S rfl rfl fun a S=>Va S rfl rfl fun a S=>Dz (lv S (Nc bt_89 (pv:=[(0,sV k_a),(1,iV 2),(2,iV 10),(3,iV 5)]) ⟨rfl,rfl,rfl,rfl,rfl,rfl,rfl,rfl,trivial⟩ (cs:=[sV k_a,iV 2,iV 10,iV 5,iV 0]) (by kernel_rfl)) rfl fun a S=>Fq S underlying90 sizeOf89 zeroValue89 rfl rfl (pv:=[(0,.agg #[sV k_a,iV 2,iV 10,iV 5,iV 0])]) ⟨rfl,(S.tm rfl),trivial⟩ (cs:=[sV k_a,iV 2,iV 10,iV 5,iV 0]) (by kernel_rfl) rfl ?_);clear S;intro a w2 b1 hz1 hk2 S
 obtain ⟨r2,hr2,h⟩:=Ga h
 refine Er S (fun _=>Ei (vs:=[.slice (some ⟨b1,0,none⟩) 1 1,iV 0]) ⟨(S.tm rfl),rfl,trivial⟩ call29) (IZ _ (.slice (some ⟨b1,0,none⟩) 1 1) [(Oy.mk k_a 2 10 5 0)] (Lg Oy.enc_ok S (i:=0) rfl rfl rfl rfl ((Ik (e':=.blk b1 [sV k_a,iV 2,iV 10,iV 5,iV 0] 89)) _ rfl)) 0 _ hr2) rfl ?_;clear S;intro v2 a w3 hv2 hk3 hn2 S
 subst hv2
 refine Vm S rfl rfl fun a S=>Vq S Ia rfl rfl rfl fun a S=>Vq S Ia rfl rfl rfl fun a S=>Va S rfl rfl fun a S=>Va S rfl rfl fun a S=>Ld ?_
 replace S:=S.n0.k4 1 2 3 4 rfl
 refine Tn (Fr (lv S (Nc bt_93 (pv:=[(0,sV k_r),(1,iV 3000)]) ⟨rfl,rfl,rfl,rfl,trivial⟩ (cs:=[sV k_r,iV 3000]) (by kernel_rfl)) rfl fun a S=>Fq S underlying94 sizeOf93 zeroValue93 rfl rfl (pv:=[(0,.agg #[sV k_r,iV 3000])]) ⟨rfl,(S.tm rfl),trivial⟩ (cs:=[sV k_r,iV 3000]) (by kernel_rfl) rfl ?_));clear S;intro a w4 b2 hz2 hk4 S
 obtain ⟨r3,hr3,h⟩:=Ga h
 refine Er S (fun _=>Ei (vs:=[.slice (some ⟨b2,0,none⟩) 1 1,sV k_r,iV 6000]) ⟨(S.tm rfl),rfl,rfl,trivial⟩ call30) (HW _ (.slice (some ⟨b2,0,none⟩) 1 1) [(Sw.mk k_r 3000)] (Lg Sw.enc_ok S (i:=0) rfl rfl rfl rfl ((Ik (e':=.blk b2 [sV k_r,iV 3000] 93)) _ rfl)) k_r 6000 _ hr3) rfl ?_;clear S;intro v3 a w5 hv3 hk5 hn3 S
 subst hv3
 refine Vm S rfl rfl fun a S=>Vq S Ia rfl rfl rfl fun a S=>Vq S Ia rfl rfl rfl fun a S=>Va S rfl rfl fun a S=>Va S rfl rfl fun a S=>Dz (Vm S rfl rfl fun a S=>Vq S Jn rfl rfl rfl ?_);clear S;intro a S
 refine Vm S rfl rfl fun a S=>Io 3 (fun a w'=>Keep [] w5 w' ∧ Sx w [] nov [.blk b2 [sV k_r,iV 3000] 93] [(1,iV r1.1),(3,iV r2.1),(5,iV r3.1),(6,iV r3.2),(29,bV ((decide (r1.2 = 0)) && (decide (r2.2 = 0))))] 46 a w') ?_ ?_
 ·rcases Bool.eq_false_or_eq_true (decide (r1.2 = 0)) with hb1 | hb1
  ·exact Em S rfl rfl rfl hb1 (Vm S rfl rfl fun a S=>Em S rfl rfl rfl hb1 (Vq S Jn rfl rfl rfl fun a S=>lv S (Ii hb1 (S.tm rfl) (S.tm rfl)) rfl fun a S=>Dl (⟨Keep.refl _ _,S.nf [true] rfl (subR rfl)⟩)))
  ·exact Hk S rfl rfl rfl (Ka hb1) rfl (fun a S=>Hk S rfl rfl rfl (Ka hb1) rfl (fun a S=>lv S (Ij (decide (r2.2 = 0)) hb1 (S.tm rfl) rfl) rfl fun a S=>Dl (⟨Keep.refl _ _,S.nf [true] rfl (subR rfl)⟩)) rfl) rfl
 clear S;rintro a w6 ⟨hk6,S⟩
 refine Vm S rfl rfl fun a S=>Io 3 (fun a w'=>Keep [] w6 w' ∧ Sx w [] nov [.blk b2 [sV k_r,iV 3000] 93] [(1,iV r1.1),(3,iV r2.1),(5,iV r3.1),(33,bV (((decide (r1.2 = 0)) && (decide (r2.2 = 0))) && (decide (r3.2 = 0))))] 46 a w') ?_ ?_
 ·rcases Bool.eq_false_or_eq_true ((decide (r1.2 = 0)) && (decide (r2.2 = 0))) with hb2 | hb2
  ·exact Em S rfl rfl rfl hb2 (Vm S rfl rfl fun a S=>Em S rfl rfl rfl hb2 (Vq S Jn rfl rfl rfl fun a S=>lv S (Ii hb2 (S.tm rfl) (S.tm rfl)) rfl fun a S=>Dl (⟨Keep.refl _ _,S.nf [true] rfl (subR rfl)⟩)))
  ·exact Hk S rfl rfl rfl (Ka hb2) rfl (fun a S=>Hk S rfl rfl rfl (Ka hb2) rfl (fun a S=>lv S (Ij (decide (r3.2 = 0)) hb2 (S.tm rfl) rfl) rfl fun a S=>Dl (⟨Keep.refl _ _,S.nf [true] rfl (subR rfl)⟩)) rfl) rfl
 clear S;rintro a w7 ⟨hk7,S⟩
 refine Vm S rfl rfl fun a S=>Io 3 (fun a w'=>Keep [] w7 w' ∧ Sx w [] nov [.blk b2 [sV k_r,iV 3000] 93] [(3,iV r2.1),(5,iV r3.1),(37,bV ((((decide (r1.2 = 0)) && (decide (r2.2 = 0))) && (decide (r3.2 = 0))) && (decide (r1.1 = 60))))] 46 a w') ?_ ?_
 ·rcases Bool.eq_false_or_eq_true (((decide (r1.2 = 0)) && (decide (r2.2 = 0))) && (decide (r3.2 = 0))) with hb3 | hb3
  ·exact Em S rfl rfl rfl hb3 (Vm S rfl rfl fun a S=>Em S rfl rfl rfl hb3 (Vq S Jn rfl rfl rfl fun a S=>lv S (Ii hb3 (S.tm rfl) (S.tm rfl)) rfl fun a S=>Dl (⟨Keep.refl _ _,S.nf [true] rfl (subR rfl)⟩)))
  ·exact Hk S rfl rfl rfl (Ka hb3) rfl (fun a S=>Hk S rfl rfl rfl (Ka hb3) rfl (fun a S=>lv S (Ij (decide (r1.1 = 60)) hb3 (S.tm rfl) rfl) rfl fun a S=>Dl (⟨Keep.refl _ _,S.nf [true] rfl (subR rfl)⟩)) rfl) rfl
 clear S;rintro a w8 ⟨hk8,S⟩
 refine Vm S rfl rfl fun a S=>Io 3 (fun a w'=>Keep [] w8 w' ∧ Sx w [] nov [.blk b2 [sV k_r,iV 3000] 93] [(5,iV r3.1),(41,bV (((((decide (r1.2 = 0)) && (decide (r2.2 = 0))) && (decide (r3.2 = 0))) && (decide (r1.1 = 60))) && (decide (r2.1 = 25))))] 46 a w') ?_ ?_
 ·rcases Bool.eq_false_or_eq_true ((((decide (r1.2 = 0)) && (decide (r2.2 = 0))) && (decide (r3.2 = 0))) && (decide (r1.1 = 60))) with hb4 | hb4
  ·exact Em S rfl rfl rfl hb4 (Vm S rfl rfl fun a S=>Em S rfl rfl rfl hb4 (Vq S Jn rfl rfl rfl fun a S=>lv S (Ii hb4 (S.tm rfl) (S.tm rfl)) rfl fun a S=>Dl (⟨Keep.refl _ _,S.nf [true] rfl (subR rfl)⟩)))
  ·exact Hk S rfl rfl rfl (Ka hb4) rfl (fun a S=>Hk S rfl rfl rfl (Ka hb4) rfl (fun a S=>lv S (Ij (decide (r2.1 = 25)) hb4 (S.tm rfl) rfl) rfl fun a S=>Dl (⟨Keep.refl _ _,S.nf [true] rfl (subR rfl)⟩)) rfl) rfl
 clear S;rintro a w9 ⟨hk9,S⟩
 refine Vm S rfl rfl fun a S=>Io 3 (fun a w'=>Keep [] w9 w' ∧ Sx w [] nov [.blk b2 [sV k_r,iV 3000] 93] [(45,bV ((((((decide (r1.2 = 0)) && (decide (r2.2 = 0))) && (decide (r3.2 = 0))) && (decide (r1.1 = 60))) && (decide (r2.1 = 25))) && (decide (r3.1 = 125))))] 46 a w') ?_ ?_
 ·rcases Bool.eq_false_or_eq_true (((((decide (r1.2 = 0)) && (decide (r2.2 = 0))) && (decide (r3.2 = 0))) && (decide (r1.1 = 60))) && (decide (r2.1 = 25))) with hb5 | hb5
  ·exact Em S rfl rfl rfl hb5 (Vm S rfl rfl fun a S=>Em S rfl rfl rfl hb5 (Vq S Jn rfl rfl rfl fun a S=>lv S (Ii hb5 (S.tm rfl) (S.tm rfl)) rfl fun a S=>Dl (⟨Keep.refl _ _,S.nf [true] rfl ⟨rfl,trivial⟩⟩)))
  ·exact Hk S rfl rfl rfl (Ka hb5) rfl (fun a S=>Hk S rfl rfl rfl (Ka hb5) rfl (fun a S=>lv S (Ij (decide (r3.1 = 125)) hb5 (S.tm rfl) rfl) rfl fun a S=>Dl (⟨Keep.refl _ _,S.nf [true] rfl ⟨rfl,trivial⟩⟩)) rfl) rfl
 clear S;rintro a w10 ⟨hk10,S⟩
 refine Va S rfl rfl fun a S=>Dl (wp_ret ?_)
 obtain rfl:=Option.some.inj h
 exact Fd S results13 rfl rfl
theorem Xx (w : World) (Ab : Value) (Ad : List Int) (Ae : Slc (view w []) 1 Ab (Ad.map eInt)) (r : Bool) (h : Ow Ad = some r) :
    Calls prog 3 [Ab].toArray w (Ret w [] fun _ v _=>v = bV r):=by
 refine Fe func3 rfl ntmps3 rfl fun a S=>?_
 unfold Ow at h
 replace S:=S.k1 0 rfl
 refine Fr (Vk S rfl rfl fun a S=>Dz (Vm S rfl rfl ?_));clear S;intro a S
 refine lv S (Nc bt_25 (pv:=[(0,Ab)]) ⟨rfl,(S.tm rfl),trivial⟩ (cs:=[Ab,iV 0]) (by obtain ⟨_,_,hv⟩:=(Gk Ae);rw [hv];clear hv;kernel_rfl)) rfl ?_;clear S;intro a S
 refine Mk S (S.tm rfl) (cs:=[Ab,iV 0]) rfl rfl ?_;clear S;intro a w1 b1 hz1 hk1 S
 refine Va S rfl rfl fun a S=>Dz (Vm S rfl rfl ?_);clear S;intro a S
 obtain ⟨r1,hr1,h⟩:=Ga h
 have hz2:=S.keep.size
 refine Ir 0 S (b:=b1) rfl rfl (fun _=>.blk b1 [Ab,iV r1.2] 25) (fun _=>Ei (vs:=[.pointer (some ⟨b1,0,none⟩)]) ⟨(S.tm rfl),trivial⟩ call4) (EO _ b1 Ab Ad (Ae.mono (S.le_arg (Jr (i:=0) (e:=.blk b1 [Ab,iV 0] 25) rfl))) 0 (S.holds _ (List.mem_of_getElem? (i:=0) rfl)) _ hr1) rfl (fun _ _ _ h=>⟨h.1,fun _ hc=>by cases hc;rfl⟩) ?_;clear S;intro v1 a w2 hv1 hk2 hn1 S
 replace hv1:=hv1.2
 obtain ⟨q1,rfl,hq1⟩:=hv1
 obtain ⟨φ1,hl1,hm1,S⟩:=S.see' hn1 hz2
 obtain ⟨u2,u3,rfl,hs1,⟨u4,rfl,hs2⟩⟩:=AD hm1 _ _ hq1
 refine Vm S rfl rfl fun a S=>Vm S rfl rfl ?_;clear S;intro a S
 obtain ⟨r2,hr2,h⟩:=Ga h
 refine Ir 0 S (b:=b1) rfl rfl (fun _=>.blk b1 [Ab,iV r2.2] 25) (fun _=>Ei (vs:=[.pointer (some ⟨b1,0,none⟩),iV 4,iV 16]) ⟨(S.tm rfl),rfl,rfl,trivial⟩ call6) (Qx _ b1 Ab Ad (Ae.mono (S.le_arg (Jr (i:=0) (e:=.blk b1 [Ab,iV r1.2] 25) rfl))) r1.2 (S.holds _ (List.mem_of_getElem? (i:=0) rfl)) 4 16 _ hr2) rfl (fun _ _ _ h=>⟨h.1,fun _ hc=>by cases hc;rfl⟩) ?_;clear S;intro v2 a w3 hv2 hk3 hn2 S
 replace hv2:=hv2.2
 subst hv2
 obtain ⟨r3,hr3,h⟩:=Ga h
 have hz3:=S.keep.size
 refine Ir 0 S (b:=b1) rfl rfl (fun _=>.blk b1 [Ab,iV r3.2] 25) (fun _=>Ei (vs:=[.pointer (some ⟨b1,0,none⟩),iV r2.1]) ⟨(S.tm rfl),(S.tm rfl),trivial⟩ call5) (DM _ b1 Ab Ad (Ae.mono (S.le_arg (Jr (i:=0) (e:=.blk b1 [Ab,iV r2.2] 25) rfl))) r2.2 (S.holds _ (List.mem_of_getElem? (i:=0) rfl)) r2.1 _ hr3) rfl (fun _ _ _ h=>⟨h.1,fun _ hc=>by cases hc;rfl⟩) ?_;clear S;intro v3 a w4 hv3 hk4 hn3 S
 replace hv3:=hv3.2
 obtain ⟨φ2,hl2,hm2,S⟩:=S.see' hn3 hz3
 have hs3:=hv3.mono hm2
 refine Iz S zeroValue32 (cs:=[.slice none 0 0,.slice none 0 0,iV 0,iV 0,iV 0,iV 0,iV 0]) rfl rfl ?_;clear S;intro a w5 b2 hz4 hk5 S
 refine Ft S (S.tm rfl) (S.tm rfl) (i:=0) (off:=0) rfl sizeOf32 (vs:=[u2.val,u4.val,iV r1.1.Table.Relay,iV r1.1.Table.Most,iV r1.1.Final.Size,iV r1.1.Final.Many,iV r1.1.Final.Reserves]) rfl rfl rfl (Rf (Lo.one (Gk hs1)) (Rf (Lo.one (Gk hs2)) (Rf rfl (Rf rfl (Rf rfl (Rf rfl (Rf rfl rfl))))))) ?_;clear S;intro w6 hk6 S
 refine Va S rfl rfl fun a S=>Dl (Fs (Fr (Vf BW S rfl rfl fun a S=>Vl isAgg26 0 S rfl rfl rfl rfl fun a S=>lv S (Gn Yq (S.tm rfl) (Gk hs1)) rfl fun a S=>lv S (Rm rfl) rfl fun a S=>Ld ?_)))
 replace S:=(S.nl [.blk b2 [u2.val,u4.val,iV r1.1.Table.Relay,iV r1.1.Table.Most,iV r1.1.Final.Size,iV r1.1.Final.Many,iV r1.1.Final.Reserves] 32] [true,false] rfl).k5 4 5 29 30 31 rfl
 refine Tn ?_
 obtain ⟨j1,hj1,h⟩:=Fk h
 refine Fa (fun a w'=>∃ φ3 : View,j1 = some r ∧ View.le φ2 φ3 ∧ Sx w [] φ3 [.blk b2 [u2.val,u4.val,iV r1.1.Table.Relay,iV r1.1.Table.Most,iV r1.1.Final.Size,iV r1.1.Final.Many,iV r1.1.Final.Reserves] 32] [] 98 a w') ?_ ?_
 ·refine wp_block (Hs (fun (ys1 : List Eu) a w'=>∃ i1 : Nat,∃ φ3 : View,(∃ dn,r1.1.Races = dn ++ ys1 ∧ dn.length = i1) ∧ Iq r1 r3 j1 ys1 i1 = some r ∧ View.le φ2 φ3 ∧ Sx w [] φ3 [.blk b2 [u2.val,u4.val,iV r1.1.Table.Relay,iV r1.1.Table.Most,iV r1.1.Final.Size,iV r1.1.Final.Many,iV r1.1.Final.Reserves] 32] [(4,.pointer (some ⟨b2,0,none⟩)),(5,v3),(29,u2.val),(30,iV (r1.1.Races.length : Int)),(31,iV (i1 : Int))] 98 a w') List.length r1.1.Races ⟨0,φ2,⟨[],rfl,rfl⟩,h,View.le_refl _,S.nf [true] rfl (subR rfl)⟩ ?_)
  clear S h;rintro ys1 a w7 ⟨i1,φ3,⟨dn,hd1,hi1⟩,h,hl3,S⟩
  cases ys1 with
  | nil =>
   rw [Iq.eq_1] at h
   refine Fr (Vb S Fp rfl rfl rfl fun a S=>Ld ?_)
   replace S:=S.k6 4 5 29 30 31 32 rfl
   exact Tn (Fs (wp_cond_false ((S.tm rfl).trans (congrArg Value.bool (Jq hd1 hi1))) (wp_exit (Ew (Ew (Hl (Tn (⟨φ3,h,hl3,S.nf [true] rfl trivial⟩))))))))
  | cons y1 ys1 =>
   rw [Iq.eq_2] at h
   refine Fr (Vb S Fp rfl rfl rfl fun a S=>Ld ?_)
   replace S:=S.k6 4 5 29 30 31 32 rfl
   refine Tn (Fs (wp_cond_true ((S.tm rfl).trans (congrArg Value.bool (Iv hd1 hi1))) (wp_skip (Tn (Fs (wp_block (Fs (Fg ?_))))))))
   obtain ⟨b3,o1,hm3,hr4⟩:=Fv (a:=a) (x:=.tmp 29) (y:=.tmp 31) (ty:=0) Yq hs1 (Js hd1 hi1) rfl (S.tm rfl) (S.tm rfl)
   refine lv S (hr4 _) rfl ?_;clear S;intro a S
   clear hr4
   refine lv S (Gh isAgg38 sizeOf38 (off:=o1) (o:=0) (part:=(Eu.enc y1)) rfl rfl (S.tm rfl) ((hm3.mono (View.le_trans hl2 hl3)).at S.emb)) rfl fun a S=>Iz S zeroValue38 (cs:=[sV An,iV 0,iV 0,iV 0,iV 0,iV 0,iV 0,iV 0]) rfl rfl ?_;clear S;intro a w9 b4 hz5 hk7 S
   refine Ft S (S.tm rfl) (S.tm rfl) (i:=0) (off:=0) rfl sizeOf38 (vs:=(Eu.enc y1)) rfl rfl rfl rfl ?_;clear S;intro w10 hk8 S
   refine Dz (lv S (Gh isAgg32 sizeOf32 (off:=0) (o:=0) (part:=[u2.val,u4.val,iV r1.1.Table.Relay,iV r1.1.Table.Most,iV r1.1.Final.Size,iV r1.1.Final.Many,iV r1.1.Final.Reserves]) rfl rfl (S.tm rfl) (S.cellsAt (i:=1) rfl)) rfl fun a S=>Vm S rfl rfl fun a S=>Vf Yj S rfl rfl fun a S=>Vl isAgg9 0 S rfl rfl rfl rfl ?_);clear S;intro a S
   obtain ⟨r4,hr5,h⟩:=Ga h
   have hz6:=S.keep.size
   refine Er S (fun _=>Ei (vs:=[.agg (R32.enc (R32.mk u2 (R28.mk u4 r1.1.Table.Relay r1.1.Table.Most) r1.1.Final)).toArray,v3,sV y1.Key,iV 60]) ⟨(S.tm rfl),(S.tm rfl),(S.tm rfl),rfl,trivial⟩ call7) (IX _ r1.1 (R32.mk u2 (R28.mk u4 r1.1.Table.Relay r1.1.Table.Most) r1.1.Final) ⟨u2,(R28.mk u4 r1.1.Table.Relay r1.1.Table.Most),rfl,(hs1.mono (View.le_trans (View.le_trans hl2 hl3) (S.le_new Ez))),⟨u4,rfl,(hs2.mono (View.le_trans (View.le_trans hl2 hl3) (S.le_new Ez)))⟩⟩ v3 r3.1 ((Hn Eg.enc_ok hs3).mono (View.le_trans hl3 (S.le_new Ez))) y1.Key 60 _ hr5) rfl ?_;clear S;intro v4 a w11 hv4 hk9 hn4 S
   obtain ⟨u6,rfl,ho3⟩:=hv4
   obtain ⟨φ4,hl4,hm4,S⟩:=S.see' hn4 hz6
   have hs4:=ho3.mono hm4
   refine Vm S rfl rfl fun a S=>Vq S Ia rfl rfl rfl fun a S=>Vq S Ia rfl rfl rfl fun a S=>Va S rfl rfl fun a S=>Va S rfl rfl fun a S=>Ld ?_
   replace S:=(S.nl [.blk b4 (Eu.enc y1) 38,.blk b2 [u2.val,u4.val,iV r1.1.Table.Relay,iV r1.1.Table.Most,iV r1.1.Final.Size,iV r1.1.Final.Many,iV r1.1.Final.Reserves] 32] [true,true] rfl).k8 4 5 7 8 9 29 30 31 rfl
   refine Tn (Fs (Fr (Vm S rfl rfl fun a S=>Vq S Nt rfl rfl rfl fun a S=>Dl (Fc h (S.tm rfl) (fun hb1 h=>?_) (fun hb1 h=>?_)))))
   ·refine Fr (Vk S rfl rfl fun a S=>Dl (wp_ret (Ek (Gg (Ek (Ek (Gg ?_)))))))
    refine Ek (Ek ?_)
    obtain rfl:=Option.some.inj h
    exact Fd S results3 rfl rfl
   ·refine wp_skip (Tn (Fr (Vf Yj S rfl rfl fun a S=>Vl isAgg9 0 S rfl rfl rfl rfl fun a S=>lv S (Nc TL (pv:=[(0,sV k_k),(1,sV y1.Key),(4,iV 150)]) ⟨rfl,rfl,rfl,(S.tm rfl),rfl,rfl,trivial⟩ (cs:=[sV k_k,sV y1.Key,.slice none 0 0,iV 0,iV 150]) (by kernel_rfl)) rfl fun a S=>Fq S underlying46 sizeOf45 zeroValue45 rfl rfl (pv:=[(0,.agg #[sV k_k,sV y1.Key,.slice none 0 0,iV 0,iV 150])]) ⟨rfl,(S.tm rfl),trivial⟩ (cs:=[sV k_k,sV y1.Key,.slice none 0 0,iV 0,iV 150]) (by kernel_rfl) rfl ?_)));clear S;intro a w12 b5 hz7 hk10 S
    refine Va S rfl rfl fun a S=>Ld ?_
    replace S:=(S.nl [.blk b5 [sV k_k,sV y1.Key,.slice none 0 0,iV 0,iV 150] 45,.blk b4 (Eu.enc y1) 38,.blk b2 [u2.val,u4.val,iV r1.1.Table.Relay,iV r1.1.Table.Most,iV r1.1.Final.Size,iV r1.1.Final.Many,iV r1.1.Final.Reserves] 32] [true,true,true] rfl).k8 4 5 7 8 10 29 30 31 rfl
    refine Tn (Fr (Vk S rfl rfl ?_));clear S;intro a S
    replace S:=S.nil 53 8
    refine Dl (Fs (Fr (Vm S rfl rfl fun a S=>lv S (Gn PN (S.tm rfl) (Gk (Hn Jy.enc_ok hs4))) rfl fun a S=>lv S (Rm rfl) rfl fun a S=>Dl ?_)))
    replace S:=(S.nl [.own (.slice none 0 0) 53 8 ([] : List Ex).length (([] : List Ex).flatMap Ex.enc),.blk b5 [sV k_k,sV y1.Key,.slice none 0 0,iV 0,iV 150] 45,.blk b4 (Eu.enc y1) 38,.blk b2 [u2.val,u4.val,iV r1.1.Table.Relay,iV r1.1.Table.Most,iV r1.1.Final.Size,iV r1.1.Final.Many,iV r1.1.Final.Reserves] 32] [true,true,true,true] rfl).k12 4 5 7 8 10 11 29 30 31 49 50 51 rfl
    obtain ⟨j2,hj2,h⟩:=Fk h
    refine Fa (fun a w'=>∃ x1 : List Ex,∃ v5 : Value,j2 x1 = some r ∧ Sx w [] φ4 [.own v5 53 8 x1.length (x1.flatMap Ex.enc),.blk b5 [sV k_k,sV y1.Key,.slice none 0 0,iV 0,iV 150] 45,.blk b4 (Eu.enc y1) 38,.blk b2 [u2.val,u4.val,iV r1.1.Table.Relay,iV r1.1.Table.Most,iV r1.1.Final.Size,iV r1.1.Final.Many,iV r1.1.Final.Reserves] 32] [(4,.pointer (some ⟨b2,0,none⟩)),(5,v3),(8,u6),(10,.slice (some ⟨b5,0,none⟩) 1 1),(11,v5),(29,u2.val),(30,iV (r1.1.Races.length : Int)),(31,iV (i1 : Int))] 98 a w') ?_ ?_
    ·refine wp_block (Hs (fun (ys2 : List Jy) a w'=>∃ i2 : Nat,∃ x1 : List Ex,∃ v5 : Value,(∃ dn,r4.1 = dn ++ ys2 ∧ dn.length = i2) ∧ Hz y1 j2 ys2 i2 x1 = some r ∧ Sx w [] φ4 [.own v5 53 8 x1.length (x1.flatMap Ex.enc),.blk b5 [sV k_k,sV y1.Key,.slice none 0 0,iV 0,iV 150] 45,.blk b4 (Eu.enc y1) 38,.blk b2 [u2.val,u4.val,iV r1.1.Table.Relay,iV r1.1.Table.Most,iV r1.1.Final.Size,iV r1.1.Final.Many,iV r1.1.Final.Reserves] 32] [(4,.pointer (some ⟨b2,0,none⟩)),(5,v3),(7,.pointer (some ⟨b4,0,none⟩)),(8,u6),(10,.slice (some ⟨b5,0,none⟩) 1 1),(11,v5),(29,u2.val),(30,iV (r1.1.Races.length : Int)),(31,iV (i1 : Int)),(49,u6),(50,iV (r4.1.length : Int)),(51,iV (i2 : Int))] 98 a w') List.length r4.1 ⟨0,([] : List Ex),(.slice none 0 0),⟨[],rfl,rfl⟩,h,S.nf [true,true,true,true] rfl (subR rfl)⟩ ?_)
     clear S h;rintro ys2 a w13 ⟨i2,x1,v5,⟨dn,hd2,hi2⟩,h,S⟩
     cases ys2 with
     | nil =>
      rw [Hz.eq_1] at h
      refine Fr (Vb S Fp rfl rfl rfl fun a S=>Ld ?_)
      replace S:=S.k13 4 5 7 8 10 11 29 30 31 49 50 51 52 rfl
      exact Tn (Fs (wp_cond_false ((S.tm rfl).trans (congrArg Value.bool (Jq hd2 hi2))) (wp_exit (Ew (Ew (Hl (Tn (⟨x1,v5,h,S.nf [true,true,true,true] rfl (subR rfl)⟩))))))))
     | cons y2 ys2 =>
      rw [Hz.eq_2] at h
      refine Fr (Vb S Fp rfl rfl rfl fun a S=>Ld ?_)
      replace S:=S.k13 4 5 7 8 10 11 29 30 31 49 50 51 52 rfl
      refine Tn (Fs (wp_cond_true ((S.tm rfl).trans (congrArg Value.bool (Iv hd2 hi2))) (wp_skip (Tn (Fs ?_)))))
      obtain ⟨j3,hj3,h⟩:=Fk h
      refine Fa (fun a w'=>∃ x2 : List Ex,∃ v6 : Value,j3 x2 = some r ∧ Sx w [] φ4 [.own v6 53 8 x2.length (x2.flatMap Ex.enc),.blk b5 [sV k_k,sV y1.Key,.slice none 0 0,iV 0,iV 150] 45,.blk b4 (Eu.enc y1) 38,.blk b2 [u2.val,u4.val,iV r1.1.Table.Relay,iV r1.1.Table.Most,iV r1.1.Final.Size,iV r1.1.Final.Many,iV r1.1.Final.Reserves] 32] [(4,.pointer (some ⟨b2,0,none⟩)),(5,v3),(7,.pointer (some ⟨b4,0,none⟩)),(8,u6),(10,.slice (some ⟨b5,0,none⟩) 1 1),(11,v6),(29,u2.val),(30,iV (r1.1.Races.length : Int)),(31,iV (i1 : Int)),(49,u6),(50,iV (r4.1.length : Int)),(51,iV (i2 : Int))] 98 a w') ?_ ?_
      ·refine wp_block (Fs (Fg ?_))
       obtain ⟨b6,o2,hm5,hr6⟩:=Fv (a:=a) (x:=.tmp 49) (y:=.tmp 51) (ty:=0) PN (Hn Jy.enc_ok hs4) (Js hd2 hi2) rfl (S.tm rfl) (S.tm rfl)
       refine lv S (hr6 _) rfl ?_;clear S;intro a S
       clear hr6
       refine lv S (Gh isAgg51 sizeOf51 (off:=o2) (o:=0) (part:=(Jy.enc y2)) rfl rfl (S.tm rfl) (hm5.at S.emb)) rfl fun a S=>Iz S zeroValue51 (cs:=[iV 0,sV An,sV An,iV 0,iV 0,iV 0,iV 0]) rfl rfl ?_;clear S;intro a w16 b7 hz8 hk11 S
       refine Ft S (S.tm rfl) (S.tm rfl) (i:=0) (off:=0) rfl sizeOf51 (vs:=(Jy.enc y2)) rfl rfl rfl rfl ?_;clear S;intro w17 hk12 S
       refine Ld ?_
       replace S:=(S.nl [.blk b7 (Jy.enc y2) 51,.own v5 53 8 x1.length (x1.flatMap Ex.enc),.blk b5 [sV k_k,sV y1.Key,.slice none 0 0,iV 0,iV 150] 45,.blk b4 (Eu.enc y1) 38,.blk b2 [u2.val,u4.val,iV r1.1.Table.Relay,iV r1.1.Table.Most,iV r1.1.Final.Size,iV r1.1.Final.Many,iV r1.1.Final.Reserves] 32] [true,true,true,true,true] rfl).k13 4 5 7 8 10 11 13 29 30 31 49 50 51 rfl
       refine Tn (Fr (Vf TC S rfl rfl fun a S=>Vl isAgg3 0 S rfl rfl rfl rfl fun a S=>Vq S Jz rfl rfl rfl fun a S=>Ld ?_))
       replace S:=S.k14 4 5 7 8 10 11 13 29 30 31 49 50 51 57 rfl
       refine Tn ?_
       obtain ⟨j4,hj4,h⟩:=Fk h
       refine Fa (fun a w'=>∃ x3 : List Ex,∃ v7 : Value,j4 x3 = some r ∧ Sx w [] φ4 [.own v7 53 8 x3.length (x3.flatMap Ex.enc),.blk b5 [sV k_k,sV y1.Key,.slice none 0 0,iV 0,iV 150] 45,.blk b4 (Eu.enc y1) 38,.blk b2 [u2.val,u4.val,iV r1.1.Table.Relay,iV r1.1.Table.Most,iV r1.1.Final.Size,iV r1.1.Final.Many,iV r1.1.Final.Reserves] 32] [(4,.pointer (some ⟨b2,0,none⟩)),(5,v3),(7,.pointer (some ⟨b4,0,none⟩)),(8,u6),(10,.slice (some ⟨b5,0,none⟩) 1 1),(11,v7),(29,u2.val),(30,iV (r1.1.Races.length : Int)),(31,iV (i1 : Int)),(49,u6),(50,iV (r4.1.length : Int)),(51,iV (i2 : Int))] 98 a w') ?_ ?_
       ·refine Fc h (S.tm rfl) (fun hb2 h=>?_) (fun hb2 h=>?_)
        ·refine Fg (Vm S rfl rfl fun a S=>Vf OD S rfl rfl fun a S=>Vl isAgg9 0 S rfl rfl rfl rfl fun a S=>Vf OD S rfl rfl fun a S=>Vl isAgg9 0 S rfl rfl rfl rfl fun a S=>Vf Yj S rfl rfl fun a S=>Vl isAgg9 3 S rfl rfl rfl rfl fun a S=>Vf fa_51_3 S rfl rfl fun a S=>Vl isAgg3 0 S rfl rfl rfl rfl fun a S=>lv S (Nc bt_53 (pv:=[(0,iV 5),(1,iV 1),(2,sV y2.Who),(3,sV y2.Who),(5,sV y1.Key),(7,iV y2.Time)]) ⟨rfl,rfl,rfl,rfl,rfl,(S.tm rfl),rfl,(S.tm rfl),rfl,(S.tm rfl),rfl,(S.tm rfl),trivial⟩ (cs:=[iV 5,iV 1,sV y2.Who,sV y2.Who,sV An,sV y1.Key,iV 0,iV y2.Time]) (by kernel_rfl)) rfl ?_);clear S;intro a S
         refine Fq S underlying47 sizeOf53 zeroValue53 rfl rfl (pv:=[(0,.agg (Ex.enc (Ex.mk 5 1 y2.Who y2.Who An y1.Key 0 y2.Time)).toArray)]) ⟨rfl,(S.tm rfl),trivial⟩ (cs:=[iV 5,iV 1,sV y2.Who,sV y2.Who,sV An,sV y1.Key,iV 0,iV y2.Time]) (by kernel_rfl) rfl ?_;clear S;intro a w19 b8 hz9 hk13 S
         obtain ⟨hc1,h⟩:=Jc h
         refine Np AG Ex.enc_ok S (S.tm rfl) (i:=2) rfl (S.tm rfl) (j:=0) rfl (ys:=[(Ex.mk 5 1 y2.Who y2.Who An y1.Key 0 y2.Time)]) rfl rfl rfl rfl (by have:=Nx hc1;omega) rfl ?_;clear S;intro v8 a w20 hk14 S
         refine Va S rfl rfl fun a S=>Ld ?_
         replace S:=(S.nl [.own v8 53 8 (x1 ++ [(Ex.mk 5 1 y2.Who y2.Who An y1.Key 0 y2.Time)]).length ((x1 ++ [(Ex.mk 5 1 y2.Who y2.Who An y1.Key 0 y2.Time)]).flatMap Ex.enc),.blk b5 [sV k_k,sV y1.Key,.slice none 0 0,iV 0,iV 150] 45,.blk b4 (Eu.enc y1) 38,.blk b2 [u2.val,u4.val,iV r1.1.Table.Relay,iV r1.1.Table.Most,iV r1.1.Final.Size,iV r1.1.Final.Many,iV r1.1.Final.Reserves] 32] [false,false,true,true,true,true] rfl).k12 4 5 7 8 10 11 29 30 31 49 50 51 rfl
         exact Tn (⟨(x1 ++ [(Ex.mk 5 1 y2.Who y2.Who An y1.Key 0 y2.Time)]),v8,h,S.nf [true,true,true,true] rfl (subR rfl)⟩)
        ·exact wp_skip (Tn (⟨x1,v5,h,S.nf [false,true,true,true,true] rfl (subR rfl)⟩))
       clear S h;rintro a w18 ⟨x3,v7,h,S⟩;rw [hj4] at h;clear hj4 j4
       exact Im (Tn (⟨x3,v7,h,S.nf [true,true,true,true] rfl (subR rfl)⟩))
      clear S h;rintro a w15 ⟨x2,v6,h,S⟩;rw [hj3] at h;clear hj3 j3
      exact Tn (Fg (Vq S Gw rfl rfl rfl fun a S=>Vm S rfl rfl fun a S=>Dl (⟨ys2,⟨i2 + 1,x2,v6,⟨_,(hd2).trans (List.append_cons _ _ _),by simp [hi2]⟩,h,S.nf [true,true,true,true] rfl ⟨rfl,rfl,rfl,rfl,rfl,rfl,rfl,rfl,rfl,rfl,rfl,(congrArg (fun z=>some (Value.int .i64 z)) (Iw hd2 hi2 (Kh (Hn Jy.enc_ok hs4)))),trivial⟩⟩,Nat.lt_succ_self _⟩)))
    clear S h;rintro a w14 ⟨x1,v5,h,S⟩;rw [hj2] at h;clear hj2 j2
    refine Tn (Fr (Vm S rfl rfl ?_));clear S;intro a S
    obtain ⟨r5,hr7,h⟩:=Ga h
    refine Pc 0 S rfl (fun _=>.own v5 53 8 r5.length (r5.flatMap Ex.enc)) (fun _=>Ei (vs:=[v5,.func (.func 9) #[] #[]]) ⟨(S.tm rfl),rfl,trivial⟩ call8) (Qs _ v5 x1 (S.holds _ (List.mem_of_getElem? (i:=0) rfl)) _ hr7) rfl (fun _ _ _ h=>⟨h.1,fun _ hc=>hc⟩) ?_;clear S;intro v9 a w21 hv5 hk15 hn5 S
    replace hv5:=hv5.2
    subst hv5
    refine Dz (Vm S rfl rfl fun a S=>Vm S rfl rfl ?_);clear S;intro a S
    have hr8 : Lp (Vo φ4) ([(Mw.mk k_k y1.Key ([] : List ByteArray) 0 150)] : List Mw) ([(R45.mk k_k y1.Key ⟨.slice none 0 0,rfl⟩ 0 150)] : List R45):=(Lp.cons ⟨⟨.slice none 0 0,rfl⟩,rfl,(Xj _ _)⟩ Lp.nil)
    replace S:=S.litOwn (i:=1) (xs:=([(R45.mk k_k y1.Key ⟨.slice none 0 0,rfl⟩ 0 150)] : List R45)) rfl R45.enc_ok rfl rfl rfl
    replace S:=S.nk [.own v5 53 8 r5.length (r5.flatMap Ex.enc),.own (.slice (some ⟨b5,0,none⟩) 1 1) 45 5 ([(R45.mk k_k y1.Key ⟨.slice none 0 0,rfl⟩ 0 150)] : List R45).length (([(R45.mk k_k y1.Key ⟨.slice none 0 0,rfl⟩ 0 150)] : List R45).flatMap R45.enc),.blk b4 (Eu.enc y1) 38,.blk b2 [u2.val,u4.val,iV r1.1.Table.Relay,iV r1.1.Table.Most,iV r1.1.Final.Size,iV r1.1.Final.Many,iV r1.1.Final.Reserves] 32] [(4,.pointer (some ⟨b2,0,none⟩)),(5,v3),(8,u6),(10,(.slice (some ⟨b5,0,none⟩) 1 1)),(11,v5),(29,u2.val),(30,iV (r1.1.Races.length : Int)),(31,iV (i1 : Int)),(71,v5),(74,(.slice (some ⟨b5,0,none⟩) 1 1)),(75,v5)] [] rfl (subR rfl)
    obtain ⟨r6,hr9,h⟩:=Ga h
    have hz10:=S.keep.size
    refine Er S (fun _=>Ei (vs:=[(.slice (some ⟨b5,0,none⟩) 1 1),v5,sV k_k,iV 5]) ⟨(S.tm rfl),(S.tm rfl),rfl,rfl,trivial⟩ call10) (HQ _ (.slice (some ⟨b5,0,none⟩) 1 1) ([(Mw.mk k_k y1.Key ([] : List ByteArray) 0 150)] : List Mw) ([(R45.mk k_k y1.Key ⟨.slice none 0 0,rfl⟩ 0 150)] : List R45) (AP R45.enc_ok S (i:=1) rfl (Ik (e':=.own (.slice (some ⟨b5,0,none⟩) 1 1) 45 5 ([(R45.mk k_k y1.Key ⟨.slice none 0 0,rfl⟩ 0 150)] : List R45).length (([(R45.mk k_k y1.Key ⟨.slice none 0 0,rfl⟩ 0 150)] : List R45).flatMap R45.enc)))) (EE (S.le_new Ez) hr8) v5 r5 (AP Ex.enc_ok S (i:=0) rfl (Ik (e':=.own v5 53 8 r5.length (r5.flatMap Ex.enc)))) k_k 5 _ hr9) rfl ?_;clear S;intro v10 a w22 hv6 hk16 hn6 S
    obtain ⟨u7,rfl,ho4⟩:=hv6
    obtain ⟨φ5,hl5,hm6,S⟩:=S.see' hn6 hz10
    have hs5:=ho4.mono hm6
    refine Vm S rfl rfl fun a S=>Vq S Ia rfl rfl rfl fun a S=>Vq S Ia rfl rfl rfl fun a S=>Va S rfl rfl fun a S=>Va S rfl rfl fun a S=>Ld ?_
    replace S:=(S.nl [.blk b2 [u2.val,u4.val,iV r1.1.Table.Relay,iV r1.1.Table.Most,iV r1.1.Final.Size,iV r1.1.Final.Many,iV r1.1.Final.Reserves] 32] [false,false,false,true] rfl).k8 4 5 8 14 15 29 30 31 rfl
    refine Tn (Fs (Fr (Vm S rfl rfl fun a S=>Vq S Nt rfl rfl rfl fun a S=>Dl (Fc h (S.tm rfl) (fun hb3 h=>?_) (fun hb3 h=>?_)))))
    ·refine Fr (Vk S rfl rfl fun a S=>Dl (wp_ret (Ek (Gg (Ek (Ek (Gg ?_)))))))
     refine Ek (Ek ?_)
     obtain rfl:=Option.some.inj h
     exact Fd S results3 rfl rfl
    ·refine wp_skip (Tn (Fr (Vm S rfl rfl fun a S=>lv S (Gn PN (S.tm rfl) (Gk (Hn Jy.enc_ok hs4))) rfl fun a S=>lv S (Rm rfl) rfl fun a S=>Dl ?_)))
     replace S:=S.k9 4 5 14 29 30 31 81 82 83 rfl
     obtain ⟨j5,hj5,h⟩:=Fk h
     refine Fa (fun a w'=>j5 = some r ∧ Sx w [] φ5 [.blk b2 [u2.val,u4.val,iV r1.1.Table.Relay,iV r1.1.Table.Most,iV r1.1.Final.Size,iV r1.1.Final.Many,iV r1.1.Final.Reserves] 32] [(4,.pointer (some ⟨b2,0,none⟩)),(5,v3),(29,u2.val),(30,iV (r1.1.Races.length : Int)),(31,iV (i1 : Int))] 98 a w') ?_ ?_
     ·refine wp_block (Hs (fun (ys3 : List Jy) a w'=>∃ i3 : Nat,(∃ dn,r4.1 = dn ++ ys3 ∧ dn.length = i3) ∧ Ip r6 j5 ys3 i3 = some r ∧ Sx w [] φ5 [.blk b2 [u2.val,u4.val,iV r1.1.Table.Relay,iV r1.1.Table.Most,iV r1.1.Final.Size,iV r1.1.Final.Many,iV r1.1.Final.Reserves] 32] [(4,.pointer (some ⟨b2,0,none⟩)),(5,v3),(14,u7),(29,u2.val),(30,iV (r1.1.Races.length : Int)),(31,iV (i1 : Int)),(81,u6),(82,iV (r4.1.length : Int)),(83,iV (i3 : Int))] 98 a w') List.length r4.1 ⟨0,⟨[],rfl,rfl⟩,h,S.nf [true] rfl (subR rfl)⟩ ?_)
      clear S h;rintro ys3 a w23 ⟨i3,⟨dn,hd3,hi3⟩,h,S⟩
      cases ys3 with
      | nil =>
       rw [Ip.eq_1] at h
       refine Fr (Vb S Fp rfl rfl rfl fun a S=>Ld ?_)
       replace S:=S.k10 4 5 14 29 30 31 81 82 83 84 rfl
       exact Tn (Fs (wp_cond_false ((S.tm rfl).trans (congrArg Value.bool (Jq hd3 hi3))) (wp_exit (Ew (Ew (Hl (Tn (⟨h,S.nf [true] rfl (subR rfl)⟩))))))))
      | cons y3 ys3 =>
       rw [Ip.eq_2] at h
       refine Fr (Vb S Fp rfl rfl rfl fun a S=>Ld ?_)
       replace S:=S.k10 4 5 14 29 30 31 81 82 83 84 rfl
       refine Tn (Fs (wp_cond_true ((S.tm rfl).trans (congrArg Value.bool (Iv hd3 hi3))) (wp_skip (Tn (Fs (wp_block (Fs (Fg ?_))))))))
       obtain ⟨b9,o3,hm7,hr10⟩:=Fv (a:=a) (x:=.tmp 81) (y:=.tmp 83) (ty:=0) PN (Hn Jy.enc_ok hs4) (Js hd3 hi3) rfl (S.tm rfl) (S.tm rfl)
       refine lv S (hr10 _) rfl ?_;clear S;intro a S
       clear hr10
       refine lv S (Gh isAgg51 sizeOf51 (off:=o3) (o:=0) (part:=(Jy.enc y3)) rfl rfl (S.tm rfl) ((hm7.mono hl5).at S.emb)) rfl fun a S=>Iz S zeroValue51 (cs:=[iV 0,sV An,sV An,iV 0,iV 0,iV 0,iV 0]) rfl rfl ?_;clear S;intro a w25 b10 hz11 hk17 S
       refine Ft S (S.tm rfl) (S.tm rfl) (i:=0) (off:=0) rfl sizeOf51 (vs:=(Jy.enc y3)) rfl rfl rfl rfl ?_;clear S;intro w26 hk18 S
       refine Dz (Vm S rfl rfl fun a S=>lv S (Tr (us:=#[]) (xs:=[].toArray) (ys:=[.tmp 17].toArray) (by simp) (evA ⟨(S.tm rfl),trivial⟩ (vs:=[.pointer (some ⟨b10,0,none⟩)]))) rfl fun a S=>Er S (fun _=>Ei (vs:=[u7,.func (.func 12) #[] #[.pointer (some ⟨b10,0,none⟩)]]) ⟨(S.tm rfl),(S.tm rfl),trivial⟩ call11) (Qc _ u7 r6.1 ((Hn Hp.enc_ok hs5).mono (S.le_new Ez)) b10 y3 (S.blk_view (i:=0) rfl ((Ik (e':=.blk b10 (Jy.enc y3) 51)) _ rfl)) _ rfl) rfl ?_);clear S;intro v11 a w27 hv7 hk19 hn7 S
       subst hv7
       refine Va S rfl rfl fun a S=>Ld ?_
       replace S:=(S.nl [.blk b10 (Jy.enc y3) 51,.blk b2 [u2.val,u4.val,iV r1.1.Table.Relay,iV r1.1.Table.Most,iV r1.1.Final.Size,iV r1.1.Final.Many,iV r1.1.Final.Reserves] 32] [true,true] rfl).k11 4 5 14 17 18 29 30 31 81 82 83 rfl
       refine Tn (Fr (Vm S rfl rfl fun a S=>Vf TC S rfl rfl fun a S=>Vl isAgg3 0 S rfl rfl rfl rfl fun a S=>Vq S Jn rfl rfl rfl fun a S=>lv S (NE underlying4 (S.tm rfl) (S.tm rfl)) rfl fun a S=>Ld ?_))
       replace S:=S.d0.k10 4 5 14 29 30 31 81 82 83 94 rfl
       refine Tn (Fc h (S.tm rfl) (fun hb4 h=>?_) (fun hb4 h=>?_))
       ·refine Fr (Vk S rfl rfl fun a S=>Dl (wp_ret (Gg (Ek (Ek (Gg (Ek ?_)))))))
        refine Gg (Ek (Ek (Gg (Ek (Ek ?_)))))
        obtain rfl:=Option.some.inj h
        exact Fd S results3 rfl rfl
       ·exact wp_skip (Im (Tn (Fg (Vq S Gw rfl rfl rfl fun a S=>Vm S rfl rfl fun a S=>Dl (⟨ys3,⟨i3 + 1,⟨_,(hd3).trans (List.append_cons _ _ _),by simp [hi3]⟩,h,S.nf [true] rfl ⟨rfl,rfl,rfl,rfl,rfl,rfl,rfl,rfl,(congrArg (fun z=>some (Value.int .i64 z)) (Iw hd3 hi3 (Kh (Hn Jy.enc_ok hs4)))),trivial⟩⟩,Nat.lt_succ_self _⟩)))))
     clear S h;rintro a w24 ⟨h,S⟩;rw [hj5] at h;clear hj5 j5
     exact Im (Tn (Fg (Vq S Gw rfl rfl rfl fun a S=>Vm S rfl rfl fun a S=>Dl (⟨ys1,⟨i1 + 1,φ5,⟨_,(hd1).trans (List.append_cons _ _ _),by simp [hi1]⟩,h,(View.le_trans hl3 (View.le_trans hl4 hl5)),S.nf [true] rfl ⟨rfl,rfl,rfl,rfl,(congrArg (fun z=>some (Value.int .i64 z)) (Iw hd1 hi1 (Kh hs1))),trivial⟩⟩,Nat.lt_succ_self _⟩))))
 clear S h;rintro a w8 ⟨φ3,h,hl3,S⟩;rw [hj1] at h;clear hj1 j1
 refine Tn (Fs (Fg ?_))
 obtain ⟨r7,hr11,h⟩:=Ga h
 refine Er S (fun _=>Ei (vs:=[]) trivial call13) (EX _ _ hr11) rfl ?_;clear S;intro v12 a w28 hv8 hk20 hn8 S
 subst hv8
 refine Va S rfl rfl fun a S=>Dl (wp_ret ?_)
 obtain rfl:=Option.some.inj h
 exact Fd S results3 rfl rfl
end Go.Proofs.YtjofndbcioknfaaGreatDoor
