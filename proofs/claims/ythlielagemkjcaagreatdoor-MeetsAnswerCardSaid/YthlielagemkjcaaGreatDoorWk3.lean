/- Each Go function computes its plain twin,by program. -/
import Derived.Test.YthlielagemkjcaaGreatDoorWk2
namespace Go.Proofs.YthlielagemkjcaaGreatDoor
open Go
open Go.Proofs.Tryz
set_option maxHeartbeats 4000000
set_option maxRecDepth 100000
variable {vs:List Go.Value}
theorem NH(w:World)(s:ByteArray)(sep:ByteArray)(hg_maxlen:CZ (view w []) 0)(r:(List ByteArray))(h:GY s sep=some r):Calls prog 93 [sV s,sV sep].toArray w (Ret w [] λτ v _=>Kr τ 9 1 v r.length (r.flatMap Io)):=by
 unfold GY at h;obtain⟨hc,h⟩:=On h;simp only[bQ,aK] at hc;obtain rfl:=BT h;exact Aqb {Tryz.lays146 with} aF s sep w hg_maxlen hc.1 hc.2
instance:FnT prog 93 vs (type_of% NH):=⟨call93,NH⟩
theorem QZ(w:World)(Co:ByteArray)(hg_maxlen:CZ (view w []) 0)(r:(List ByteArray)×Bool)(h:Qs Co=some r):
 Calls prog 72 [sV Co].toArray w (Ret w [] λτ v _=>∃u1:Value,v= .tuple #[u1,bV r.2]/\Kr τ 9 1 u1 r.1.length (r.1.flatMap Io)):=by
 unfold Qs at h;refine Fe2 h func72 rfl ntmps72 rfl ?_;refine Yv 0 EW.eq_1 EW.eq_2 [] [4,9,10] [] (λi1 d p L K=>d p L ((11,iV i1)::K)) (λd p L K=>d p L K) ?_ ?_
 ·exact Au
 exact Au
instance:FnT prog 72 vs (type_of% QZ):=⟨call72,QZ⟩
theorem HP(w:World)(s:ByteArray)(p:ByteArray)(r:ByteArray×Bool)(h:Lk s p=r):Calls prog 117 [sV s,sV p].toArray w (Ret w [] λ_ v _=>v= .tuple #[.string r.1,.bool r.2]):=by
 subst h;exact HF (Any.strings_CutPrefix Tryz.lays103 s p w)
instance:FnT prog 117 vs (type_of% HP):=⟨call117,HP⟩
theorem PJ(w:World)(s:ByteArray)(r:Int)(h:JB s=some r):Calls prog 108 [sV s].toArray w (Ret w [] λ_ v _=>v= .tuple #[.int .i64 r,.nilIface]):=by
 unfold JB at h;obtain⟨hc,h⟩:=On h;simp only[aK] at hc;exact Afn (Any.strconv_Atoi Tryz.lays172 s r hc h w)
instance:FnT prog 108 vs (type_of% PJ):=⟨call108,PJ⟩
theorem PK(w:World)(Am:ByteArray)(Dd:Int)(r:Int×Bool)(h:JC Am Dd=some r):
 Calls prog 73 [sV Am,iV Dd].toArray w (Ret w [] λ_ v _=>v= .tuple #[iV r.1,bV r.2]):=by
 unfold JC at h;refine Fe2 h func73 rfl ntmps73 rfl ?_;exact Au
instance:FnT prog 73 vs (type_of% PK):=⟨call73,PK⟩
theorem BG(w:World)(Af:Value)(Am:List Int)(Da:(LEnt.own Af 3 1 Am.length (Am.flatMap eInt)).holds w)(r:(List Int))(h:Pd Am=some r):
 Calls prog 196 [Af].toArray w (Ret w (Af.ownBlock.toList) λ_ v w'=>(LEnt.own Af 3 1 r.length (r.flatMap eInt)).holds w'/\v= .tuple #[]):=by
 have zr0:ED 3 [13,15] [] [] []:=⟨⟩;unfold Pd at h;refine Ka (Af.ownBlock.toList) [.own Af 3 1 Am.length (Am.flatMap eInt)] func196 rfl ntmps196 rfl (λe he=>by simp only[bA] at he;subst he;exact Da) (Jj _) (Le _) λa S=>?_
 revert h S
 refine Lc3_1 0 Rd.eq_1 Rd.eq_2 [] [0] [] (fun(x1:List Int) x2 x3 d p L K=>d p (rO 0 (λ_=>.own Af 3 1 x1.length (x1.flatMap eInt)) L) ((2,iV x2)::(3,iV x3)::K)) (fun(x1:List Int) d p L K=>d p (rO 0 (λ_=>.own Af 3 1 x1.length (x1.flatMap eInt)) L) K) ?_ ?_
 ·exact Au
 exact Au
instance:FnT prog 196 vs (type_of% BG):=⟨call196,BG⟩
def Aap(xs:List An)(j:Nat):Array Value:=#[iV j,.agg (An.enc (nth xs j)).toArray]
theorem Anp(φ ξ:View)(n Bs:Nat)(sv:Value)(xs:List An)(hB:φ Bs=some (.cells [sv].toArray 37 (0,0)))(gs:Slc ξ 11 sv (xs.map An.enc))(l:Nat)(Jv:Nat->World->Prop)(Jx:World->Prop)(w:World)(hJ:∀k w,Jv k w->Emb φ w/\Emb ξ w)(h0:Jv 0 w)
 (hr:∀k x w1,(FW xs.length)[k]? =some x->Jv k w1->YieldAt (WF none) (n-1) prog l (Aap xs x) w1 λe w'=>(e= .returned (.bool true)/\Jv (k+1) w')\/(e= .returned (.bool false)/\Jx w')):
 CallsIn (WF none) n prog 251 (#[.func (.yield l) #[] #[]]++ #[bW Bs]) w λe w'=>(∃v,e= .returned v)/\(Jv (FW xs.length).length w'\/Jx w'):=by
 refine Anh (vs:=[.func (.yield l) #[] #[],bW Bs]) func251 rfl ntmps251 rfl λa S=>?_;have hlen:(FW xs.length).length=xs.length:=by simp[FW]
 have hmx:=GX gs;have hQ:∀fn a w,¬bodyPost prog fn (λe w'=>(∃v,e= .returned v)/\(Jv (FW xs.length).length w'\/Jx w')) .outgrown a w:=λ_ _ _ ⟨⟨_,e⟩,_⟩=>by cases e
 have hbox:∀{k:Nat} {w:World},Jv k w->Un w Bs 0 [sv]:=λhj=>(IZ hB).at (hJ _ _ hj).1;have hw:∀k:Nat,k<=xs.length->W ((xs.length:Int)-1-(k:Int))=(xs.length:Int)-1-(k:Int):=λk hk=>Hl aA aA
 let Kq:=λx:Int=>[(0,Value.func (.yield l) #[] #[]),(1,bW Bs),(3,iV x)]
 refine JV (Yp (hQ f251) rfl (lv S (To isAgg37 (off:=0) (o:=0) (S.tm rfl) (hbox h0) rfl) rfl λa S=>lv S (Uo sl_37 (S.tm rfl) (Ku gs)) rfl λa S=>lv S (JO (S.tm rfl) rfl) rfl λa S=>lv S (Ra (S.tm rfl)) rfl λa S=>
  Ld (Tn (wpIn_block (i_loop (λm a w'=>∃(k:Nat) (x:Int),k<=xs.length/\x=xs.length-1-k/\m=xs.length-k/\Jv k w'/\Sx w' [] nov [] (Kq x) 19 a w') xs.length ⟨0,W (xs.length-1),Nat.zero_le _,(by have:=hw 0 (Nat.zero_le _);simpa using this),rfl,h0,(S.rebase (w':=w)).sub (subR rfl)⟩ ?_)))))
 clear S;rintro m a w1 ⟨k,x,hk,hx,rfl,hj,S⟩;refine JV (JV (Yp (hQ f251) rfl (lv S (Rm (S.tm rfl)) rfl λa S=>lv S (Aer (S.tm rfl) rfl) rfl λa S=>Ld (Tn (TQ (S.tm rfl) (λhb=>?_) (λhb=>?_))))))
 ·have hb':(0:Int)<=x:=by simpa using hb
  have hlt:k<xs.length:=by omega
  obtain rfl:x=((xs.length-1-k:Nat):Int):=by omega
  refine wpIn_skip (Tn (JV (wpIn_block (JV (wpIn_region_lit (YJ S (Rm (S.tm rfl)) (λ_ h=>by cases h) rfl λa S=>YJ S (Rm (S.tm rfl)) (λ_ h=>by cases h) rfl λa S=>YJ S (To isAgg37 (off:=0) (o:=0) (S.tm rfl) (hbox hj) rfl) (λ_ h=>by cases h) rfl λa S=>YJ S (Rm (S.tm rfl)) (λ_ h=>by cases h) rfl λa S=>?_))))));obtain⟨b1,o1,hm1,hr1⟩:=Rx (a:=a) (x:=.tmp 13) (y:=.tmp 14) (ty:=0) sl_37 gs (nth_q (show xs.length-1-k<xs.length by omega)) rfl (S.tm rfl) (S.tm rfl);refine YJ S (hr1 _) (λ_ h=>by cases h) rfl λa S=>YJ S (Wv isAgg87 sizeOf87 (off:=o1) (o:=0) (part:=(An.enc (nth xs ((xs.length-1-k:Nat):Int)))) rfl rfl (S.tm rfl) (hm1.at (hJ _ _ hj).2)) (λ_ h=>by cases h) rfl λa S=>Ani S (S.tm rfl) (vs:=Aap xs (xs.length-1-k)) (by simp[Aap,S.tm (t:=12) rfl,S.tm (t:=16) rfl]) rfl (hr k _ w1 (revI_at hlt) hj) ?_ λe w' h=>h.elim (λh=>⟨_,h.1⟩) λh=>⟨_,h.1⟩;clear S;rintro v w2 a (⟨hv,hj2⟩|⟨hv,hj2⟩) S
  ·obtain rfl:v= .bool true:=by injection hv
   refine YJ S (QG (S.tm rfl)) (λ_ h=>by cases h) rfl λa S=>Afm (Tn (TQ (S.tm rfl) (λh=>by cases h) (λ_=>wpIn_skip (AQ (Tn (Yp (λa w h=>hQ f251 a w h) rfl (lv S (Rm (S.tm rfl)) rfl λa S=>lv S (JO (S.tm rfl) rfl) rfl λa S=>lv S (Ra (S.tm rfl)) rfl λa S=>Ld (Tn ⟨xs.length-(k+1),a,by omega,rfl,k+1,_,hlt,?_,rfl,hj2,S.sub (subR rfl)⟩))))))));have h2:=hw (k+1) hlt;rw[←h2];congr 1;omega
  ·obtain rfl:v= .bool false:=by injection hv
   refine YJ S (QG (S.tm rfl)) (λ_ h=>by cases h) rfl λa S=>Afm (Tn (TQ (S.tm rfl) (λ_=>wpIn_ret (LH (Vo (Vo (LH ?_))))) (λh=>by cases h)));rw[Re];exact⟨S.nodefer,.tuple #[],by rw[results_none results251],⟨_,rfl⟩,.inr hj2⟩
 ·have hb':¬(0:Int)<=x:=by simpa using hb
  obtain rfl:k=xs.length:=by omega
  refine wpIn_exit (Nq (Nq (Zc ?_)));rw[Re];exact⟨S.nodefer,.tuple #[],by rw[results_none results251],⟨_,rfl⟩,.inl (by rw[hlen];exact hj)⟩
theorem YV(w:World)(sv:Value)(m:Nat)(hsl:Jc sv m):Calls prog 205 [sv].toArray w (Ret w [] λτ v _=>∃Bs,v= .func (.func 251) #[] #[bW Bs]/\τ Bs=some (.cells [sv].toArray 37 (0,0))):=by
 refine Ka [] [] func205 rfl ntmps205 rfl aB (by simp[fps]) (by simp[fps]) λa S=>Fs (Fg (ZM S (S.tm rfl) (cs:=[sv]) (Jc.cells hsl) rfl λa w1 b1 hz1 hk1 S=>lv S (Ra rfl) rfl λa S=>Ld (Tn (Fs (Fg (lv S (QI (us:=#[]) (vs:=#[bW b1]) aB (by simp[S.tm (t:=1) rfl])) rfl λa S=>lv S (Ra (S.tm rfl)) rfl λa S=>Ld (Tn (Tl ?_))))))));exact BQ S results205 rfl ⟨b1,rfl,blk_ret S (i:=0) rfl rfl⟩
theorem cnt_join{α β R:Type}(c0 c1 c2 b:Bool)(k:α->β->Option R)(m m':α)(x x':β):Fq k (λj=>if c0=true then j m x else if c1=true then j m x else Fq (λm2=>Chk b (j m2 x')) λj2=>if c2=true then j2 m' else j2 m)=if(c0||c1)=true then k m x else Chk b (k (if c2=true then m' else m) x'):=by
 cases c0<;>cases c1<;>cases c2<;>rfl
abbrev kvP:Fu->Value:=λx=>Value.agg (Fu.enc x).toArray
theorem NI(w:World)(v_l:Value)(l:List An)(hs_l:Slc (view w []) 11 v_l (l.map An.enc))(at_:Int)(r:List Int)(h:AZ l at_=some r):
 Calls prog 232 [v_l,iV at_].toArray w (Ret w [] λτ v _=>Kr τ 3 1 v r.length (r.flatMap eInt)):=by
 have zQ:∀fn a w',¬bodyPostM (WF none) 3 prog fn (Ret w [] λτ v _=>Kr τ 3 1 v r.length (r.flatMap eInt)) .outgrown a w':=λ_ _ _ ⟨_,e,_⟩=>by cases e
 replace zQ:=zQ f232;unfold AZ at h;refine Aad 3 func232 rfl ntmps232 rfl λa S=>?_;rw[Re]
 revert h S
 refine St 205 ?_
 intros
 rename_i b1 b2 b3 b4 _ _ _ h S;have hz6:=S.keep.size;refine YN S (λ_=>Oq (vs:=[v_l]) ⟨(S.tm rfl),trivial⟩ call205) (YV _ v_l _ (Ku hs_l)) rfl λv1 a w6 hv1 hk6 hn1 S=>?_;obtain⟨φ1,hl1,hm1,S⟩:=S.see' hn1 hz6;obtain⟨Bs,rfl,hB⟩:=hv1;replace hB:=hm1 _ _ hB;refine Ld (Tn (wpIn_block ?_))
 let LC:=fun(m:List (Fu×Bool)) (x:List Int) v=>[LEnt.own v 3 1 x.length (x.flatMap eInt),.blk b4 [v] 22,.blk b3 [.map (some b2)] 114,.map b2 (Ht kvP Value.bool m) m.length,.blk b1 [iV at_] 3]
 replace S:=(S.nil 3 1).nk (LC [] [] (.slice none 0 0)) [(3,bW b1),(5,bW b3),(6,bW b4),(11,.func (.func 251) #[] #[bW Bs])] [true,true,true,true,true] rfl (subR rfl);refine Ahs (n:=3) (FW l.length) (Aap l) S (S.tm rfl) (λargs w=>call251 args w) (λ_=>rfl)
  (λll J Jx W hJ h0 hr=>Anp φ1 (view w []) (3-1) Bs v_l l hB hs_l ll J Jx W hJ h0 hr)
  (λk L'=>∃m x v,(∃dn is,FW l.length=dn++is/\dn.length=k/\Ny l at_ is m x=some r)/\L'=LC m x v) (λ_=>False)
  ⟨[],[],.slice none 0 0,⟨[],_,rfl,rfl,h⟩,rfl⟩ ?_ ?_ λ_ _ _ _ _ h=>h.elim
 ·clear h;rintro ll D rec k i L' w7 hst hss hx ⟨m,x,v,⟨dn,is,g1,g2,h⟩,rfl⟩ S0;obtain⟨is,rfl⟩:∃is',is=i::is':=by
   cases is with
   |nil=>rw[g1,List.append_nil,←g2] at hx;simp at hx
   |cons j is'=>
    rw[g1,←g2] at hx;exact⟨is',by simpa using hx⟩
  unfold Aap;have hact:=prms2 a 12 13 (iV i) (.agg (An.enc (nth l i)).toArray) S0.nodefer;rw[hact];have S:=(S0.put (d:=12) (v:=iV i) aC).put (d:=13) (v:=.agg (An.enc (nth l i)).toArray) aC;generalize ((a.put (some 12) _).put (some 13) _)=a' at S;refine JV (Yp (λ_ _ h=>h) rfl (lv S (Ra (S.tm rfl)) rfl λa S=>Ld (Tn (Yp (λ_ _ h=>h) rfl (AA S zeroValue87 (cs:=[sV Ff,iV 0,iV 0,iV 0,sV Ff,sV Ff,sV Ff,iV 0,iV 0,sV Ff,iV 0]) rfl rfl λa w8 b5 hz8 hk8 S=>
   Qq S (S.tm rfl) (S.tm rfl) (i:=0) (off:=0) rfl sizeOf87 (vs:=(An.enc (nth l i))) rfl rfl rfl rfl λw9 hk9 S=>Ld (Tn (Afl S (i:=1) rfl (hst _) λw10 S=>?_)))))))
  rw[hss] at S;rw[Re];have h:Fq (fun(m:List (Fu×Bool)) (x:List Int)=>Ny l at_ is m x) (λj=>if decide (at_<(nth l i).At)=true then j m x else if Gm m (Fz (nth l i)) false=true then j m x else
   Fq (λm2=>Chk (Ja x.length) (j m2 (x++[(i:Int)]))) λj2=>if decide ((nth l i).Kind=4) then j2 (Iv m (Fu.mk ((nth l i).Of) ((nth l i).Other)) true) else j2 m)=some r:=by
   rw[Ny,WQ] at h;rw[cnt_join];exact h
  refine Acb rfl (λ_ _ h=>h) ?_;clear hx hact
  revert S;revert h
  refine J [_,_] 0 [] [] [false,true,true,true,true,true,true,true] (fun(x1:List (Fu×Bool)) (x2:List Int) d p L K a w=>∃v,d p (rO 2 (λ_=>.own v 3 1 x2.length (x2.flatMap eInt)) (rB 3 (λb=>.blk b [v] 22) (rM 5 (λb=>.map b (Ht kvP Value.bool x1) x1.length) L))) K a w) ?_ ?_
  ·refine J [_] 0 [] [6,7,8] [true,true,true,true,true,true,true,true] (fun(x1:List (Fu×Bool)) d p L K a w=>d p (rM 6 (λb=>.map b (Ht kvP Value.bool x1) x1.length) L) K a w) ?_ ?_
   ·exact Au
   ·exact Au
  ·intros
   rename_i h S;exact⟨_,⟨_,_,_,⟨dn++[i],is,by simp[g1],by simp[g2],h⟩,rfl⟩,S0.back S.k0⟩
 ·rintro D ll o L' w7 ⟨m,x,v,⟨dn,is,g1,g2,h⟩,rfl⟩ S;obtain rfl:is=[]:=by
   have h1:=congrArg List.length g1;rw[aU] at h1;exact List.length_eq_zero_iff.1 aA
  rw[Ny] at h;refine AQ (Tn (JV (Yp (λa w h=>zQ a w h) rfl (lv S (OI isAgg22 (S.tm rfl) (S.cell (i:=3) rfl rfl)) rfl λa S=>ET 2 S rfl (λ_=>.own v 3 1 r.length (r.flatMap eInt)) (λ_=>Oq (vs:=[v]) ⟨(S.tm rfl),trivial⟩ call196) (BG _ v x (S.holds _ (List.mem_of_getElem? (i:=2) rfl)) _ h) rfl (λ_ _ _ h=>⟨h.1,λ_ hc=>hc⟩) λv5 a w17 hv hk14 hn3 S=>?_))));replace hv:=hv.2;subst hv;refine Ld (Tn (JV (Yp (λa w h=>zQ a w h) rfl (lv S (OI isAgg22 (S.tm rfl) (S.cell (i:=3) rfl rfl)) rfl λa S=>lv S (Ra (S.tm rfl)) rfl λa S=>Ld (Tn (wpIn_ret ?_))))));exact Afk S (i:=1) rfl (rs:=[.tmp 4]) (vs:=[v]) results232 rfl λw' S=>⟨⟨YR S rfl,trivial⟩,Ot S (i:=2) rfl rfl⟩
instance:FnT prog 205 vs (type_of% YV):=⟨call205,YV⟩
instance:FnT prog 232 vs (type_of% NI):=⟨call232,NI⟩
theorem PL(w:World)(ψ:View)(hψ:View.le ψ (view w []))(Ae:Ge)(Av:R32)(Bc:Lb ψ Ae Av)(Ad:Value)(Ai:List An)(As:Slc ψ 11 Ad (Ai.map An.enc))(Aw:Int)(r:(Option Jr))(h:EX Ae Ai Aw=some r):
 Calls prog 167 [.agg (R32.enc Av).toArray,Ad,iV Aw].toArray w (Ret w [] λτ v _=>JS (join ψ τ) 212 JF.enc CV v r):=by
 have zr0:ED 5 [13] [] [] [87]:=⟨⟩;obtain⟨u1,u2,rfl,hs1,⟨u3,rfl,hs2⟩⟩:=Bc;unfold EX at h;refine Fe2 h func167 rfl ntmps167 rfl ?_;refine Ov 0 Vr.eq_1 Vr.eq_2 [(87,11)] [1,7,15,16] [true,true,false] (λi1 (x1:List An) d p L K a w=>∃v2,d p (rC 1 [(7,v2)] (rO 0 (λ_=>.own v2 87 11 x1.length (x1.flatMap An.enc)) L)) ((17,iV i1)::K) a w) (fun(x1:List An) d p L K a w=>∃v2,d p (rC 1 [(7,v2)] (rO 0 (λ_=>.own v2 87 11 x1.length (x1.flatMap An.enc)) L)) K a w) ?_ ?_
 ·exact Au
 exact Au
instance:FnT prog 167 vs (type_of% PL):=⟨call167,PL⟩
theorem VO(w:World)(ψ:View)(hψ:View.le ψ (view w []))(Ae:Ge)(Av:R32)(Bc:Lb ψ Ae Av)(Ad:Value)(Ai:List An)(As:Slc ψ 11 Ad (Ai.map An.enc))(Ea:Value)(Aw:List Int)(Fa:Slc ψ 1 Ea (Aw.map eInt))(r:(Option Jr)×Int)(h:Zg Ae Ai Aw=some r):
 Calls prog 122 [.agg (R32.enc Av).toArray,Ad,Ea].toArray w (Ret w [] λτ v _=>∃u1:Value,v= .tuple #[u1,iV r.2]/\JS (join ψ τ) 212 JF.enc CV u1 r.1):=by
 obtain⟨u1,u2,rfl,hs1,⟨u3,rfl,hs2⟩⟩:=Bc;unfold Zg at h;refine Fe2 h func122 rfl ntmps122 rfl ?_;refine Yv 0 Yd.eq_1 Yd.eq_2 [] [1,2,3,22,23] [] (λi1 d p L K=>d p L ((24,iV i1)::K)) (λd p L K=>d p L K) ?_ ?_
 ·exact Au
 exact Au
instance:FnT prog 122 vs (type_of% VO):=⟨call122,VO⟩
theorem NJ(w:World)(Db:Fp)(Be:Nat)(Bh:ByteArray)(Ca:(view w []) Be=some (.cells [sV Bh].toArray 9 (0,0)))(r:Bool)(h:DP Db Bh=r):
 Calls prog 179 [.agg (Fp.enc Db).toArray,bW Be].toArray w (Ret w [] λ_ v _=>v=bV r):=by
 unfold DP at h;refine Fe2 h func179 rfl ntmps179 rfl ?_;exact Au
instance:FnT prog 179 vs (type_of% NJ):=⟨call179,NJ⟩
theorem Vc(w:World)(Af:Value)(Am:List Fp)(Bn:Slc (view w []) 8 Af (Am.map Fp.enc))(Bf:Nat)(Ar:ByteArray)(Bv:(view w []) Bf=some (.cells [sV Ar].toArray 9 (0,0)))(r:Int)(h:Gt Am Ar=r):
 Calls prog 113 [Af,.func (.func 179) #[] #[bW Bf]].toArray w (Ret w [] λ_ v _=>v=iV r):=by
 unfold Gt at h;refine Fe2 h func113 rfl ntmps113 rfl ?_;refine Yv 0 Hh.eq_1 Hh.eq_2 [] [0,1,7] [] (λi1 d p L K=>d p L ((8,iV i1)::K)) (λd p L K=>d p L K) ?_ ?_
 ·exact Au
 exact Au
instance {v0:Go.Value}{c:Array Go.Value}:FnT prog 113 [v0,.func (.func 179) #[] c] (type_of% Vc):=⟨call113,Vc⟩
open Go.Sort Go.Shelf in
theorem RA(x y:An)(W:World):Calls prog 181 #[.agg #[.string x.Site,.int .i64 x.No,.int .i64 x.At,.int .i64 x.Kind,.string x.Who,.string x.Club,.string x.Race,.int .i64 x.Time,.int .i64 x.Fault,.string x.Of,.int .i64 x.Other],.agg #[.string y.Site,.int .i64 y.No,.int .i64 y.At,.int .i64 y.Kind,.string y.Who,.string y.Club,.string y.Race,.int .i64 y.Time,.int .i64 y.Fault,.string y.Of,.int .i64 y.Other]] W λe w'=>e= .returned (.int .i64 (Zh x y))/\∃q os',w'=grow (W.drewN q) os':=by
 have hcon:=λW'=>Any.strings_Compare Tryz.lays106 x.Who y.Who W';change ∀W',Calls prog 87 _ _ _ at hcon;unfold Zh Ic;generalize Lib.compareBytes x.Who.data.toList y.Who.data.toList=r at hcon ⊢
 go_enter func181,ntmps181
 go_wp2_with (go_at_call 87;refine(hcon _).mono ?_;rintro e w' ⟨rfl,rfl⟩)
 go_ret
 exact⟨rfl,0,_,by rw[alloc_eq_grow,alloc_eq_grow,grow_grow];rfl⟩
theorem Tt(w:World)(Ao:Value)(Ap:List An)(Bo:(LEnt.own Ao 87 11 Ap.length (Ap.flatMap An.enc)).holds w)(r:(List An))(h:Ki Ap=some r):
 Calls prog 180 [Ao,.func (.func 181) #[] #[]].toArray w (Ret w (Ao.ownBlock.toList) λ_ v w'=>(LEnt.own Ao 87 11 r.length (r.flatMap An.enc)).holds w'/\v= .tuple #[]):=by
 unfold Ki at h
 split at h
 ·rename_i hc;obtain rfl:=bH h;exact NC (enc:=An.enc) Tryz.laysg180 isAgg87 sizeOf87 An.enc_ok (enters_of func181 aF rfl) RA hc.1 hc.2 Bo
 ·cases h
instance {v0:Go.Value}{c:Array Go.Value}:FnT prog 180 [v0,.func (.func 181) #[] c] (type_of% Tt):=⟨call180,Tt⟩
theorem NK(w:World)(Aa:Nat)(Bl:Ge)(Bg:R32)(Bk:Lb (view w []) Bl Bg)(Aq:Value)(Ax:List An)(Br:Slc (view w []) 11 Aq (Ax.map An.enc))(Ak:(view w []) Aa=some (.cells (R32.enc Bg++[Aq]).toArray 212 (0,0)))(Bb:ByteArray)(r:(List An))(h:Sl Bl Ax Bb=some r):
 Calls prog 130 [bW Aa,sV Bb].toArray w (Ret w [] λτ v _=>Kr τ 87 11 v r.length (r.flatMap An.enc)):=by
 obtain⟨u1,u2,rfl,hs1,⟨u3,rfl,hs2⟩⟩:=Bk;unfold Sl at h;refine Fe2 h func130 rfl ntmps130 rfl ?_;refine Ov 0 Tz.eq_1 Tz.eq_2 [] [1,5,15,16] [] (λi1 (x1:List (ByteArray×An)) d p L K a w=>∃bs1 ck1,Xq x1.length bs1 ck1/\d p (rM 0 (λb1=>.map b1 (Kv Value.string (λx=>Value.agg (An.enc x).toArray) x1 bs1) ck1) L) ((17,iV i1)::K) a w) (fun(x1:List (ByteArray×An)) d p L K a w=>∃bs1 ck1,Xq x1.length bs1 ck1/\d p (rM 0 (λb1=>.map b1 (Kv Value.string (λx=>Value.agg (An.enc x).toArray) x1 bs1) ck1) L) K a w) ?_ ?_
 ·refine J [_] 0 [] [1,5,15,16,17] [] (fun(x2:List (ByteArray×An)) d p L K a w=>∃bs2 ck2,Xq x2.length bs2 ck2/\d p (rM 0 (λb1=>.map b1 (Kv Value.string (λx=>Value.agg (An.enc x).toArray) x2 bs2) ck2) L) K a w) ?_ ?_
  ·refine J [_] 1 [] [1,5,15,16,17] [] (fun(x3:List (ByteArray×An)) d p L K a w=>∃bs3 ck3,Xq x3.length bs3 ck3/\d p (rM 1 (λb1=>.map b1 (Kv Value.string (λx=>Value.agg (An.enc x).toArray) x3 bs3) ck3) L) K a w) ?_ ?_
   ·refine J [_] 1 [] [1,5,15,16,17] [] (fun(x4:List (ByteArray×An)) d p L K a w=>∃bs4 ck4,Xq x4.length bs4 ck4/\d p (rM 1 (λb1=>.map b1 (Kv Value.string (λx=>Value.agg (An.enc x).toArray) x4 bs4) ck4) L) K a w) ?_ ?_
    ·refine J [_] 0 [] [1,5,15,16,17] [] (fun(x5:List (ByteArray×An)) d p L K a w=>∃bs6 ck6,Xq x5.length bs6 ck6/\d p (rM 1 (λb1=>.map b1 (Kv Value.string (λx=>Value.agg (An.enc x).toArray) x5 bs6) ck6) L) K a w) ?_ ?_
     ·exact Au
     exact Au
    exact Au
   exact Au
  exact Au
 refine Lm 0 [(87,11)] [40] [] (λsn1 (x6:List An) d p L K a w=>∃v1,d p (rI 1 sn1 (rO 0 (λ_=>.own v1 87 11 x6.length (x6.flatMap An.enc)) L)) ((8,v1)::K) a w) (fun(x6:List An) d p L K a w=>∃v1,d p (rD 1 (rO 0 (λ_=>.own v1 87 11 x6.length (x6.flatMap An.enc)) L)) ((8,v1)::K) a w) ?_ ?_
 ·exact Au
 exact Au
instance:FnT prog 130 vs (type_of% NK):=⟨call130,NK⟩
theorem SZ(w:World)(Aa:Nat)(Bl:Ge)(Bg:R32)(Bk:Lb (view w []) Bl Bg)(Aq:Value)(Ax:List An)(Br:Slc (view w []) 11 Aq (Ax.map An.enc))(Ak:(view w []) Aa=some (.cells (R32.enc Bg++[Aq]).toArray 212 (0,0)))(Cs:ByteArray)(r:Fp×Int)(h:BU Bl Ax Cs=some r):
 Calls prog 129 [bW Aa,sV Cs].toArray w (Ret w [] λ_ v _=>v= .tuple #[.agg (Fp.enc r.1).toArray,iV r.2]):=by
 obtain⟨u1,u2,rfl,hs1,⟨u3,rfl,hs2⟩⟩:=Bk;unfold BU at h;refine Fe2 h func129 rfl ntmps129 rfl ?_;exact Au
instance:FnT prog 129 vs (type_of% SZ):=⟨call129,SZ⟩
theorem XW(w:World)(ψ:View)(hψ:View.le ψ (view w []))(Ae:Ge)(Av:R32)(Bc:Lb ψ Ae Av)(Ad:Value)(Ai:List An)(As:Slc ψ 11 Ad (Ai.map An.enc))(Bb:ByteArray)(Aw:Int)(r:(Option Jr)×Fp×Int)(h:Ye Ae Ai Bb Aw=some r):
 Calls prog 89 [.agg (R32.enc Av).toArray,Ad,sV Bb,iV Aw].toArray w (Ret w [] λτ v _=>∃u1:Value,v= .tuple #[u1,.agg (Fp.enc r.2.1).toArray,iV r.2.2]/\JS (join ψ τ) 212 JF.enc CV u1 r.1):=by
 have zr0:ED 5 [] [9] [] []:=⟨⟩;have zf18:Frz 18:=⟨⟩;obtain⟨u1,u2,rfl,hs1,⟨u3,rfl,hs2⟩⟩:=Bc;unfold Ye at h;refine Fe2 h func89 rfl ntmps89 rfl ?_;exact Au
instance:FnT prog 89 vs (type_of% XW):=⟨call89,XW⟩
theorem TA(w:World)(Aa:Nat)(Bl:Ge)(Bg:R32)(Bk:Lb (view w []) Bl Bg)(Aq:Value)(Ax:List An)(Br:Slc (view w []) 11 Aq (Ax.map An.enc))(Ak:(view w []) Aa=some (.cells (R32.enc Bg++[Aq]).toArray 212 (0,0)))(Bb:ByteArray)(r:(List (ByteArray×An)))(h:AC Bl Ax Bb=r):
 Calls prog 173 [bW Aa,sV Bb].toArray w (Ret w [] λτ v _=>∃b:Nat,v= .map (some b)/\τ b=some (.map (Ht Value.string (λx=>Value.agg (An.enc x).toArray) r) r.length)):=by
 obtain⟨u1,u2,rfl,hs1,⟨u3,rfl,hs2⟩⟩:=Bk;unfold AC at h;refine Fe2 h func173 rfl ntmps173 rfl ?_;refine Ov 0 BA.eq_1 BA.eq_2 [] [1,5,12,13] [] (λi1 (x1:List (ByteArray×An)) d p L K=>d p (rM 0 (λb1=>.map b1 (Ht Value.string (λx=>Value.agg (An.enc x).toArray) x1) x1.length) L) ((14,iV i1)::K)) (fun(x1:List (ByteArray×An)) d p L K=>d p (rM 0 (λb1=>.map b1 (Ht Value.string (λx=>Value.agg (An.enc x).toArray) x1) x1.length) L) K) ?_ ?_
 ·refine J [_] 0 [] [1,5,12,13,14] [] (fun(x2:List (ByteArray×An)) d p L K=>d p (rM 0 (λb1=>.map b1 (Ht Value.string (λx=>Value.agg (An.enc x).toArray) x2) x2.length) L) K) ?_ ?_
  ·refine J [_] 1 [] [1,5,12,13,14] [] (fun(x3:List (ByteArray×An)) d p L K=>d p (rM 1 (λb1=>.map b1 (Ht Value.string (λx=>Value.agg (An.enc x).toArray) x3) x3.length) L) K) ?_ ?_
   ·exact Au
   exact Au
  exact Au
 exact Au
instance:FnT prog 173 vs (type_of% TA):=⟨call173,TA⟩
theorem KG(w:World)(Ad:Value)(Ai:List Fi)(As:Slc (view w []) 2 Ad (Ai.map Fi.enc))(r:Int)(h:Xy Ai=some r):
 Calls prog 227 [Ad].toArray w (Ret w [] λ_ v _=>v=iV r):=by
 unfold Xy at h;refine Fe2 h func227 rfl ntmps227 rfl ?_;refine XV 0 Ua.eq_1 Ua.eq_2 [] [3,11,12] [] (λi1 (x1:List (ByteArray×Bool)) x2 d p L K=>d p (rM 0 (λb1=>.map b1 (Ht Value.string Value.bool x1) x1.length) L) ((13,iV i1)::(4,bV x2)::K)) (fun(x1:List (ByteArray×Bool)) x2 d p L K=>d p (rM 0 (λb1=>.map b1 (Ht Value.string Value.bool x1) x1.length) L) ((4,bV x2)::K)) ?_ ?_
 ·exact Au
 exact Au
instance:FnT prog 227 vs (type_of% KG):=⟨call227,KG⟩
theorem FH(w:World)(Ct:Value)(Ck:List Je)(Cp:List EM)(Eb:Slc (view w []) 3 Ct (Cp.map EM.enc))(Ec:Mu (Xo (view w [])) Ck Cp)(r:Int)(h:Vx Ck=some r):
 Calls prog 336 [Ct].toArray w (Ret w [] λ_ v _=>v=iV r):=by
 unfold Vx at h;refine Fe2 h func336 rfl ntmps336 rfl ?_;refine Yv 0 Qb.eq_1 Qb.eq_2 [] [0,8,9] [] (λi1 d p L K=>d p L ((10,iV i1)::K)) (λd p L K=>d p L K) ?_ ?_
 ·exact Au
 exact Au
instance:FnT prog 336 vs (type_of% FH):=⟨call336,FH⟩
theorem NM(w:World)(Az:Fj)(Ba:Fj)(Bm:Nat)(Ci:Int)(Cq:(view w []) Bm=some (.cells [iV Ci].toArray 3 (0,0)))(r:Int)(h:DQ Az Ba Ci=some r):
 Calls prog 338 [.agg (Fj.enc Az).toArray,.agg (Fj.enc Ba).toArray,bW Bm].toArray w (Ret w [] λ_ v _=>v=iV r):=by
 unfold DQ at h;refine Fe2 h func338 rfl ntmps338 rfl ?_;exact Au
instance:FnT prog 338 vs (type_of% NM):=⟨call338,NM⟩
theorem Pa(w:World)(Ac:Value)(Ah:List Fj)(Bd:(LEnt.own Ac 263 4 Ah.length (Ah.flatMap Fj.enc)).holds w)(Az:Int)(Ba:Int)(Bj:Nat)(Cl:Int)(Ce:(view w (Ac.ownBlock.toList)) Bj=some (.cells [iV Cl].toArray 3 (0,0)))(r:(List Fj))(h:Hj Ah Az Ba Cl=some r):
 Calls prog 354 [Ac,iV Az,iV Ba,.func (.func 338) #[] #[bW Bj]].toArray w (Ret w (Ac.ownBlock.toList) λ_ v w'=>(LEnt.own Ac 263 4 r.length (r.flatMap Fj.enc)).holds w'/\v= .tuple #[]):=by
 have zr0:ED 6 [15,17] [] [] []:=⟨⟩;unfold Hj at h;refine Ka (Ac.ownBlock.toList) [.own Ac 263 4 Ah.length (Ah.flatMap Fj.enc)] func354 rfl ntmps354 rfl (λe he=>by simp only[bA] at he;subst he;exact Bd) (Jj _) (Le _) λa S=>?_
 revert h S
 refine Xk 0 Hy.eq_1 Hy.eq_2 [] [0,1,2,3] [] (fun(x1:List Fj) x2 d p L K=>d p (rO 0 (λ_=>.own Ac 263 4 x1.length (x1.flatMap Fj.enc)) L) ((8,iV x2)::K)) (fun(x1:List Fj) d p L K=>d p (rO 0 (λ_=>.own Ac 263 4 x1.length (x1.flatMap Fj.enc)) L) K) ?_ ?_
 ·refine Xk 1 Gn.eq_1 Gn.eq_2 [] [0,1,2,3,8] [] (fun(x3:List Fj) x4 d p L K=>d p (rO 0 (λ_=>.own Ac 263 4 x3.length (x3.flatMap Fj.enc)) L) ((9,iV x4)::K)) (fun(x3:List Fj) d p L K=>d p (rO 0 (λ_=>.own Ac 263 4 x3.length (x3.flatMap Fj.enc)) L) K) ?_ ?_
  ·refine J [_] 0 [] [0,1,2,3,8,9] [] (λx5 d p L K=>d p L ((34,bV x5)::K)) ?_ ?_
   ·exact Au
   exact Au
  exact Au
 exact Au
instance:FnT prog 354 vs (type_of% Pa):=⟨call354,Pa⟩
theorem Sf(w:World)(Ac:Value)(Ah:List Fj)(Bd:(LEnt.own Ac 263 4 Ah.length (Ah.flatMap Fj.enc)).holds w)(Bi:Int)(Bj:Nat)(Cl:Int)(Ce:(view w (Ac.ownBlock.toList)) Bj=some (.cells [iV Cl].toArray 3 (0,0)))(r:(List Fj))(h:Ll Ah Bi Cl=some r):
 Calls prog 349 [Ac,iV Bi,.func (.func 338) #[] #[bW Bj]].toArray w (Ret w (Ac.ownBlock.toList) λ_ v w'=>(LEnt.own Ac 263 4 r.length (r.flatMap Fj.enc)).holds w'/\v= .tuple #[]):=by
 unfold Ll at h;refine Ka (Ac.ownBlock.toList) [.own Ac 263 4 Ah.length (Ah.flatMap Fj.enc)] func349 rfl ntmps349 rfl (λe he=>by simp only[bA] at he;subst he;exact Bd) (Jj _) (Le _) λa S=>?_
 revert h S
 refine Aam 0 Jf.eq_1 Jf.eq_2 [] [0,1,2,6] [] (fun(x1:List Fj) x2 x3 d p L K=>d p (rO 0 (λ_=>.own Ac 263 4 x1.length (x1.flatMap Fj.enc)) L) ((7,iV x2)::(8,iV x3)::K)) (fun(x1:List Fj) x2 d p L K=>d p (rO 0 (λ_=>.own Ac 263 4 x1.length (x1.flatMap Fj.enc)) L) ((7,iV x2)::K)) ?_ ?_
 ·exact Au
 refine Aal 0 Jg.eq_1 Jg.eq_2 [] [1] [] (λx4 d p L K=>d p L ((6,iV x4)::K)) (λd p L K=>d p L K) ?_ ?_
 ·refine Xk 1 Mx.eq_1 Mx.eq_2 [] [1,6] [] (λx5 x6 d p L K=>d p L ((7,iV x5)::(8,iV x6)::K)) (λx5 d p L K=>d p L ((7,iV x5)::K)) ?_ ?_
  ·exact Au
  exact Au
 exact Au
instance:FnT prog 349 vs (type_of% Sf):=⟨call349,Sf⟩
theorem Rl(w:World)(Ao:Value)(Ap:List Fj)(Bo:(LEnt.own Ao 263 4 Ap.length (Ap.flatMap Fj.enc)).holds w)(Bj:Nat)(Cl:Int)(Ce:(view w (Ao.ownBlock.toList)) Bj=some (.cells [iV Cl].toArray 3 (0,0)))(r:(List Fj))(h:Jl Ap Cl=some r):
 Calls prog 337 [Ao,.func (.func 338) #[] #[bW Bj]].toArray w (Ret w (Ao.ownBlock.toList) λ_ v w'=>(LEnt.own Ao 263 4 r.length (r.flatMap Fj.enc)).holds w'/\v= .tuple #[]):=by
 unfold Jl at h;refine Ka (Ao.ownBlock.toList) [.own Ao 263 4 Ap.length (Ap.flatMap Fj.enc)] func337 rfl ntmps337 rfl (λe he=>by simp only[bA] at he;subst he;exact Bo) (Jj _) (Le _) λa S=>?_
 revert h S
 exact Au
instance:FnT prog 337 vs (type_of% Rl):=⟨call337,Rl⟩
theorem TC(w:World)(Ad:Value)(Ai:List Fi)(As:Slc (view w []) 2 Ad (Ai.map Fi.enc))(Ct:Value)(Ck:List Je)(Cp:List EM)(Eb:Slc (view w []) 3 Ct (Cp.map EM.enc))(Ec:Mu (Xo (view w [])) Ck Cp)(Er:Int)(r:(List Fj)×Int)(h:OM Ai Ck Er=some r):
 Calls prog 312 [Ad,Ct,iV Er].toArray w (Ret w [] λτ v _=>∃u1:Value,v= .tuple #[u1,iV r.2]/\Kr τ 263 4 u1 r.1.length (r.1.flatMap Fj.enc)):=by
 unfold OM at h;refine Fe2 h func312 rfl ntmps312 rfl ?_;refine Ov 0 BB.eq_1 BB.eq_2 [] [0,5,10,30,31] [] (λi1 (x1:List (ByteArray×Int)) d p L K=>d p (rM 0 (λb2=>.map b2 (Ht Value.string (Value.int .i64) x1) x1.length) L) ((32,iV i1)::K)) (fun(x1:List (ByteArray×Int)) d p L K=>d p (rM 0 (λb2=>.map b2 (Ht Value.string (Value.int .i64) x1) x1.length) L) K) ?_ ?_
 ·exact Au
 refine XV 0 Ys.eq_1 Ys.eq_2 [(263,4),(263,4)] [5,10,42,43] [] (λi2 (x2:List Fj) (x3:List Fj) d p L K a w=>∃v3 v4,d p (rO 1 (λ_=>.own v4 263 4 x3.length (x3.flatMap Fj.enc)) (rO 0 (λ_=>.own v3 263 4 x2.length (x2.flatMap Fj.enc)) L)) ((44,iV i2)::(13,v4)::(14,v3)::K) a w) (fun(x2:List Fj) (x3:List Fj) d p L K a w=>∃v3 v4,d p (rO 1 (λ_=>.own v4 263 4 x3.length (x3.flatMap Fj.enc)) (rO 0 (λ_=>.own v3 263 4 x2.length (x2.flatMap Fj.enc)) L)) ((13,v4)::(14,v3)::K) a w) ?_ ?_
 ·refine J [_,_] 0 [] [5,10,42,43,44] [] (fun(x4:List Fj) (x5:List Fj) d p L K a w=>∃v5 v6,d p (rO 1 (λ_=>.own v6 263 4 x5.length (x5.flatMap Fj.enc)) (rO 0 (λ_=>.own v5 263 4 x4.length (x4.flatMap Fj.enc)) L)) ((13,v6)::(14,v5)::K) a w) ?_ ?_
  ·refine J [_,_] 1 [] [5,10,42,43,44] [false,false,true,true,true,true] (fun(x6:List Fj) (x7:List Fj) d p L K a w=>∃v7 v8,d p (rO 1 (λ_=>.own v8 263 4 x7.length (x7.flatMap Fj.enc)) (rO 0 (λ_=>.own v7 263 4 x6.length (x6.flatMap Fj.enc)) L)) ((13,v8)::(14,v7)::K) a w) ?_ ?_
   ·exact Au
   exact Au
  exact Au
 refine Ov 0 Yt.eq_1 Yt.eq_2 [] [5,14,78] [true,true,false,true] (λi3 (x8:List Fj) d p L K a w=>∃v12,d p (rO 1 (λ_=>.own v12 263 4 x8.length (x8.flatMap Fj.enc)) L) ((79,iV i3)::(13,v12)::K) a w) (fun(x8:List Fj) d p L K a w=>∃v12,d p (rO 1 (λ_=>.own v12 263 4 x8.length (x8.flatMap Fj.enc)) L) ((13,v12)::K) a w) ?_ ?_
 ·refine J [_] 0 [] [5,13,14,78,79] [] (fun(x9:List Fj) d p L K=>d p (rO 1 (λv12=>.own v12 263 4 x9.length (x9.flatMap Fj.enc)) L) K) ?_ ?_
  ·refine J [_] 2 [] [5,13,14,78,79] [] (fun(x10:List Fj) d p L K=>d p (rO 1 (λv12=>.own v12 263 4 x10.length (x10.flatMap Fj.enc)) L) K) ?_ ?_
   ·exact Au
   exact Au
  exact Au
 exact Au
instance:FnT prog 312 vs (type_of% TC):=⟨call312,TC⟩
theorem TD(w:World)(Ad:Value)(Ai:List Fi)(As:Slc (view w []) 2 Ad (Ai.map Fi.enc))(Ct:Value)(Ck:List Je)(Cp:List EM)(Eb:Slc (view w []) 3 Ct (Cp.map EM.enc))(Ec:Mu (Xo (view w [])) Ck Cp)(r:(List Fj)×Int)(h:GR Ai Ck=some r):
 Calls prog 261 [Ad,Ct].toArray w (Ret w [] λτ v _=>∃u1:Value,v= .tuple #[u1,iV r.2]/\Kr τ 263 4 u1 r.1.length (r.1.flatMap Fj.enc)):=by
 unfold GR at h;refine Fe2 h func261 rfl ntmps261 rfl ?_;exact Au
instance:FnT prog 261 vs (type_of% TD):=⟨call261,TD⟩
theorem PM(w:World)(Aa:Nat)(Bl:Ge)(Bg:R32)(Bk:Lb (view w []) Bl Bg)(Aq:Value)(Ax:List An)(Br:Slc (view w []) 11 Aq (Ax.map An.enc))(Ak:(view w []) Aa=some (.cells (R32.enc Bg++[Aq]).toArray 212 (0,0)))(Bb:ByteArray)(r:(List Fj)×(List (ByteArray×ByteArray))×Int)(h:EY Bl Ax Bb=some r):
 Calls prog 221 [bW Aa,sV Bb].toArray w (Ret w [] λτ v _=>∃u1:Value,∃u2:Value,v= .tuple #[u1,u2,iV r.2.2]/\Kr τ 263 4 u1 r.1.length (r.1.flatMap Fj.enc)/\(∃b:Nat,u2= .map (some b)/\τ b=some (.map (Ht Value.string Value.string r.2.1) r.2.1.length))):=by
 obtain⟨u1,u2,rfl,hs1,⟨u3,rfl,hs2⟩⟩:=Bk;unfold EY at h;refine Fe2 h func221 rfl ntmps221 rfl ?_;refine Lr3_3 0 Vs.eq_1 Vs.eq_2 [(296,3),(97,2)] [7,8,23,24] [] (λi1 (x1:List Je) (x2:List Fi) (x3:List (ByteArray×ByteArray)) d p L K a w=>∃v3 rs1 v4,Mu (Xo p) x1 rs1/\d p (rM 2 (λb2=>.map b2 (Ht Value.string Value.string x3) x3.length) (rO 1 (λ_=>.own v4 97 2 x2.length (x2.flatMap Fi.enc)) (rO 0 (λ_=>.own v3 296 3 rs1.length (rs1.flatMap EM.enc)) L))) ((25,iV i1)::(9,v4)::(10,v3)::K) a w) (fun(x1:List Je) (x2:List Fi) (x3:List (ByteArray×ByteArray)) d p L K a w=>∃v3 rs1 v4,Mu (Xo p) x1 rs1/\d p (rM 2 (λb2=>.map b2 (Ht Value.string Value.string x3) x3.length) (rO 1 (λ_=>.own v4 97 2 x2.length (x2.flatMap Fi.enc)) (rO 0 (λ_=>.own v3 296 3 rs1.length (rs1.flatMap EM.enc)) L))) ((9,v4)::(10,v3)::K) a w) ?_ ?_
 ·refine J [_,_,_] 0 [] [7,8,23,24,25] [] (fun(x4:List Je) (x5:List Fi) (x6:List (ByteArray×ByteArray)) d p L K a w=>∃v5 rs2 v6,Mu (Xo p) x4 rs2/\d p (rM 2 (λb2=>.map b2 (Ht Value.string Value.string x6) x6.length) (rO 1 (λ_=>.own v6 97 2 x5.length (x5.flatMap Fi.enc)) (rO 0 (λ_=>.own v5 296 3 rs2.length (rs2.flatMap EM.enc)) L))) ((9,v6)::(10,v5)::K) a w) ?_ ?_
  ·refine J [_] 1 [] [7,8,9,23,24,25] [false,false,false,true,true,true] (fun(x7:List Je) d p L K a w=>∃v8 rs3,Mu (Xo p) x7 rs3/\d p (rO 0 (λ_=>.own v8 296 3 rs3.length (rs3.flatMap EM.enc)) L) ((10,v8)::K) a w) ?_ ?_
   ·exact Au
   exact Au
  exact Au
 exact Au
instance:FnT prog 221 vs (type_of% PM):=⟨call221,PM⟩
theorem IK(w:World)(Az:Fd)(Ba:Fd)(r:Int)(h:Zj Az Ba=r):
 Calls prog 223 [.agg (Fd.enc Az).toArray,.agg (Fd.enc Ba).toArray].toArray w (Ret w [] λ_ v _=>v=iV r):=by
 unfold Zj at h;refine Fe2 h func223 rfl ntmps223 rfl ?_;exact Au
instance:FnT prog 223 vs (type_of% IK):=⟨call223,IK⟩
theorem Nu(w:World)(Ac:Value)(Ah:List Fd)(Bd:(LEnt.own Ac 181 5 Ah.length (Ah.flatMap Fd.enc)).holds w)(Az:Int)(Ba:Int)(r:(List Fd))(h:Hb Ah Az Ba=some r):
 Calls prog 313 [Ac,iV Az,iV Ba,.func (.func 223) #[] #[]].toArray w (Ret w (Ac.ownBlock.toList) λ_ v w'=>(LEnt.own Ac 181 5 r.length (r.flatMap Fd.enc)).holds w'/\v= .tuple #[]):=by
 have zr0:ED 6 [15,17] [] [] []:=⟨⟩;unfold Hb at h;refine Ka (Ac.ownBlock.toList) [.own Ac 181 5 Ah.length (Ah.flatMap Fd.enc)] func313 rfl ntmps313 rfl (λe he=>by simp only[bA] at he;subst he;exact Bd) (Jj _) (Le _) λa S=>?_
 revert h S
 refine Xk 0 Hq.eq_1 Hq.eq_2 [] [0,1,2,3] [] (fun(x1:List Fd) x2 d p L K=>d p (rO 0 (λ_=>.own Ac 181 5 x1.length (x1.flatMap Fd.enc)) L) ((8,iV x2)::K)) (fun(x1:List Fd) d p L K=>d p (rO 0 (λ_=>.own Ac 181 5 x1.length (x1.flatMap Fd.enc)) L) K) ?_ ?_
 ·refine Xk 1 Gl.eq_1 Gl.eq_2 [] [0,1,2,3,8] [] (fun(x3:List Fd) x4 d p L K=>d p (rO 0 (λ_=>.own Ac 181 5 x3.length (x3.flatMap Fd.enc)) L) ((9,iV x4)::K)) (fun(x3:List Fd) d p L K=>d p (rO 0 (λ_=>.own Ac 181 5 x3.length (x3.flatMap Fd.enc)) L) K) ?_ ?_
  ·refine J [_] 0 [] [0,1,2,3,8,9] [] (λx5 d p L K=>d p L ((34,bV x5)::K)) ?_ ?_
   ·exact Au
   exact Au
  exact Au
 exact Au
instance:FnT prog 313 vs (type_of% Nu):=⟨call313,Nu⟩
end Go.Proofs.YthlielagemkjcaaGreatDoor
