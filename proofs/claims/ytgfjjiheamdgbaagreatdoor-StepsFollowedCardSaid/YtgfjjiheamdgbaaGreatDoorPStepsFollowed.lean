/- The plain law of StepsFollowed. No program stands here but its twins. -/
import Derived.Test.YtgfjjiheamdgbaaGreatDoorPReady
namespace Go.Proofs.YtgfjjiheamdgbaaGreatDoor
open Go
theorem mid_is {l h : Int} (h0 : 0 ≤ l) (h1 : l ≤ h) (h2 : h ≤ 100000) : W (Di .u64 (IntKind.wrap .u64 (W (l + h))) 1) = (l + h) / 2:=by
 have e1 : W (l + h) = l + h:=Hv (by omega) (by omega)
 have e2 : IntKind.wrap .u64 (l + h) = l + h:=by
  simp only [IntKind.wrap,IntKind.bits,IntKind.signed]
  simp
  omega
 have e3 : Di .u64 (l + h) 1 = (l + h) / 2:=by
  unfold Di
  have : (min (1 : Int).toNat IntKind.u64.bits) = 1:=by decide
  rw [this]
  exact Int.fdiv_eq_ediv_of_nonneg _ (by decide)
 rw [e1,e2,e3,Hv (by omega) (by omega)]
theorem Zg {α : Type} [Inhabited α] (a : List α) (i : Nat) (h : i < a.length) : nth a (i : Int) = a[i]:=by
 simp [nth,List.getD,List.getElem?_eq_getElem h]
theorem Zh (a : List An) (hl : a.length ≤ 2000) (hu : Ul a) (y : An) (j : Int → Option (Int × Bool)) : ∀ (m lo hi : Nat),hi - lo < m → lo ≤ hi → hi ≤ a.length → (∀ i (h : i < a.length),i < lo → Cs a[i] y < 0) → (∀ i (h : i < a.length),hi ≤ i → ¬ Cs a[i] y < 0) →
  ∃ k : Nat,k ≤ a.length ∧ Dh a y j m (lo : Int) (hi : Int) = j (k : Int) ∧ (∀ i (h : i < a.length),i < k → Cs a[i] y < 0) ∧ (∀ i (h : i < a.length),k ≤ i → ¬ Cs a[i] y < 0)
 | 0,lo,hi,h,_,_,_,_=>by omega
 | m + 1,lo,hi,h,h1,h2,h3,h4=>by
  rw [Dh]
  by_cases hc : lo < hi
  ·have hmid : W (Di .u64 (IntKind.wrap .u64 (W ((lo : Int) + (hi : Int)))) 1) = (((lo + hi) / 2 : Nat) : Int):=by rw [mid_is (by omega) (by omega) (by omega)]; omega
   have hmn : (lo + hi) / 2 < a.length:=by omega
   rw [if_pos (by simpa using hc)]
   simp only [Gs]
   rw [hmid,Ho (Fh.2 (by omega)),Zg a _ hmn]
   have hmono:=List.pairwise_iff_getElem.1 hu
   by_cases hlt : Cs a[(lo + hi) / 2] y < 0
   ·rw [if_pos (decide_eq_true hlt),Hv (by omega) (by omega)]
    refine Zh a hl hu y j m ((lo + hi) / 2 + 1) hi (by omega) (by omega) h2 (fun i h hi'=>?_) h4
    by_cases he : i = (lo + hi) / 2
    ·subst he; exact hlt
    ·exact Mc (hmono i _ h hmn (by omega)) hlt
   ·rw [if_neg (by simpa using hlt)]
    refine Zh a hl hu y j m lo ((lo + hi) / 2) (by omega) (by omega) (by omega) h3 (fun i h hi'=>?_)
    by_cases he : i = (lo + hi) / 2
    ·subst he; exact hlt
    ·exact fun h5=>hlt (Mc (hmono _ i hmn h (by omega)) h5)
  ·rw [if_neg (by simpa using hc)]
   exact ⟨lo,by omega,rfl,h3,fun i h hi'=>h4 i h (by omega)⟩
theorem bs_is (a : List An) (hl : a.length ≤ 2000) (hu : Ul a) (y : An) : ∃ k b,Fm a y = some (k,b) ∧
  (b = true → inB k a.length = true ∧ nth a k ∈ a ∧ Cs (nth a k) y = 0) ∧ (b = false → ∀ s ∈ a,Cs s y ≠ 0):=by
 unfold Fm
 simp only [Gs]
 obtain ⟨k,hk,e,h1,h2⟩:=Zh a hl hu y (fun x1=>if decide (x1 < (a.length : Int)) then Chk (inB x1 a.length) (some (x1,decide (Cs (nth a x1) y = 0))) else some (x1,false)) (((a.length : Int) - 0).toNat + 2) 0 a.length (by omega) (by omega) (Nat.le_refl _) (fun i _ h=>by omega) (fun i h h'=>by omega)
 rw [Int.natCast_zero] at e
 rw [e]
 have hmono:=List.pairwise_iff_getElem.1 hu
 by_cases hkn : k < a.length
 ·rw [if_pos (by simpa using hkn),Ho (Fh.2 (by omega)),Zg a k hkn]
  refine ⟨_,_,rfl,fun hb=>⟨Fh.2 (by omega),by rw [Zg a k hkn]; exact List.getElem_mem hkn,by rw [Zg a k hkn]; simpa using hb⟩,fun hb s hs=>?_⟩
  have hb' : Cs a[k] y ≠ 0:=by simpa using hb
  obtain ⟨i,hi,rfl⟩:=List.mem_iff_getElem.1 hs
  by_cases h3 : i < k
  ·have:=h1 i hi h3; omega
  ·by_cases h4 : i = k
   ·subst h4; exact hb'
   ·intro h5
    have h6:=hmono k i hkn hi (by omega)
    have h7:=h2 k hkn (Nat.le_refl _)
    have h8:=(Of _ _).1 h5
    rcases Uk a[k] y with h9 | h9 | h9
    ·exact h7 h9
    ·exact Ru a[i] (Yk ⟨h8.1.symm,h8.2.1.symm,h8.2.2.symm⟩ (Mc h9 h6))
    ·exact hb' ((Of _ _).2 h9)
 ·rw [if_neg (by simpa using hkn)]
  refine ⟨_,_,rfl,fun hb=>by simp at hb,fun _ s hs=>?_⟩
  obtain ⟨i,hi,rfl⟩:=List.mem_iff_getElem.1 hs
  have:=h1 i hi (by omega)
  omega
theorem Xl (a : List An) (hl : a.length ≤ 1000) (hu : Ul a) (j : List An → Option (List An × Int)) : ∀ (ys : List An) (i : Nat) (x : List An),x.length + ys.length ≤ 3000 → (∀ y ∈ ys,∀ s ∈ a,Cs s y = 0 → s = y) →
  Hb a j ys i x = j (x ++ ys.filter fun y=>!decide (y ∈ a))
 | [],_,x,_,_=>by simp [Hb]
 | y :: ys,i,x,h,hc=>by
  simp only [List.length_cons] at h
  have ih:=fun x' h'=>Xl a hl hu j ys (i + 1) x' h' fun z hz=>hc z (List.mem_cons_of_mem _ hz)
  obtain ⟨k,b,e,h1,h2⟩:=bs_is a (by omega) hu y
  rw [Hb,e]
  simp only [Option.bind_some,Gs]
  cases b with
  | true =>
   obtain ⟨g1,g2,g3⟩:=h1 rfl
   have he:=hc y List.mem_cons_self _ g2 g3
   have hy : y ∈ a:=he ▸ g2
   rw [if_neg (by simp),Ho g1,if_neg (by simp [he]),ih x (by omega)]
   simp [hy]
  | false =>
   have hy : y ∉ a:=fun hy=>h2 rfl y hy ((Of _ _).2 ⟨rfl,rfl,rfl⟩)
   rw [if_pos (by simp),Ho (by unfold Mw; exact decide_eq_true (by omega)),ih (x ++ [y]) (by simp; omega)]
   simp [hy]
theorem EV {x p q : List An} (hx : Ec x = some 0) (hxl : x.length ≤ 100) (hp : p.Sublist x) (hq : q.Sublist x) (hpq : ∀ s ∈ x,s ∈ p ∨ s ∈ q) : Jn p q = some (x,0):=by
 obtain ⟨_,_,hu,_⟩:=Qu hx
 have hpu : Ul p:=List.Pairwise.sublist hp hu
 have l1:=hp.length_le
 have l2:=hq.length_le
 have heq:=CI hu
 have hcp:=Yl hp hx
 have hcq:=Yl hq hx
 have hsl : Ib p = some p:=by
  unfold Ib
  rw [Ho (decide_eq_true (by simp; omega))]
  rfl
 unfold Jn
 rw [hcp,hcq,hsl]
 simp only [Option.bind_some,Gs,decide_true,Bool.not_true,Bool.false_eq_true,if_false]
 rw [Xl p (by omega) hpu _ q 0 p (by omega) fun y hy s hs h0=>heq s (hp.subset hs) y (hq.subset hy) ((Of _ _).1 h0)]
 have hfl : (q.filter fun y=>!decide (y ∈ p)).length ≤ q.length:=List.length_filter_le _ _
 have hmem : ∀ s,s ∈ p ++ q.filter (fun y=>!decide (y ∈ p)) ↔ s ∈ x:=by
  intro s
  constructor
  ·intro h
   rcases List.mem_append.1 h with h | h
   ·exact hp.subset h
   ·exact hq.subset (List.mem_filter.1 h).1
  ·intro h
   by_cases hs : s ∈ p
   ·exact List.mem_append_left _ hs
   ·refine List.mem_append_right _ (List.mem_filter.2 ⟨(hpq s h).resolve_left hs,by simp [hs]⟩)
 have hnd : (p ++ q.filter fun y=>!decide (y ∈ p)).Nodup:=by
  refine List.nodup_append.2 ⟨Xk hpu,(List.Pairwise.sublist List.filter_sublist (Xk (List.Pairwise.sublist hq hu))),?_⟩
  intro a ha b hb e
  subst e
  have:=(List.mem_filter.1 hb).2
  simp [ha] at this
 have hperm : (p ++ q.filter fun y=>!decide (y ∈ p)).Perm x:=(List.perm_ext_iff_of_nodup hnd (Xk hu)).2 hmem
 have hlen:=hperm.length_eq
 rw [if_neg (by rw [hlen]; simp; omega)]
 have hgood : So Cs (p ++ q.filter fun y=>!decide (y ∈ p)):=ET fun s hs t ht h=>heq s ((hmem s).1 hs) t ((hmem t).1 ht) h
 have hsort : Lv Cs (p ++ q.filter fun y=>!decide (y ∈ p)) = x:=by
  unfold Lv
  refine List.Perm.eq_of_pairwise (le:=fun x y=>(!decide (Cs y x < 0)) = true) ?_ (List.pairwise_mergeSort ?_ ?_ _) ?_ ((List.mergeSort_perm _ _).trans hperm)
  ·intro s t hs ht h1 h2
   simp only [Bool.not_eq_true',decide_eq_false_iff_not] at h1 h2
   rcases Uk s t with h3 | h3 | h3
   ·exact absurd h3 h2
   ·exact absurd h3 h1
   ·exact heq s ((hmem s).1 (List.mem_mergeSort.1 hs)) t ht h3
  ·intro r s t h1 h2
   simp only [Bool.not_eq_true',decide_eq_false_iff_not] at h1 h2 ⊢
   exact Ts h2 h1
  ·intro s t
   by_cases h1 : Cs t s < 0
   ·have : ¬ Cs s t < 0:=fun h2=>Ru t (Mc h1 h2)
    simp [this]
   ·simp [h1]
  ·refine List.Pairwise.imp (fun {s t} h=>?_) hu
   have : ¬ Cs t s < 0:=fun h2=>Ru s (Mc h h2)
   simp [this]
 unfold Hp
 rw [if_pos ⟨hgood,by rw [hlen]; omega⟩,hsort]
 rfl
theorem BJ {x : List An} (hx : Ec x = some 0) : Jx x = some (Uj x,0):=by
 obtain ⟨h1,h2,h3,_⟩:=Qu hx
 obtain ⟨sw,w1,_⟩:=Yi x h1 h2 (EU h3) 345686400000
 rw [upS_all fun s hs=>by have:=(h2 s hs).1; omega] at w1
 unfold Jx
 rw [hx]
 simp only [Option.bind_some,decide_true,Bool.not_true,Bool.false_eq_true,if_false,w1]
end Go.Proofs.YtgfjjiheamdgbaaGreatDoor
namespace Go.Proofs.YtgfjjiheamdgbaaGreatDoor
open Go
theorem DF : La = some true:=by decide +kernel
theorem eqStepF (l : List An) : Kc l l = some true:=by
 unfold Kc
 rw [if_neg (by simp),Gs]
 exact eq_l l (Hc l (some true)) (fun _=>rfl) (fun _ _ _=>rfl) l [] rfl
theorem eqIntF (l : List Int) : Km l l = some true:=by
 unfold Km
 rw [if_neg (by simp),Gs]
 exact eq_l l (Hk l (some true)) (fun _=>rfl) (fun _ _ _=>rfl) l [] rfl
theorem eqStrF (l : List ByteArray) : Ir l l = some true:=by
 unfold Ir
 rw [if_neg (by simp),Gs]
 exact eq_l l (Gl l (some true)) (fun _=>rfl) (fun _ _ _=>rfl) l [] rfl
theorem EW (s : List An) (hs : s.length ≤ 1000000) : ∀ (ys dn : List An) (p : An) (m : Nat),s = dn ++ p :: ys → ys.length < m → Ft s (some s) m ((dn.length + 1 : Nat) : Int) = some (dn ++ p :: nbF p ys)
 | [],dn,p,m,e,h1=>by
  obtain ⟨m,rfl⟩ : ∃ q,m = q + 1:=⟨m - 1,by omega⟩
  have hlen : s.length = dn.length + 1:=by rw [e]; simp
  rw [Ft,if_neg (by simp only [decide_eq_true_eq]; omega)]
  simp [nbF,← e]
 | y :: ys,dn,p,m,e,h1=>by
  obtain ⟨m,rfl⟩ : ∃ q,m = q + 1:=⟨m - 1,by omega⟩
  simp only [List.length_cons] at h1
  have hlen : s.length = dn.length + (ys.length + 1 + 1):=by rw [e]; simp
  have w1 : W (((dn.length + 1 : Nat) : Int) - 1) = (dn.length : Int):=by rw [Hv (by omega) (by omega)]; omega
  have n1 : nth s (dn.length : Int) = p:=Ug (by rw [e]; simp)
  have n2 : nth s ((dn.length + 1 : Nat) : Int) = y:=Ug (by rw [e,List.getElem?_append_right (by omega)]; simp)
  rw [Ft,if_pos (by simp only [decide_eq_true_eq]; omega),w1,Ho (Fh.2 (by omega)),Ho (Fh.2 (by omega)),n1,n2]
  by_cases hy : y = p
  ·rw [if_pos (decide_eq_true hy),Ho (Ko.2 (by omega)),Gs]
   obtain ⟨mid,e1,e2⟩:=Ze (dn.length + 1) s.length _ (Gk s ((dn.length + 1 : Nat) : Int) (fun (x2 : List An) (x3 : Int)=>Chk (Pf x3 (x2.length : Int) x2.length) (Chk (Pf 0 x3 (clr x2 x3 (x2.length : Int) (An.mk 0 0 Cj Cj Cj Cj 0 0)).length) (some (cut (clr x2 x3 (x2.length : Int) (An.mk 0 0 Cj Cj Cj Cj 0 0)) (0 : Int) x3)))))
    (fun _ _ _ _=>rfl) (by omega) ys (dn ++ [p]) [] y (((((s.length : Int).toNat - ((dn.length + 1 : Nat) : Int).toNat : Nat) : Int) - 1).toNat + 2) 1 (by simp only [Int.toNat_natCast]; omega) (by simp; omega) (by omega) (by simp)
   have e3 : dn ++ [p] ++ [] ++ y :: ys = s:=by rw [e]; simp
   have e4 : ((dn ++ [p]).length : Int) = ((dn.length + 1 : Nat) : Int):=by simp
   rw [e3,e4] at e1
   refine e1.trans ?_
   obtain ⟨c1,c2,c3⟩:=cut_clr (dn ++ [p] ++ nbF y ys) mid (An.mk 0 0 Cj Cj Cj Cj 0 0)
   rw [Ho c1,Ho c2,c3]
   simp [nbF,hy]
  ·rw [if_neg (by simpa using hy)]
   have w2 : W (((dn.length + 1 : Nat) : Int) + 1) = (((dn ++ [p]).length + 1 : Nat) : Int):=by rw [Hv (by omega) (by omega)]; simp
   rw [w2,EW s hs ys (dn ++ [p]) y m (by rw [e]; simp) (by omega)]
   simp [nbF,hy]
theorem AN (s : List An) (hs : s.length ≤ 1000000) : Kf s = some (nb s):=by
 unfold Kf
 cases s with
 | nil=>rfl
 | cons p ys =>
  by_cases h : ((p :: ys).length : Int) < 2
  ·have : ys = []:=List.eq_nil_of_length_eq_zero (by simp at h; omega)
   subst this
   rfl
  ·rw [if_neg (by simpa using h),Gs]
   have:=EW (p :: ys) hs ys [] p ((((p :: ys).length : Int) - 1).toNat + 2) rfl (by simp)
   simpa [nb] using this
def Um : List An → Bool
 | p :: q :: r=>decide (Df p q = 0) || Um (q :: r)
 | _=>false
theorem EX (N : List An) (hN : N.length ≤ 1000) (j : Option (List An × Int)) : ∀ (ys d : List An) (p : An),N = d ++ p :: ys → Fv N j ys (d.length + 1) = if Um (p :: ys) then some ([],13) else j
 | [],d,p,_=>by rw [Fv]; simp [Um]
 | y :: ys,d,p,e=>by
  have hl : N.length = d.length + (ys.length + 1 + 1):=by rw [e]; simp
  have ih:=EX N hN j ys (d ++ [p]) y (by rw [e]; simp)
  rw [List.length_append,List.length_singleton] at ih
  have hw : W (((d.length + 1 : Nat) : Int) - 1) = (d.length : Int):=by rw [Hv (by omega) (by omega)]; omega
  rw [Fv,Gs,if_pos (by simp only [decide_eq_true_eq]; omega),hw,Ho (Fh.2 (by omega)),show nth N (d.length : Int) = p from Ug (by rw [e]; simp),ih,Um]
  by_cases h : Df p y = 0
  ·simp [h]
  ·simp [h]
theorem conf_is (N : List An) (hN : N.length ≤ 1000) (j : Option (List An × Int)) : Fv N j N 0 = if Um N then some ([],13) else j:=by
 cases N with
 | nil=>rfl
 | cons p ys =>
  have:=EX (p :: ys) hN j ys [] p rfl
  rw [Fv,Gs,if_neg (by simp)]
  exact this
theorem Zi : ∀ (r : List An) (p : An),(nbF p r).Sublist r
 | [],_=>List.Sublist.refl _
 | y :: r,p=>by
  rw [nbF]
  split
  ·rename_i h; subst h; exact (Zi r y).cons y
  ·exact (Zi r y).cons_cons y
theorem BK : ∀ l : List An,(nb l).Sublist l
 | []=>List.Sublist.refl _
 | p :: r=>(Zi r p).cons_cons p
theorem Zj : ∀ (r : List An) (p x : An),x ∈ r → x = p ∨ x ∈ nbF p r
 | y :: r,p,x,h=>by
  rw [nbF]
  split
  ·rename_i hy
   rcases List.mem_cons.1 h with rfl | h
   ·exact .inl hy
   ·have:=Zj r y x h
    rw [hy] at this
    rw [hy]
    exact this
  ·rcases List.mem_cons.1 h with rfl | h
   ·exact .inr (by simp)
   ·rcases Zj r y x h with rfl | h'
    ·exact .inr (by simp)
    ·exact .inr (by simp [h'])
theorem nb_iff (l : List An) (x : An) : x ∈ nb l ↔ x ∈ l:=by
 refine ⟨fun h=>(BK l).subset h,fun h=>?_⟩
 cases l with
 | nil=>cases h
 | cons p r =>
  rcases List.mem_cons.1 h with rfl | h
  ·simp [nb]
  ·rcases Zj r p x h with rfl | h
   ·simp [nb]
   ·simp [nb,h]
theorem Xm : ∀ (r : List An) (p : An),Um (p :: nbF p r) = true → ∃ x y,x ∈ p :: r ∧ y ∈ p :: r ∧ x ≠ y ∧ Df x y = 0
 | [],p,h=>by simp [nbF,Um] at h
 | y :: r,p,h=>by
  rw [nbF] at h
  split at h
  ·rename_i hy
   subst hy
   obtain ⟨x,z,h1,h2,h3⟩:=Xm r y h
   exact ⟨x,z,List.mem_cons_of_mem _ h1,List.mem_cons_of_mem _ h2,h3⟩
  ·rename_i hy
   rw [Um,Bool.or_eq_true] at h
   rcases h with h | h
   ·exact ⟨p,y,by simp,by simp,fun e=>hy e.symm,of_decide_eq_true h⟩
   ·obtain ⟨x,z,h1,h2,h3⟩:=Xm r y h
    exact ⟨x,z,List.mem_cons_of_mem _ h1,List.mem_cons_of_mem _ h2,h3⟩
theorem adjZ_nb {l : List An} (h : Um (nb l) = true) : ∃ x y,x ∈ l ∧ y ∈ l ∧ x ≠ y ∧ Df x y = 0:=by
 cases l with
 | nil=>cases h
 | cons p r=>exact Xm r p h
theorem ordOn {D : List An} (h : ∀ x ∈ D,StG x) : Vg D:=by
 refine ⟨fun x hx y hy z hz h1 h2=>?_,fun x hx y hy=>?_⟩
 ·unfold leO at *
  rw [Oe _ _ (h y hy) (h x hx)] at h1
  rw [Oe _ _ (h z hz) (h y hy)] at h2
  rw [Oe _ _ (h z hz) (h x hx)]
  exact Ts h2 h1
 ·unfold leO
  rw [Oe _ _ (h y hy) (h x hx),Oe _ _ (h x hx) (h y hy)]
  by_cases h1 : Cs y x < 0
  ·exact .inr fun h2=>Ru y (Mc h1 h2)
  ·exact .inl h1
theorem DG : ∀ (N : List An),(∀ x ∈ N,StG x) → N.Pairwise leO → Um N = false → Qt N
 | N,hg,hs,hz=>by
  have go : ∀ (ys d : List An) (p : An),N = d ++ p :: ys → Um (p :: ys) = false → ∀ dn q t zs,N = dn ++ q :: t :: zs → d.length ≤ dn.length → Cs q t < 0:=by
   intro ys
   induction ys with
   | nil =>
    intro d p e _ dn q t zs e2 h
    have h1:=congrArg List.length e
    have h2:=congrArg List.length e2
    simp at h1 h2
    omega
   | cons y ys ih =>
    intro d p e hz dn q t zs e2 h
    rw [Um,Bool.or_eq_false_iff] at hz
    rcases Nat.lt_or_ge d.length dn.length with h3 | h3
    ·exact ih (d ++ [p]) y (by rw [e]; simp) hz.2 dn q t zs e2 (by simp; omega)
    ·have hl : d.length = dn.length:=by omega
     rw [e] at e2
     obtain ⟨_,e4⟩:=List.append_inj e2 hl
     simp only [List.cons.injEq] at e4
     obtain ⟨rfl,rfl,_⟩:=e4
     have hp:=hg p (by rw [e]; simp)
     have hy:=hg y (by rw [e]; simp)
     have h5:=of_decide_eq_false hz.1
     rw [Oe _ _ hp hy] at h5
     rw [e,List.pairwise_append,List.pairwise_cons] at hs
     have h6:=hs.2.1.1 y (by simp)
     unfold leO at h6
     rw [Oe _ _ hy hp] at h6
     rcases Uk p y with h7 | h7 | h7
     ·exact h7
     ·exact absurd h7 h6
     ·exact absurd ((Of _ _).2 h7) h5
  intro dn q t zs e
  cases N with
  | nil=>simp at e
  | cons p ys=>exact go ys [] p rfl hz dn q t zs e (by simp)
theorem Ym (a : List An) (hl : a.length ≤ 1000) (hu : Ul a) (j : List An → Option (List An × Int)) : ∀ (ys : List An) (i : Nat) (x : List An),x.length + ys.length ≤ 3000 → (∃ y ∈ ys,∃ s ∈ a,Cs s y = 0 ∧ s ≠ y) →
  Hb a j ys i x = some ([],13)
 | [],_,x,_,h=>by obtain ⟨y,hy,_⟩:=h; cases hy
 | y :: ys,i,x,h,hc=>by
  simp only [List.length_cons] at h
  have ih:=fun x' h' hc'=>Ym a hl hu j ys (i + 1) x' h' hc'
  obtain ⟨k,b,e,h1,h2⟩:=bs_is a (by omega) hu y
  rw [Hb,e]
  simp only [Option.bind_some,Gs]
  have rest : (∀ s ∈ a,Cs s y = 0 → s = y) → ∃ y ∈ ys,∃ s ∈ a,Cs s y = 0 ∧ s ≠ y:=fun hn=>by
   obtain ⟨z,hz,s,hs,c1,c2⟩:=hc
   rcases List.mem_cons.1 hz with rfl | hz
   ·exact absurd (hn s hs c1) c2
   ·exact ⟨z,hz,s,hs,c1,c2⟩
  cases b with
  | true =>
   obtain ⟨g1,g2,g3⟩:=h1 rfl
   rw [if_neg (by simp),Ho g1]
   by_cases he : nth a k = y
   ·rw [if_neg (by simp [he]),ih x (by omega) (rest fun s hs h0=>by
     have q1:=(Of _ _).1 h0
     have q2:=(Of _ _).1 g3
     have:=CI hu s hs _ g2 ⟨by rw [q1.1,q2.1],by rw [q1.2.1,q2.2.1],by rw [q1.2.2,q2.2.2]⟩
     rw [this,he])]
   ·rw [if_pos (by simp [he])]
  | false =>
   rw [if_pos (by simp),Ho (by unfold Mw; exact decide_eq_true (by omega)),ih (x ++ [y]) (by simp; omega) (rest fun s hs h0=>absurd h0 (h2 rfl s hs))]
theorem concatS {a b : List An} (h : a.length + b.length ≤ 1000000) : Kr [a,b] = some (a ++ b):=by
 unfold Kr
 rw [Gs,Fz,Hv (by omega) (by omega),if_neg (by simp only [decide_eq_true_eq]; omega),Fz,Hv (by omega) (by omega),if_neg (by simp only [decide_eq_true_eq]; omega),Fz]
 unfold Mq
 rw [Ho (by simp; omega),Option.bind_some,Gs,Ga,Ho (by simp; omega),Ga,Ho (by simp; omega),Ga]
 simp
def ltP' (p q : An) : Bool:=decide (Cs p q < 0)
theorem EY {a N : List An} (ha : Ul a) (hN : Ul N) (h : ∀ x ∈ a,x ∈ N) : a.Sublist N:=by
 have e : a = N.filter fun x=>decide (x ∈ a):=by
  refine CD (lt:=ltP') (fun x=>decide_eq_false (Ru x)) (fun x y z h1 h2=>decide_eq_true (Mc (of_decide_eq_true h1) (of_decide_eq_true h2))) _ _ (ha.imp fun h=>decide_eq_true h) ((List.Pairwise.sublist List.filter_sublist hN).imp fun h=>decide_eq_true h) fun x=>?_
  rw [List.mem_filter]
  exact ⟨fun hx=>⟨h x hx,decide_eq_true hx⟩,fun hx=>of_decide_eq_true hx.2⟩
 rw [e]
 exact List.filter_sublist
theorem EZ {a b : List An} (ha : Ec a = some 0) (hb : Ec b = some 0) (la : a.length ≤ 19) (lb : b.length ≤ 19) : ∃ m f,Jn a b = some (m,f) ∧ Hx a b = some (m,f):=by
 obtain ⟨_,ga,ua,ka⟩:=Qu ha
 obtain ⟨_,gb,ub,kb⟩:=Qu hb
 have gD : ∀ x ∈ a ++ b,StG x:=fun x hx=>(List.mem_append.1 hx).elim (ga x) (gb x)
 have kD : ∀ x ∈ a ++ b,Hl x = some 0:=fun x hx=>(List.mem_append.1 hx).elim (ka x) (kb x)
 obtain ⟨C,c1,c2,c3⟩:=DC (ordOn gD) (a ++ b) (by rw [List.length_append]; omega) (fun x hx=>hx)
 have hCl:=c2.length_eq
 rw [List.length_append] at hCl
 have hNm : ∀ x,x ∈ nb C ↔ x ∈ a ++ b:=fun x=>by rw [nb_iff,c2.mem_iff]
 have hNs : (nb C).Pairwise leO:=List.Pairwise.sublist (BK C) c3
 have hNl:=(BK C).length_le
 have hR : Hx a b = if Um (nb C) then some ([],13) else some (nb C,0):=by
  unfold Hx
  rw [concatS (by omega),Option.bind_some,c1,Option.bind_some,AN C (by omega),Option.bind_some,Gs,if_neg (by simp only [decide_eq_true_eq]; omega),conf_is _ (by omega)]
 cases hz : Um (nb C) with
 | false =>
  have hu : Ul (nb C):=BI _ (DG _ (fun x hx=>gD x ((hNm x).1 hx)) hNs hz)
  have hcN : Ec (nb C) = some 0:=AM (by omega) hu fun x hx=>kD x ((hNm x).1 hx)
  refine ⟨nb C,0,EV hcN (by omega) (EY ua hu fun x hx=>(hNm x).2 (List.mem_append_left _ hx)) (EY ub hu fun x hx=>(hNm x).2 (List.mem_append_right _ hx)) fun s hs=>List.mem_append.1 ((hNm s).1 hs),?_⟩
  rw [hR,hz,if_neg (by simp)]
 | true =>
  refine ⟨[],13,?_,by rw [hR,hz,if_pos rfl]⟩
  obtain ⟨x,y,h1,h2,h3,h4⟩:=adjZ_nb hz
  have h1:=c2.mem_iff.1 h1
  have h2:=c2.mem_iff.1 h2
  rw [Oe _ _ (gD x h1) (gD y h2)] at h4
  have h5:=(Of _ _).1 h4
  have hex : ∃ y ∈ b,∃ s ∈ a,Cs s y = 0 ∧ s ≠ y:=by
   rcases List.mem_append.1 h1 with q1 | q1 <;> rcases List.mem_append.1 h2 with q2 | q2
   ·exact absurd (CI ua x q1 y q2 h5) h3
   ·exact ⟨y,q2,x,q1,h4,h3⟩
   ·exact ⟨x,q1,y,q2,(Of _ _).2 ⟨h5.1.symm,h5.2.1.symm,h5.2.2.symm⟩,fun e=>h3 e.symm⟩
   ·exact absurd (CI ub x q1 y q2 h5) h3
  unfold Jn
  rw [ha,Option.bind_some,if_neg (by simp),hb,Option.bind_some,if_neg (by simp)]
  unfold Ib
  rw [Ho (by simp; omega),Option.bind_some,List.nil_append,Gs,Ym a (by omega) ua _ b 0 a (by omega) hex]
theorem Vv (l : List An) (hl : l.length ≤ 1000) : Gv l = some (Uj l):=by
 unfold Gv
 simp only [Gs]
 have hh:=AC (fun (s : An) i=>!Dp (stf (l.take i) s.Id) s.Kind) (fun _ i=>(i : Int)) (fun x=>some x) (Fo l fun x=>some x) (fun _ _=>rfl) l (by omega) 0 (by omega) (fun dn y ys x h _=>by
  have hc : cut l 0 (dn.length : Int) = l.take dn.length:=by simp [cut]
  have hlen : l.length = dn.length + (ys.length + 1):=by rw [h]; simp
  rw [Fo]
  simp only [Gs]
  rw [Ho (Ko.2 (by omega)),Xh,hc]) l [] [] rfl (by simp)
 rw [List.length_nil,List.nil_append] at hh
 exact hh
def CJ (u : List An) : List ByteArray:=((Rt u).filter fun s=>decide (stf u s.Id = 1)).map (·.Id)
theorem DH (l : List An) (hl : l.length ≤ 1000) (t : Int) : Ja l t = some (CJ (upS l t)):=by
 have hu:=Zf l t
 have hf:=Tr (upS l t)
 unfold Ja
 rw [DD l (by omega),Option.bind_some,Gs,EJ (fun s : An=>decide (stf (upS l t) s.Id = 1)) (·.Id) (fun x=>some x) (Hf l t fun x=>some x) (fun _ _=>rfl) (Rt (upS l t)) (by omega) (fun _ _ _ _=>by
  rw [Hf]
  simp only [Gs,CH l (by omega),Option.bind_some,Xh])]
 rfl
theorem FA {u : List An} {sw : List Cl} (h : Fol u sw) : (sw.filter fun y=>!y.sure_ && !y.void_).map (fun y=>y.s_.Id) = CJ u:=by
 unfold CJ
 rw [← h.steps,List.filter_map,List.map_map]
 have key : ∀ l : List Cl,(∀ y ∈ l,DE y = stf u y.s_.Id) → (l.filter fun y=>!y.sure_ && !y.void_).map (fun y=>y.s_.Id) = (l.filter ((fun s : An=>decide (stf u s.Id = 1)) ∘ fun y=>y.s_)).map ((fun s : An=>s.Id) ∘ fun y=>y.s_):=by
  intro l
  induction l with
  | nil=>intro _; rfl
  | cons y l ih =>
   intro hm
   have ih:=ih fun z hz=>hm z (List.mem_cons_of_mem _ hz)
   have hy:=hm y List.mem_cons_self
   have h1 : ((fun s : An=>decide (stf u s.Id = 1)) ∘ fun y : Cl=>y.s_) y = (!y.sure_ && !y.void_):=by
    show decide (stf u y.s_.Id = 1) = _
    rw [← hy]; unfold DE
    cases y.void_ <;> cases y.sure_ <;> rfl
   simp only [List.filter_cons,h1]
   cases hc : (!y.sure_ && !y.void_) with
   | false=>simpa using ih
   | true=>simp only [if_true,List.map_cons,ih]; rfl
 exact key sw h.marks
theorem open_is (l : List An) (t : Int) {e : Int} (he : Ec l = some e) : ∃ S,Nq l t = some (S,Du [e,Dd t]) ∧ (Du [e,Dd t] ≠ 0 → S = []) ∧ (Du [e,Dd t] = 0 → Ja l t = some S):=by
 obtain ⟨e',h1,_,h3⟩:=Rq l
 have hee : e' = e:=by rw [he] at h1; exact (Option.some.inj h1).symm
 subst hee
 unfold Nq
 rw [he,Option.bind_some,CB]
 simp only [Yj,AL]
 by_cases h2 : e' = 0
 ·subst h2
  obtain ⟨hl,hg,ha⟩:=h3 rfl
  simp only [ne_eq,not_true_eq_false,if_false,decide_true,Bool.not_true,Bool.false_eq_true]
  unfold Dd Om
  cases hm : Ht t with
  | false=>exact ⟨[],by simp,fun _=>rfl,fun h=>by simp at h⟩
  | true =>
   obtain ⟨sw,e1,e2⟩:=Yi l hl hg ha t
   have hu:=Zf l t
   have hsw : sw.length ≤ 1000:=by
    have h4:=congrArg List.length e2.steps
    have h5:=Tr (upS l t)
    simp only [List.length_map] at h4
    omega
   refine ⟨CJ (upS l t),?_,fun h=>by simp at h,fun _=>DH l hl t⟩
   simp only [Bool.not_true,Bool.false_eq_true,if_false,e1,Option.bind_some,Gs]
   rw [EJ (fun y : Cl=>!y.sure_ && !y.void_) (fun y=>y.s_.Id) (fun x1=>some (x1,(0 : Int))) (Jo fun x1=>some (x1,0)) (fun _ _=>rfl) sw (by omega) (fun _ _ _ _=>rfl),FA e2]
   simp
 ·refine ⟨[],?_,fun _=>rfl,fun h=>?_⟩
  ·rw [if_pos (by simp [h2]),if_pos h2]
  ·rw [if_pos h2] at h
   exact absurd h h2
theorem DI (a b : List An) (la : a.length ≤ 19) (lb : b.length ≤ 19) {e1 e2 : Int} (h1 : Ec a = some e1) (h2 : Ec b = some e2) : ∃ m f,Jn a b = some (m,f) ∧ (Du [e1,e2] = 0 → Hx a b = some (m,f)) ∧ (Du [e1,e2] ≠ 0 → m = [] ∧ f = Du [e1,e2]):=by
 simp only [Yj,AL]
 by_cases c1 : e1 = 0
 ·by_cases c2 : e2 = 0
  ·subst c1 c2
   obtain ⟨m,f,h3,h4⟩:=EZ h1 h2 la lb
   exact ⟨m,f,h3,fun _=>h4,fun h=>by simp at h⟩
  ·subst c1
   refine ⟨[],e2,?_,fun h=>?_,fun _=>⟨rfl,by simp [c2]⟩⟩
   ·unfold Jn
    rw [h1,Option.bind_some,if_neg (by simp),h2,Option.bind_some,if_pos (by simp [c2])]
   ·simp [c2] at h
 ·refine ⟨[],e1,?_,fun h=>?_,fun _=>⟨rfl,by simp [c1]⟩⟩
  ·unfold Jn
   rw [h1,Option.bind_some,if_pos (by simp [c1])]
  ·simp [c1] at h
theorem join_m {R : Type} {a b : List An} {m : List An} {f e : Int} (h1 : e = 0 → Hx a b = some (m,f)) (h2 : e ≠ 0 → m = [] ∧ f = e) (G : Int → List An → Option R) :
  Es G (fun j4=>if decide (e = 0) then Option.bind (Hx a b) (fun r16=>j4 r16.2 r16.1) else j4 e ([] : List An)) = G f m:=by
 rw [Gs]
 by_cases h : e = 0
 ·rw [if_pos (decide_eq_true h),h1 h]; rfl
 ·obtain ⟨rfl,rfl⟩:=h2 h
  rw [if_neg (by simpa using h)]
theorem join_r {R : Type} {a : List An} {m : List Int} {e : Int} (h1 : e = 0 → Gv a = some m) (h2 : e ≠ 0 → m = []) (G : List Int → Option R) :
  Es G (fun j5=>if decide (e = 0) then Option.bind (Gv a) (fun r17=>j5 r17) else j5 ([] : List Int)) = G m:=by
 rw [Gs]
 by_cases h : e = 0
 ·rw [if_pos (decide_eq_true h),h1 h]; rfl
 ·rw [h2 h,if_neg (by simpa using h)]
theorem join_o {R : Type} {a : List An} {t : Int} {m : List ByteArray} {e : Int} (h1 : e = 0 → Ja a t = some m) (h2 : e ≠ 0 → m = []) (G : List ByteArray → Option R) :
  Es G (fun j6=>if decide (e = 0) then Option.bind (Ja a t) (fun r18=>j6 r18) else j6 ([] : List ByteArray)) = G m:=by
 rw [Gs]
 by_cases h : e = 0
 ·rw [if_pos (decide_eq_true h),h1 h]; rfl
 ·rw [h2 h,if_neg (by simpa using h)]
theorem AO (a : List An) {e : Int} (h : Ec a = some e) : ∃ R,Jx a = some (R,e) ∧ (e = 0 → Gv a = some R) ∧ (e ≠ 0 → R = []):=by
 by_cases h0 : e = 0
 ·subst h0
  exact ⟨Uj a,BJ h,fun _=>Vv a (Qu h).1,fun h=>absurd rfl h⟩
 ·refine ⟨[],?_,fun h=>absurd h h0,fun _=>rfl⟩
  unfold Jx
  rw [h,Option.bind_some,if_pos (by simp [h0])]
theorem asked (k : List Ef) (a x3 : List An) (t : Int) (la : a.length ≤ 19) (lb : x3.length ≤ 19) : (Option.bind (Jn a x3) (fun r11 =>
 Option.bind (Jx a) (fun r12 =>
 Option.bind (Nq a t) (fun r13 =>
 Option.bind (Hy a) (fun r14 =>
 Option.bind (Hy x3) (fun r15 =>
 Es (fun (x5 : Int) (x6 : List An) =>
 Es (fun (x7 : List Int) =>
 Es (fun (x8 : List ByteArray) =>
 Option.bind (Jp k) (fun r19 =>
 Option.bind (Js k) (fun r20 =>
 Es (fun (c1 : Bool) =>
 Es (fun (c2 : Bool) =>
 Es (fun (c3 : Bool) =>
 Es (fun (c4 : Bool) =>
 Es (fun (c5 : Bool) =>
 some c5) (fun j11 =>
 if c4 then Option.bind (La) (fun r25 =>
 j11 (c4 && r25)) else j11 (c4 && true))) (fun j10 =>
 if (c3 && (decide (r13.2 = (Du [r14,(Dd t)])))) then Option.bind (Ir r13.1 x8) (fun r24 =>
 j10 ((c3 && (decide (r13.2 = (Du [r14,(Dd t)])))) && r24)) else j10 ((c3 && (decide (r13.2 = (Du [r14,(Dd t)])))) && true))) (fun j9 =>
 if (c2 && (decide (r12.2 = r14))) then Option.bind (Km r12.1 x7) (fun r23 =>
 j9 ((c2 && (decide (r12.2 = r14))) && r23)) else j9 ((c2 && (decide (r12.2 = r14))) && true))) (fun j8 =>
 if (c1 && (decide (r11.2 = x5))) then Option.bind (Kc r11.1 x6) (fun r22 =>
 j8 ((c1 && (decide (r11.2 = x5))) && r22)) else j8 ((c1 && (decide (r11.2 = x5))) && true))) (fun j7 =>
 if (decide (r19 = r20)) then Option.bind (Ec a) (fun r21 =>
 j7 ((decide (r19 = r20)) && (decide (r21 = r14)))) else j7 ((decide (r19 = r20)) && true))))) (fun j6 =>
 if decide ((Du [r14,(Dd t)]) = 0) then
 Option.bind (Ja a t) (fun r18 =>
 j6 r18)
 else
 j6 ([] : List ByteArray))) (fun j5 =>
 if decide (r14 = 0) then
 Option.bind (Gv a) (fun r17 =>
 j5 r17)
 else
 j5 ([] : List Int))) (fun j4 =>
 if decide ((Du [r14,r15]) = 0) then
 Option.bind (Hx a x3) (fun r16 =>
 j4 r16.2 r16.1)
 else
 j4 (Du [r14,r15]) ([] : List An)))))))) = some true:=by
 obtain ⟨e1,a1,a2,_⟩:=Rq a
 obtain ⟨e2,b1,b2,_⟩:=Rq x3
 obtain ⟨e3,k1,k2,_⟩:=BG k
 obtain ⟨m,f,m1,m2,m3⟩:=DI a x3 la lb a1 b1
 obtain ⟨R,r1,r2,r3⟩:=AO a a1
 obtain ⟨S,o1,o2,o3⟩:=open_is a t a1
 rw [m1]; simp only [Option.bind_some]
 rw [r1]; simp only [Option.bind_some]
 rw [o1]; simp only [Option.bind_some]
 rw [a2]; simp only [Option.bind_some]
 rw [b2]; simp only [Option.bind_some]
 rw [join_m m2 m3,join_r r2 r3,join_o o3 o2,k1]; simp only [Option.bind_some]
 rw [k2]; simp only [Option.bind_some,Gs,decide_true,if_true]
 rw [a1]; simp only [Option.bind_some,decide_true,Bool.and_self,if_true,eqStepF,eqIntF,eqStrF,DF]
theorem plain_StepsFollowed (l : List Int) (hl : l.length ≤ 9223372036854775807) : Ki l = some true:=by
 have hL : Xy l:=by unfold Xy; omega
 obtain ⟨k,a1,e1,p1,q1,hk⟩:=EL hL (a:=0) (by omega) (by omega)
 obtain ⟨n,a2,e2,p2,q2,n0,n1⟩:=Zz hL (a:=a1) (by omega) (by omega) 0 14 (by omega) (by omega) (by omega)
 obtain ⟨a,a3,e3,p3,q3,ha⟩:=AF hL n (by omega) (by omega) (a:=a2) (by omega) (by omega)
 obtain ⟨n',a4,e4,p4,q4,n2,n3⟩:=Zz hL (a:=a3) (by omega) (by omega) 0 6 (by omega) (by omega) (by omega)
 obtain ⟨b,a5,e5,p5,q5,hb⟩:=AF hL n' (by omega) (by omega) (a:=a4) (by omega) (by omega)
 obtain ⟨t,a6,e6,p6,q6,_⟩:=Rl hL (a:=a5) (by omega) (by omega) [0,3,10,60,(-1)] (by simp) (by simp)
 unfold Ki
 rw [e1]; simp only [Option.bind_some]
 rw [e2]; simp only [Option.bind_some]
 rw [e3]; simp only [Option.bind_some]
 rw [e4]; simp only [Option.bind_some]
 rw [e5]; simp only [Option.bind_some]
 rw [e6]; simp only [Option.bind_some]
 have fin:=fun x3 h=>asked k a x3 t (by omega) h
 simp only [Gs] at fin ⊢
 by_cases h0 : 0 < (a.length : Int)
 ·rw [if_pos (decide_eq_true h0)]
  obtain ⟨fl,a7,e7,p7,q7,_⟩:=Ro hL (a:=a6) (by omega) (by omega) 2 (by omega)
  rw [e7]; simp only [Option.bind_some]
  cases fl with
  | false=>rw [if_neg (by simp)]; exact fin b (by omega)
  | true =>
   obtain ⟨i,a8,e8,p8,q8,i0,i1⟩:=Za hL (a:=a7) (by omega) (by omega) (a.length : Int) (by omega)
   obtain ⟨fl2,a9,e9,p9,q9,_⟩:=Ro hL (a:=a8) (by omega) (by omega) 4 (by omega)
   have hc : (cut a i (a.length : Int)).length = a.length - i.toNat:=by simp [cut]
   have hcl : Ib (cut a i (a.length : Int)) = some (cut a i (a.length : Int)):=by
    unfold Ib
    rw [Ho (by rw [hc]; simp; omega)]
    rfl
   rw [if_pos rfl,e8]; simp only [Option.bind_some]
   rw [Ho (Ko.2 (by omega)),hcl]; simp only [Option.bind_some]
   rw [e9]; simp only [Option.bind_some]
   cases fl2 with
   | false=>rw [if_neg (by simp)]; exact fin _ (by rw [hc]; omega)
   | true =>
    rw [if_pos rfl,Ho (Fh.2 (by rw [hc]; omega)),Ho (Fh.2 (by rw [hc]; omega))]
    exact fin _ (by rw [List.length_set,hc]; omega)
 ·rw [if_neg (by simpa using h0),if_neg (by simp)]
  exact fin b (by omega)
end Go.Proofs.YtgfjjiheamdgbaaGreatDoor
