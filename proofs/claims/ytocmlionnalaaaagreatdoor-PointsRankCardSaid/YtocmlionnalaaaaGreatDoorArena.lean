/- Blocks that a call makes in a loop and keeps by their places in a list: an arena. No statement of the seat is proved here. -/
import Derived.Test.YtocmlionnalaaaaGreatDoorDeep
namespace Go.Proofs.YtocmlionnalaaaaGreatDoor
open Go
section
variable {α : Type}
def arena (T : TypeId) (enc : α → List Value) : List Nat → List α → List LEnt
 | b :: bs,x :: xs=>.blk b (enc x) T :: arena T enc bs xs
 | _,_=>[]
end
section
variable {w0 : World} {X : List Nat} {φ : View} {L : List LEnt} {K : List (Nat × Value)} {n : Nat} {a : Act} {w : World}
end
section
variable {P : Program} {w0 : World} {X : List Nat} {φ : View} {L : List LEnt} {K : List (Nat × Value)} {n : Nat} {a : Act} {w : World} {ty : TypeId}
end
section
variable {κ : Type} [DecidableEq κ]
section
variable {α : Type} {key : α → κ} {bs : List Nat} {xs : List α} {k : κ} {o : Option Nat}
end
end
section rows
variable {α : Type} {enc : α → List Value} {T k : Nat}
section
variable {κ : Type} [DecidableEq κ]
end
variable {w0 : World} {X : List Nat} {K : List (Nat × Value)} {n : Nat} {a : Act} {w : World}
end rows
section rzT
variable {κ α : Type}
def rzT : Nat → List (κ × List α) → List Value → List (κ × (Nat × List α × Value))
 | n,e :: xs,v :: vs=>(e.1,(n,e.2,v)) :: rzT (n + 1) xs vs
 | _,_,_=>[]
def EC (q : List (κ × (Nat × List α × Value))) (vs : List Value) (xss : List (List α)) : Prop:=(q.map (·.2.1)).Nodup ∧ ∀ e ∈ q,vs[e.2.1]? = some e.2.2.2 ∧ xss[e.2.1]? = some e.2.2.1
theorem EC.step {q q' : List (κ × (Nat × List α × Value))} {y : κ × (Nat × List α × Value)} {vs : List Value} {xss : List (List α)} (h : EC q vs xss) (hp : q.Perm (y :: q')) (u : Value) (zs : List α) :
  vs[y.2.1]? = some y.2.2.2 ∧ xss[y.2.1]? = some y.2.2.1 ∧ EC q' (vs.set y.2.1 u) (xss.set y.2.1 zs):=by
 obtain ⟨h1,h2⟩:=h
 have h3:=(hp.map (fun e : κ × (Nat × List α × Value)=>e.2.1)).nodup_iff.1 h1
 rw [List.map_cons,List.nodup_cons] at h3
 have hy:=h2 y (hp.mem_iff.2 (List.mem_cons_self ..))
 refine ⟨hy.1,hy.2,h3.2,fun e he=>?_⟩
 have h4 : y.2.1 ≠ e.2.1:=fun h5=>h3.1 (by rw [h5]; exact List.mem_map_of_mem he)
 have h6:=h2 e (hp.mem_iff.2 (List.mem_cons_of_mem _ he))
 rw [List.getElem?_set_ne h4,List.getElem?_set_ne h4]
 exact h6
end rzT
section
variable {P : Program} {w0 : World} {X : List Nat} {φ : View} {L : List LEnt} {K : List (Nat × Value)} {n : Nat} {a : Act} {w : World}
end
def ED (P : Program) (T n : Nat) : Prop:=∃ el,P.underlying T = some (.array n el) ∧ ∀ w,(sizeOf el).run P w = .ok 1 w
section
variable {P : Program} {a : Act} {w : World} {ty : TypeId}
theorem Qd {T n b off i : Nat} {x y : Operand} {kk : IntKind} (h : ED P T n) (hx : a.eval x = .pointer (some ⟨b,off,none⟩)) (hy : a.eval y = .int kk (i : Int)) (hi : Nat.blt i n = true) : Rn P a w (.indexAddr T x y) ty (.pointer (some ⟨b,off + i,none⟩)):=by
 obtain ⟨el,h1,h2⟩:=h
 intro dd p e g
 have hlt : i < n:=by simpa using hi
 simp [execOp,hx,hy,Instr.indexAt,asIntOf,run_underlying h1,Instr.sureAddr,hlt,h2,Lx]
theorem AS {T n b off : Nat} {x y : Operand} {kk : IntKind} {z : Int} (h : ED P T n) (hx : a.eval x = .pointer (some ⟨b,off,none⟩)) (hy : a.eval y = .int kk z) (hc : inB z n = true) : Rn P a w (.indexAddr T x y) ty (.pointer (some ⟨b,off + z.toNat,none⟩)):=by
 obtain ⟨c1,c2⟩:=Ge.1 hc
 obtain ⟨j,rfl⟩:=Int.eq_ofNat_of_zero_le c1
 exact Qd h hx hy (by simp; omega)
theorem EE {T n b o c : Nat} {x y : Operand} {kk : IntKind} {z : Int} (h : ED P T n) (hx : a.eval x = .pointer (some ⟨b,o + c,none⟩)) (hy : a.eval y = .int kk z) (hc : inB z n = true) : Rn P a w (.indexAddr T x y) ty (.pointer (some ⟨b,o + (c + z.toNat),none⟩)):=by
 rw [← Nat.add_assoc]
 exact AS h hx hy hc
theorem Uv {T n b : Nat} {x : Operand} (h : ED P T n) (hx : a.eval x = .pointer (some ⟨b,0,none⟩)) (hn : Nat.blt 0 n = true) : Rn P a w (.slice T x none none none) ty (.slice (some ⟨b,0,none⟩) n n):=by
 obtain ⟨el,h1,h2⟩:=h
 intro dd p e g
 have hlt : 0 < n:=by simpa using hn
 have h0 : ¬ n = 0:=by omega
 simp [execOp,hx,Instr.sliceAt,Instr.sliceBounds,run_underlying h1,Instr.sureAddr,h2,Lx,h0]
theorem rn_ldV {T : TypeId} {x : Operand} {b p o : Nat} {cs : List Value} {v : Value} (hT : ∀ w,(isAgg T).run P w = .ok false w) (hx : a.eval x = .pointer (some ⟨b,p,none⟩)) (hp : p = 0 + o) (hc : Lp w b 0 cs) (hv : cs[o]? = some v) :
  Rn P a w (.load T x) ty v:=by
 subst hp
 exact Gy hT hx hc hv
end
theorem in3 {z : Int} (hc : inB z 3 = true) : z = 0 ∨ z = 1 ∨ z = 2:=by
 have:=Ge.1 hc
 omega
theorem get3 {pre post : List Value} {a0 a1 a2 z : Int} (hc : inB z 3 = true) : (pre ++ iV a0 :: iV a1 :: iV a2 :: post)[pre.length + z.toNat]? = some (iV (nth [a0,a1,a2] z)):=by
 rcases in3 hc with rfl | rfl | rfl <;> simp [nth]
theorem lay3 {pre post : List Value} {a0 a1 a2 v z : Int} (hc : inB z 3 = true) : lay (pre ++ iV a0 :: iV a1 :: iV a2 :: post) (pre.length + z.toNat) [iV v] = pre ++ iV (if z = 0 then v else a0) :: iV (if z = 1 then v else a1) :: iV (if z = 2 then v else a2) :: post:=by
 unfold lay
 rcases in3 hc with rfl | rfl | rfl
 ·simp
 ·have e1 : (pre ++ iV a0 :: iV a1 :: iV a2 :: post) = (pre ++ [iV a0]) ++ iV a1 :: iV a2 :: post:=by simp
  have e2 : pre.length + (1 : Int).toNat = (pre ++ [iV a0]).length:=by simp
  rw [e1,e2,List.take_left',List.drop_append]
  ·simp
  ·rfl
 ·have e1 : (pre ++ iV a0 :: iV a1 :: iV a2 :: post) = (pre ++ [iV a0,iV a1]) ++ iV a2 :: post:=by simp
  have e2 : pre.length + (2 : Int).toNat = (pre ++ [iV a0,iV a1]).length:=by simp
  rw [e1,e2,List.take_left',List.drop_append]
  ·simp
  ·rfl
theorem fit3 {pre post : List Value} {a0 a1 a2 : Value} {u : Value} {z : Int} (hc : inB z 3 = true) : Nat.ble (pre.length + z.toNat + [u].length) (pre ++ a0 :: a1 :: a2 :: post).length = true:=by
 have:=Ge.1 hc
 simp
 omega
theorem ble3 {p k : Nat} {z : Int} (h : Nat.ble (p + 3) k = true) (hc : inB z 3 = true) : Nat.ble (p + z.toNat + 1) k = true:=by
 have:=Ge.1 hc
 have h : p + 3 ≤ k:=by simpa using h
 simp
 omega
end Go.Proofs.YtocmlionnalaaaaGreatDoor
