/- slices.Grow of nothing: an own row without elements. No statement of the seat is proved here. -/
import Derived.Test.YtgfjjiheamdgbaaGreatDoorMore
import Derived.Test.YtgfjjiheamdgbaaGreatDoorLay
namespace Go.Proofs.YtgfjjiheamdgbaaGreatDoor
open Go Go.Shelf
theorem EE {P : Program} {ρ : Ren} (L : Lays8.n4 P ρ) {α : Type} {enc : α → List Value} {T k by_ : Nat} (hT : SlT P T (ρ.t 25) k by_) (hk : Nat.blt 0 k = true) (hb : Nat.ble by_ 65536 = true) {n : Int} (h0 : 0 ≤ n) (h1 : n < 1073741824) (w : World) :
  Calls P (ρ.f 4) #[.slice none 0 0,.int .i64 n] w (Ret w [] fun τ v _=>Le τ (ρ.t 25) k v ([] : List α).length (([] : List α).flatMap enc)):=by
 obtain ⟨_,_,i0,z,hi,hz,hs,hby,hzs⟩:=hT
 obtain ⟨m,rfl⟩:=Int.eq_ofNat_of_zero_le h0
 have hk' : 0 < k:=by simpa using hk
 have hb' : by_ ≤ 65536:=by simpa using hb
 by_cases hm : m = 0
 ·subst hm
  refine (Any8.slices_Grow_room L none 0 0 0 w (Nat.le_refl _) (by omega) (by omega) (Nat.le_refl _)).mono ?_
  rintro e w' ⟨rfl,rfl⟩
  exact ⟨_,rfl,Keep.refl _ _,Jv _ _ _⟩
 ·have hbig : (0 + m) * i0.bytes ≤ 140737488355328:=by
   rw [hby,Nat.zero_add]
   have : m * by_ ≤ 1073741824 * 65536:=Nat.mul_le_mul (by omega) hb'
   omega
  refine (Any8.slices_Grow_grow L i0 z hi hz (by omega) none 0 0 m [] w (Nat.le_refl _) (by omega) hbig (by omega) (by simp) (fun _=>rfl) (fun a h=>by cases h)).mono ?_
  rintro e w' ⟨rfl,rfl⟩
  have hcap:=grownCap_le_maxLen w (0 + m) 0 (ρ.t 25) (by simp [maxLen]; omega)
  have hge:=grownCap_ge w (0 + m) 0 (ρ.t 25)
  refine ⟨_,rfl,?_,⟨by simp,.inr ⟨w.heap.size,grownCap w (0 + m) 0 (ρ.t 25),(([] : List Value).toArray ++ Builtin.zeroCells z.cells (0 + m - 0) ++ Builtin.zeroCells z.cells (grownCap w (0 + m) 0 (ρ.t 25) - (0 + m))),rfl,?_,Nat.zero_le _,hcap,?_,by simp⟩⟩⟩
  ·refine ⟨rfl,rfl,rfl,?_,fun b hb' _=>?_⟩
   ·show w.heap.size ≤ (w.heap.push _).size
    rw [Array.size_push]; omega
   ·show (w.heap.push _)[b]? = w.heap[b]?
    rw [Array.getElem?_push,if_neg (by omega)]
  ·unfold newer
   rw [if_pos (Nat.le_refl _)]
   exact heap_alloc_new w.drew _
  ·simp only [Array.size_append,List.size_toArray,List.length_nil,size_zeroCells,hzs]
   rw [Nat.zero_add,← Nat.add_mul]
   congr 1
   omega
end Go.Proofs.YtgfjjiheamdgbaaGreatDoor
