/- Keys, the two readings joined. No program stands here but its twins. -/
import Derived.Test.YtlfacnkbjmilpaaDoorPKey
namespace Go.Proofs.YtlfacnkbjmilpaaDoor
open Go

theorem letter_eq (u : UInt8) : k_abcdefghijklmnopqrstuvwxyz.data.toList.contains u = (decide (97 ≤ (u.toNat : Int)) && decide ((u.toNat : Int) ≤ 122)) := by
  have key : ∀ n : Fin 256, k_abcdefghijklmnopqrstuvwxyz.data.toList.contains (UInt8.ofNat n.val) = (decide (97 ≤ (((UInt8.ofNat n.val).toNat : Nat) : Int)) && decide ((((UInt8.ofNat n.val).toNat : Nat) : Int) ≤ 122)) := by decide +kernel
  have h := key ⟨u.toNat, u.toNat_lt⟩
  simpa using h
theorem ascii_key : (k_abcdefghijkl_h0e2e2c.data.toList.all fun b => decide (b.toNat < 128)) = true := by decide +kernel
theorem empty_iff (l : List UInt8) : ((⟨l.toArray⟩ : ByteArray) = k_empty) ↔ l = [] := by
  constructor
  · intro h
    have h2 := congrArg (fun b : ByteArray => b.data.toList) h
    simpa [k_empty] using h2
  · rintro rfl; rfl
end Go.Proofs.YtlfacnkbjmilpaaDoor
