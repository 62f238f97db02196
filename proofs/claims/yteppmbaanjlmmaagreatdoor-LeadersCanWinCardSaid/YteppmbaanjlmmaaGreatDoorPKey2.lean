/- Keys, the two readings joined. No program stands here but its twins. -/
import Derived.Test.YteppmbaanjlmmaaGreatDoorPKey
namespace Go.Proofs.YteppmbaanjlmmaaGreatDoor
open Go

theorem ascii_key : (k_abcdefghijkl_h0e2e2c.data.toList.all fun b => decide (b.toNat < 128)) = true := by decide +kernel
theorem empty_iff (l : List UInt8) : ((⟨l.toArray⟩ : ByteArray) = k_empty) ↔ l = [] := by
  constructor
  · intro h
    have h2 := congrArg (fun b : ByteArray => b.data.toList) h
    simpa [k_empty] using h2
  · rintro rfl; rfl
end Go.Proofs.YteppmbaanjlmmaaGreatDoor
