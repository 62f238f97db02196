/- What the meet does at a given input. No program stands here but its twins. -/
import Derived.Test.YtpfommakhgkmeaaGreatDoorPMeet
namespace Go.Proofs.YtpfommakhgkmeaaGreatDoor
open Go
theorem met_ok : tumblaw2_met = some true := by
  have h1 : meet_CheckPlan (GPlan.mk [GRace.mk k_r 50 1 50 1 0 0 0] (GTable.mk [] 1 0) (GFinal.mk 1 1 0)) = some 0 := by decide +kernel
  have h2 : meet_CheckDeeds [GDeed.mk k_s 1 0 1 k_a k_empty k_r 5 0 k_empty 0] = some 0 := by decide +kernel
  have h3 : factsD [GDeed.mk k_s 1 0 1 k_a k_empty k_r 5 0 k_empty 0] 0 = [GDeed.mk k_s 1 0 1 k_a k_empty k_r 5 0 k_empty 0] := by decide +kernel
  have h4 : entL k_r [GDeed.mk k_s 1 0 1 k_a k_empty k_r 5 0 k_empty 0] = [GDeed.mk k_s 1 0 1 k_a k_empty k_r 5 0 k_empty 0] := by decide +kernel
  have h5 := entered_is (GPlan.mk [GRace.mk k_r 50 1 50 1 0 0 0] (GTable.mk [] 1 0) (GFinal.mk 1 1 0)) [GDeed.mk k_s 1 0 1 k_a k_empty k_r 5 0 k_empty 0] k_r (by decide +kernel)
  rw [h4] at h5
  have h6 := stateAt_is (GPlan.mk [GRace.mk k_r 50 1 50 1 0 0 0] (GTable.mk [] 1 0) (GFinal.mk 1 1 0)) [GDeed.mk k_s 1 0 1 k_a k_empty k_r 5 0 k_empty 0] 0 (by simp)
  rw [h3] at h6
  have h7 : slices_IndexFunc_Race_state_race_c1 [GRace.mk k_r 50 1 50 1 0 0 0] k_r = 0 := by decide +kernel
  have h8 : words_IsMoment 0 = true := by decide
  have h9 : nth [(0 : Int)] (W ((([(0 : Int)].length : Nat) : Int) - 1)) = 0 := by decide +kernel
  unfold tumblaw2_met meet_Entered meet_ask meet_open
  rw [h1]
  simp only [Option.bind_some, joinR]
  rw [if_neg (by simp), h2]
  simp only [Option.bind_some]
  rw [if_neg (by simp), meet_open_l1, if_neg (by rw [h8]; simp), meet_open_l1, chk_pos (by decide +kernel), h9, h6]
  simp only [Option.bind_some]
  unfold state_race
  rw [if_neg (by simp), if_neg (by rw [h7]; simp), h5]
  simp only [Option.bind_some]
  rw [if_neg (by simp), chk_pos (by rw [h7]; decide +kernel)]
  simp only [Option.bind_some]
  rw [if_neg (by simp)]
  unfold state_seeds
  rw [h5]
  simp only [Option.bind_some, joinR]
  rw [state_seeds_l1, chk_pos (by decide), state_seeds_l1]
  rfl
end Go.Proofs.YtpfommakhgkmeaaGreatDoor
