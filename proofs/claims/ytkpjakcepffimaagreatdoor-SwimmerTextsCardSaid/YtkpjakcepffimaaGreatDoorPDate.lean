/- Days and dates, in plain arithmetic: a date has one number, a number one date, and numbers are ordered as dates are. No program stands here. -/
import Derived.Test.YtkpjakcepffimaaGreatDoorPStream
namespace Go.Proofs.YtkpjakcepffimaaGreatDoor
open Go
def lp (y : Int) : Bool := decide (y % 4 = 0) && (!decide (y % 100 = 0) || decide (y % 400 = 0))
def yl (y : Int) : Int := if lp y then 366 else 365
def jan1 (y : Int) : Int := 365 * (y - 2024) + ((y - 1) / 4 - (y - 1) / 100 + (y - 1) / 400) - 490
theorem yl_pos (y : Int) : 365 ≤ yl y ∧ yl y ≤ 366 := by unfold yl; split <;> omega
theorem jan1_succ (y : Int) : jan1 (y + 1) = jan1 y + yl y := by
  unfold jan1 yl lp
  by_cases h1 : y % 4 = 0 <;> by_cases h2 : y % 100 = 0 <;> by_cases h3 : y % 400 = 0 <;> simp [h1, h2, h3] <;> omega
theorem jan1_mono {a b : Int} (h : a < b) : jan1 a + yl a ≤ jan1 b := by
  rw [← jan1_succ]; unfold jan1; omega
def mlN (l : Bool) (m : Nat) : Nat := if m = 2 then (if l then 29 else 28) else if m = 4 ∨ m = 6 ∨ m = 9 ∨ m = 11 then 30 else 31
def monN (l : Bool) : Nat → Nat
  | 0 => 0
  | 1 => 0
  | m + 2 => monN l (m + 1) + mlN l (m + 1)
def ml (y m : Int) : Int := mlN (lp y) m.toNat
def mon (y m : Int) : Int := monN (lp y) m.toNat
theorem ml_rng (y m : Int) : 28 ≤ ml y m ∧ ml y m ≤ 31 := by
  unfold ml mlN
  split
  · split <;> omega
  · split <;> omega
theorem mon_succ {y m : Int} (h : 1 ≤ m) : mon y (m + 1) = mon y m + ml y m := by
  unfold mon ml
  obtain ⟨k, rfl⟩ : ∃ k : Nat, m = (k : Int) + 1 := ⟨(m - 1).toNat, by omega⟩
  rw [show ((k : Int) + 1 + 1).toNat = k + 2 by omega, show ((k : Int) + 1).toNat = k + 1 by omega, monN]
  omega
theorem mon_one (y : Int) : mon y 1 = 0 := rfl
theorem monN_lt : ∀ (l : Bool) (a b : Fin 13), 1 ≤ a.val → a.val < b.val → monN l a.val + mlN l a.val ≤ monN l b.val := by decide +kernel
theorem monN_year : ∀ (l : Bool) (a : Fin 13), 1 ≤ a.val → monN l a.val + mlN l a.val ≤ if l then 366 else 365 := by decide +kernel
theorem monN_dec (l : Bool) : monN l 12 + mlN l 12 = if l then 366 else 365 := by cases l <;> decide +kernel
theorem mon_lt {y a b : Int} (h1 : 1 ≤ a) (h2 : a < b) (h3 : b ≤ 12) : mon y a + ml y a ≤ mon y b := by
  have := monN_lt (lp y) ⟨a.toNat, by omega⟩ ⟨b.toNat, by omega⟩ (show 1 ≤ a.toNat by omega) (show a.toNat < b.toNat by omega)
  unfold mon ml; simp only at this; omega
theorem mon_year {y a : Int} (h1 : 1 ≤ a) (h3 : a ≤ 12) : mon y a + ml y a ≤ yl y := by
  have := monN_year (lp y) ⟨a.toNat, by omega⟩ (show 1 ≤ a.toNat by omega)
  unfold mon ml yl; simp only at this
  cases hl : lp y <;> rw [hl] at this <;> simp at this ⊢ <;> omega
theorem mon_dec (y : Int) : mon y 12 + ml y 12 = yl y := by
  have := monN_dec (lp y)
  unfold mon ml yl
  rw [show (12 : Int).toNat = 12 from rfl]
  cases hl : lp y <;> rw [hl] at this <;> simp at this ⊢ <;> omega
structure IsD (g : GDate) (n : Int) : Prop where
  m1 : 1 ≤ g.Month
  m12 : g.Month ≤ 12
  d1 : 1 ≤ g.Day
  dl : g.Day ≤ ml g.Year g.Month
  num : jan1 g.Year + mon g.Year g.Month + g.Day - 1 = n
theorem IsD.year {g : GDate} {n : Int} (h : IsD g n) : jan1 g.Year ≤ n ∧ n < jan1 g.Year + yl g.Year := by
  obtain ⟨h1, h2, h3, h4, h5⟩ := h
  have h6 := mon_year (y := g.Year) h1 h2
  have h7 : 0 ≤ mon g.Year g.Month := by unfold mon; omega
  omega
def dLt (a b : GDate) : Prop := a.Year < b.Year ∨ (a.Year = b.Year ∧ (a.Month < b.Month ∨ (a.Month = b.Month ∧ a.Day < b.Day)))
theorem IsD.lt {a b : GDate} {n k : Int} (ha : IsD a n) (hb : IsD b k) (h : dLt a b) : n < k := by
  rcases h with h | ⟨h, h'⟩
  · have h1 := ha.year; have h2 := hb.year; have h3 := jan1_mono h
    omega
  · obtain ⟨y, m, d⟩ := a; obtain ⟨y', m', d'⟩ := b
    simp only at h h'; subst h
    have g1 := ha.num; have g2 := hb.num; have g3 := ha.dl; have g4 := hb.d1
    simp only at g1 g2 g3 g4
    rcases h' with h' | ⟨rfl, h'⟩
    · have := mon_lt (y := y) ha.m1 h' hb.m12
      simp only at this; omega
    · omega
theorem dLt_tri (a b : GDate) : dLt a b ∨ a = b ∨ dLt b a := by
  obtain ⟨y, m, d⟩ := a; obtain ⟨y', m', d'⟩ := b
  unfold dLt; simp only [GDate.mk.injEq]; omega
theorem IsD.uniq {a b : GDate} {n : Int} (ha : IsD a n) (hb : IsD b n) : a = b := by
  rcases dLt_tri a b with h | h | h
  · have := ha.lt hb h; omega
  · exact h
  · have := hb.lt ha h; omega
theorem IsD.dlt {a b : GDate} {n k : Int} (ha : IsD a n) (hb : IsD b k) : dLt a b ↔ n < k := by
  constructor
  · exact ha.lt hb
  · intro h
    rcases dLt_tri a b with h1 | rfl | h1
    · exact h1
    · have := ha.num; have := hb.num; omega
    · have := hb.lt ha h1; omega
def nextD (g : GDate) : GDate :=
  if g.Day < ml g.Year g.Month then ⟨g.Year, g.Month, g.Day + 1⟩ else if g.Month < 12 then ⟨g.Year, g.Month + 1, 1⟩ else ⟨g.Year + 1, 1, 1⟩
theorem IsD.next {g : GDate} {n : Int} (h : IsD g n) : IsD (nextD g) (n + 1) := by
  obtain ⟨y, m, d⟩ := g
  obtain ⟨h1, h2, h3, h4, h5⟩ := h
  simp only at h1 h2 h3 h4 h5
  unfold nextD
  simp only
  split
  · exact ⟨h1, h2, by simp only; omega, by simp only; omega, by simp only; omega⟩
  · split
    · exact ⟨by simp only; omega, by simp only; omega, by simp only; omega, by have := ml_rng y (m + 1); simp only; omega, by simp only; rw [mon_succ h1]; omega⟩
    · have hm : m = 12 := by omega
      subst hm
      refine ⟨by simp only; omega, by simp only; omega, by simp only; omega, by have := ml_rng (y + 1) 1; simp only; omega, ?_⟩
      simp only
      rw [jan1_succ, mon_one, ← mon_dec y]; omega
theorem year_rng {g : GDate} {n : Int} (h : IsD g n) (h1 : -40001 ≤ n) (h2 : n ≤ 4001) : 1914 ≤ g.Year ∧ g.Year ≤ 2034 := by
  have := h.year
  have h3 := yl_pos g.Year
  unfold jan1 at this
  omega
end Go.Proofs.YtkpjakcepffimaaGreatDoor
