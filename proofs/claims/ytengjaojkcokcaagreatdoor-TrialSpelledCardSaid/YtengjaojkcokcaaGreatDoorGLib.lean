/- strings.Count at one byte, and strings.Join, in the form in which the printed texts take them. -/
import Derived.Test.YtengjaojkcokcaaGreatDoorTA
import Derived.Test.YtengjaojkcokcaaGreatDoorGShelf
namespace Go.Proofs.YtengjaojkcokcaaGreatDoor.T
open Go.RowKit Go.Proofs.YtengjaojkcokcaaGreatDoorW.PrintWords Go.Proofs.YtengjaojkcokcaaGreatDoorW.PrintLast Go.Proofs.YtengjaojkcokcaaGreatDoorW.PrintMore

def strings_Count.f (a0 a1 : ByteArray) : Option Int := if a1.data.toList = [98] then some (Lib.countByte a0.data.toList 98) else none
theorem strings_Count.calls (a0 : ByteArray) (a1 : ByteArray) (r : Int) (w : World) (h : strings_Count.f a0 a1 = some r) :
    Calls Tryz.prog 53 #[.string a0, .string a1] w fun e w' => e = .returned (.int .i64 r) ∧ Below w.heap.size w w' := by
  unfold strings_Count.f at h
  by_cases c : a1.data.toList = [98]
  · rw [if_pos c] at h
    obtain rfl := Option.some.inj h
    obtain rfl : a1 = ⟨#[98]⟩ := by
      cases a1 with
      | mk d => simp only at c; congr 1; exact Array.toList_inj.mp c
    exact (Tryz.strings_Count_one a0 98 w).mono fun e w' ⟨he, hw⟩ => ⟨he, by rw [hw]; exact Below.refl _ _⟩
  · rw [if_neg c] at h
    cases h

def strings_Join.f (l : List ByteArray) (sep : ByteArray) : Option ByteArray :=
  if l.length ≤ 1000 ∧ (Lib.join (l.map (·.data.toList)) sep.data.toList).length ≤ 1000000 then some ⟨(Lib.join (l.map (·.data.toList)) sep.data.toList).toArray⟩ else none
theorem strings_Join.calls (A0 : Option Addr) (c0 : Nat) (l0 : List ByteArray) (a1 : ByteArray) (r : ByteArray) (w : World) (hr0 : Kd.C Kd.string w A0 l0.length l0) (hc0 : l0.length ≤ c0) (h : strings_Join.f l0 a1 = some r) :
    Calls Tryz.prog 54 #[.slice A0 l0.length c0, .string a1] w fun e w' => e = .returned (.string r) ∧ Below w.heap.size w w' := by
  unfold strings_Join.f at h
  by_cases c : l0.length ≤ 1000 ∧ (Lib.join (l0.map (·.data.toList)) a1.data.toList).length ≤ 1000000
  · rw [if_pos c] at h
    obtain rfl := Option.some.inj h
    cases l0 with
    | nil => exact (Tryz.strings_Join_none A0 c0 a1 w).mono fun e w' ⟨he, hw⟩ => ⟨he, by rw [hw]; exact Below.refl _ _⟩
    | cons x xs =>
      obtain ⟨ad, ea, hx⟩ := Kd.at_string hr0 0 (by omega) (by simp)
      subst ea
      have hspot : ad.spot = none := by
        have : w.cell? ad = some (.string (rdOf ByteArray.empty (x :: xs) 0)) := by simpa [Addr.add] using hx
        unfold World.cell? at this
        cases hs : ad.spot with
        | none => rfl
        | some q => rw [hs] at this; simp at this; split at this <;> cases this
      obtain ⟨bk, o, sp⟩ := ad
      simp only at hspot
      subst hspot
      have hcells : ∀ (j : Nat) y, (x :: xs)[j]? = some y → w.cell? ⟨bk, o + j, none⟩ = some (.string y) := by
        intro j y hj
        have hlt : j < (x :: xs).length := (List.getElem?_eq_some_iff.mp hj).1
        obtain ⟨ad', e', hx'⟩ := Kd.at_string hr0 (j : Int) (by omega) (by omega)
        injection e' with e'
        subst e'
        have hy : rdOf ByteArray.empty (x :: xs) (j : Int) = y := by
          unfold rdOf
          rw [Int.toNat_natCast, List.getD_eq_getElem?_getD, hj]; rfl
        rw [hy, Int.toNat_natCast] at hx'
        have ha : (⟨bk, o, none⟩ : Addr).add j = ⟨bk, o + j, none⟩ := by
          unfold Addr.add
          by_cases hj0 : j = 0
          · subst hj0; simp
          · rw [if_neg hj0]
        rw [ha] at hx'
        exact hx'
      refine (Tryz.strings_Join bk o c0 (x :: xs) a1 w hcells ?_ (by have := c.1; omega) hc0 (by have := c.2; omega)).mono fun e w' h => h
      have := World.block_lt_of_cell? w _ hx
      simpa [Addr.add] using this
  · rw [if_neg c] at h
    cases h
end Go.Proofs.YtengjaojkcokcaaGreatDoor.T
