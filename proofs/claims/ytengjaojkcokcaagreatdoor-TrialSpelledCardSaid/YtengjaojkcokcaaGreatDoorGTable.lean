/- What the law computes of a list of words, and the table of all lists of at most six words whose indices ascend, none the beginning of its follower: each passes. -/
import Derived.Test.YtengjaojkcokcaaGreatDoorGPlan
import Derived.Test.YtengjaojkcokcaaGreatDoorGSort
import Derived.Test.YtengjaojkcokcaaGreatDoorT6
namespace Go.Proofs.YtengjaojkcokcaaGreatDoor.T
open Go.RowKit Go.Proofs.YtengjaojkcokcaaGreatDoorW.PrintWords Go.Proofs.YtengjaojkcokcaaGreatDoorW.PrintLast Go.Proofs.YtengjaojkcokcaaGreatDoorW.PrintMore

def law_o : Nat → List ByteArray → Int → Int → Option Int
  | 0, _, _, _ => none
  | k + 1, l, i, c =>
    if i < (l.length : Int) then
      if c = 0 then
        if 0 ≤ wrap64 (i - 1) then if wrap64 (i - 1) < (l.length : Int) then if 0 ≤ i then
          if geB (rdOf ByteArray.empty l (wrap64 (i - 1))) (rdOf ByteArray.empty l i) = true then law_o k l (wrap64 (i + 1)) 7 else law_o k l (wrap64 (i + 1)) c
        else none else none else none
      else law_o k l (wrap64 (i + 1)) c
    else some c
def law_q : Nat → List ByteArray → Int → Int → Int → Option Int
  | 0, _, _, _, _ => none
  | k + 1, l, i, j, c =>
    if j < (l.length : Int) then if 0 ≤ j then
      if c = 0 then
        if i = j then law_q k l i (wrap64 (j + 1)) c else
          (strings_HasPrefix.f (rdOf ByteArray.empty l i) (rdOf ByteArray.empty l j)).bind fun b => if b = true then law_q k l i (wrap64 (j + 1)) 13 else law_q k l i (wrap64 (j + 1)) c
      else law_q k l i (wrap64 (j + 1)) c
    else none else some c
def law_p : Nat → List ByteArray → Int → Int → Option Int
  | 0, _, _, _ => none
  | k + 1, l, i, c =>
    if i < (l.length : Int) then if 0 ≤ i then (law_q 100 l i 0 c).bind fun c' => law_p k l (wrap64 (i + 1)) c' else none else some c
def shr8 (n : Nat) : Int := (8 : Int).fdiv (2 ^ (min n 64))
def law_s : Nat → List ByteArray → Int → Int → Option Int
  | 0, _, _, _ => none
  | k + 1, l, i, s =>
    if i < (l.length : Int) then if 0 ≤ i then law_s k l (wrap64 (i + 1)) (wrap64 (s + shr8 (rdOf ByteArray.empty l i).size)) else none else some s
def law_f (l : List ByteArray) : Option Int :=
  (law_o 100 l 1 (if l.length = 0 then 4 else 0)).bind fun c => (law_p 100 l 0 c).bind fun c => (law_s 100 l 0 0).bind fun s => some (if c = 0 ∧ s < 8 then 21 else c)

/-- The fifteen words. -/
def U : List ByteArray := [⟨#[]⟩, ⟨#[98]⟩, ⟨#[98, 98]⟩, ⟨#[98, 98, 98]⟩, ⟨#[98, 98, 115]⟩, ⟨#[98, 115]⟩, ⟨#[98, 115, 98]⟩, ⟨#[98, 115, 115]⟩, ⟨#[115]⟩, ⟨#[115, 98]⟩, ⟨#[115, 98, 98]⟩, ⟨#[115, 98, 115]⟩, ⟨#[115, 115]⟩, ⟨#[115, 115, 98]⟩, ⟨#[115, 115, 115]⟩]
def u (i : Nat) : ByteArray := U.getD i ⟨#[]⟩
def check (l : List ByteArray) : Bool :=
  match law_f l, trial_Plan.f l with
  | some want, some (p, e) => e == want && (if want = 0 then (p.length + 1 == l.length) && (match trial_Words.f 100 p with | some (b, e1) => e1 == 0 && decide (b = l) | none => false) && (novaculitelaw04_equal.f 100 l l == some true) else p.isEmpty)
  | _, _ => false
def hpB (a b : ByteArray) : Bool := decide (b.size ≤ a.size) && ((a.extract 0 b.size).toList == b.toList)
/-- Every list of words whose indices ascend, none the beginning of its follower, passes. -/
def allUp : Nat → Nat → Option ByteArray → List ByteArray → Bool
  | 0, _, _, _ => true
  | f + 1, lo, last, acc => (List.range 15).all fun i => decide (i < lo) || ((match last with | some x => hpB (u i) x | none => false) || (check (acc ++ [u i]) && allUp f (i + 1) (some (u i)) (acc ++ [u i])))

theorem up_0 : (check ([] ++ [u 0]) && allUp 5 1 (some (u 0)) ([] ++ [u 0])) = true := by kernel_rfl
theorem up_1 : (check ([] ++ [u 1]) && allUp 5 2 (some (u 1)) ([] ++ [u 1])) = true := by kernel_rfl
theorem up_2 : (check ([] ++ [u 2]) && allUp 5 3 (some (u 2)) ([] ++ [u 2])) = true := by kernel_rfl
theorem up_3 : (check ([] ++ [u 3]) && allUp 5 4 (some (u 3)) ([] ++ [u 3])) = true := by kernel_rfl
theorem up_4 : (check ([] ++ [u 4]) && allUp 5 5 (some (u 4)) ([] ++ [u 4])) = true := by kernel_rfl
theorem up_5 : (check ([] ++ [u 5]) && allUp 5 6 (some (u 5)) ([] ++ [u 5])) = true := by kernel_rfl
theorem up_6 : (check ([] ++ [u 6]) && allUp 5 7 (some (u 6)) ([] ++ [u 6])) = true := by kernel_rfl
theorem up_7 : (check ([] ++ [u 7]) && allUp 5 8 (some (u 7)) ([] ++ [u 7])) = true := by kernel_rfl
theorem up_8 : (check ([] ++ [u 8]) && allUp 5 9 (some (u 8)) ([] ++ [u 8])) = true := by kernel_rfl
theorem up_9 : (check ([] ++ [u 9]) && allUp 5 10 (some (u 9)) ([] ++ [u 9])) = true := by kernel_rfl
theorem up_10 : (check ([] ++ [u 10]) && allUp 5 11 (some (u 10)) ([] ++ [u 10])) = true := by kernel_rfl
theorem up_11 : (check ([] ++ [u 11]) && allUp 5 12 (some (u 11)) ([] ++ [u 11])) = true := by kernel_rfl
theorem up_12 : (check ([] ++ [u 12]) && allUp 5 13 (some (u 12)) ([] ++ [u 12])) = true := by kernel_rfl
theorem up_13 : (check ([] ++ [u 13]) && allUp 5 14 (some (u 13)) ([] ++ [u 13])) = true := by kernel_rfl
theorem up_14 : (check ([] ++ [u 14]) && allUp 5 15 (some (u 14)) ([] ++ [u 14])) = true := by kernel_rfl
theorem words_good : U.all good = true := by kernel_rfl
theorem ge_table : ((List.range 15).all fun i => (List.range 15).all fun j => geB (u i) (u j) == decide (j ≤ i)) = true := by kernel_rfl
theorem nil_law : law_f [] = some 4 ∧ trial_Plan.f [] = some ([], 4) := ⟨by kernel_rfl, by kernel_rfl⟩
end Go.Proofs.YtengjaojkcokcaaGreatDoor.T
