/- The plain law: for every list of at most six words, what Plan answers is what the law wants. No program in sight but the functions that the walks have shown. -/
import Derived.Test.YtengjaojkcokcaaGreatDoorGTable
namespace Go.Proofs.YtengjaojkcokcaaGreatDoor.T
open Go.RowKit Go.Proofs.YtengjaojkcokcaaGreatDoorW.PrintWords Go.Proofs.YtengjaojkcokcaaGreatDoorW.PrintLast Go.Proofs.YtengjaojkcokcaaGreatDoorW.PrintMore

theorem up_all : ∀ i, i < 15 → (check ([] ++ [u i]) && allUp 5 (i + 1) (some (u i)) ([] ++ [u i])) = true
  | 0, _ => up_0 | 1, _ => up_1 | 2, _ => up_2 | 3, _ => up_3 | 4, _ => up_4 | 5, _ => up_5 | 6, _ => up_6 | 7, _ => up_7
  | 8, _ => up_8 | 9, _ => up_9 | 10, _ => up_10 | 11, _ => up_11 | 12, _ => up_12 | 13, _ => up_13 | 14, _ => up_14
  | n + 15, h => absurd h (by omega)
theorem up6 : allUp 6 0 none [] = true := by
  show ((List.range 15).all fun i => decide (i < 0) || (false || (check ([] ++ [u i]) && allUp 5 (i + 1) (some (u i)) ([] ++ [u i])))) = true
  refine List.all_eq_true.mpr fun i hi => ?_
  rw [up_all i (List.mem_range.mp hi)]
  simp

theorem hp_f (a b : ByteArray) : strings_HasPrefix.f a b = some (hpB a b) := by
  unfold strings_HasPrefix.f stringslite_HasPrefix.f hpB
  by_cases h : (a.size : Int) ≥ (b.size : Int)
  · have h1 : b.size ≤ a.size := by omega
    have h2 : (b.size : Int) ≤ (a.size : Int) := h
    rw [if_pos h, if_pos (by omega), if_pos h2]
    simp [h1]
  · have h1 : ¬ b.size ≤ a.size := by omega
    rw [if_neg h]
    simp [h1]

def g (l : List ByteArray) (n : Nat) : ByteArray := l.getD n ByteArray.empty
theorem rd_g (l : List ByteArray) (n : Nat) : rdOf ByteArray.empty l (n : Int) = g l n := by simp [rdOf, g]
theorem rd_g1 (l : List ByteArray) (n : Nat) : rdOf ByteArray.empty (l.drop 1) (n : Int) = g l (n + 1) := by
  simp [rdOf, g]
theorem w_succ (n : Nat) (h : n < 1000) : wrap64 ((n : Int) + 1) = ((n + 1 : Nat) : Int) := by unfold wrap64; omega
theorem w_pred (n : Nat) (h : n < 1000) : wrap64 (((n + 1 : Nat) : Int) - 1) = (n : Int) := by unfold wrap64; omega

theorem ro_true (l : List ByteArray) (hl : l.length ≤ 6) : ∀ k n, l.length < n + k → (∃ m, n ≤ m ∧ m + 1 < l.length ∧ geB (g l m) (g l (m + 1)) = true) → read_o k l (l.drop 1) (n : Int) = some true
  | 0, n, hk, ⟨m, h1, h2, _⟩ => by omega
  | k + 1, n, hk, ⟨m, h1, h2, h3⟩ => by
    have hd : (l.drop 1).length = l.length - 1 := by simp
    unfold read_o
    rw [if_pos (by omega), if_pos (by omega), if_pos (by omega), rd_g, rd_g1]
    by_cases c : geB (g l n) (g l (n + 1)) = true
    · rw [if_pos c]
    · rw [if_neg c, w_succ n (by omega)]
      refine ro_true l hl k (n + 1) (by omega) ⟨m, ?_, h2, h3⟩
      rcases Nat.lt_or_ge n m with h | h
      · exact h
      · obtain rfl : m = n := by omega
        exact absurd h3 c
theorem ro_false (l : List ByteArray) (hl : l.length ≤ 6) (hn : ¬ ∃ m, m + 1 < l.length ∧ geB (g l m) (g l (m + 1)) = true) : ∀ k n, l.length < n + k → n ≤ l.length → read_o k l (l.drop 1) (n : Int) = some false
  | 0, n, hk, hnl => by omega
  | k + 1, n, hk, hnl => by
    have hd : (l.drop 1).length = l.length - 1 := by simp
    unfold read_o
    by_cases c : (n : Int) < ((l.drop 1).length : Int)
    · rw [if_pos c, if_pos (by omega), if_pos (by omega), rd_g, rd_g1, if_neg (fun h => hn ⟨n, by omega, h⟩), w_succ n (by omega)]
      exact ro_false l hl hn k (n + 1) (by omega) (by omega)
    · rw [if_neg c]
theorem rp_true (l : List ByteArray) (hl : l.length ≤ 6) : ∀ k n, l.length < n + k → (∃ m, n ≤ m ∧ m + 1 < l.length ∧ hpB (g l (m + 1)) (g l m) = true) → read_p k l (l.drop 1) (n : Int) = some true
  | 0, n, hk, ⟨m, h1, h2, _⟩ => by omega
  | k + 1, n, hk, ⟨m, h1, h2, h3⟩ => by
    have hd : (l.drop 1).length = l.length - 1 := by simp
    unfold read_p
    rw [if_pos (by omega), if_pos (by omega), if_pos (by omega), rd_g1, rd_g, hp_f, Option.bind_some]
    by_cases c : hpB (g l (n + 1)) (g l n) = true
    · rw [if_pos c]
    · rw [if_neg c, w_succ n (by omega)]
      refine rp_true l hl k (n + 1) (by omega) ⟨m, ?_, h2, h3⟩
      rcases Nat.lt_or_ge n m with h | h
      · exact h
      · obtain rfl : m = n := by omega
        exact absurd h3 c

theorem lo_set (l : List ByteArray) (hl : l.length ≤ 6) (c : Int) (hc : c ≠ 0) : ∀ k n, l.length + 1 < n + k → n ≤ l.length + 1 → law_o k l (n : Int) c = some c
  | 0, n, hk, hn => by omega
  | k + 1, n, hk, hn => by
    unfold law_o
    by_cases d : (n : Int) < (l.length : Int)
    · rw [if_pos d, if_neg hc, w_succ n (by omega)]
      exact lo_set l hl c hc k (n + 1) (by omega) (by omega)
    · rw [if_neg d]
theorem lo_true (l : List ByteArray) (hl : l.length ≤ 6) : ∀ k n, l.length < n + k → (∃ m, n ≤ m ∧ m + 1 < l.length ∧ geB (g l m) (g l (m + 1)) = true) → law_o k l ((n + 1 : Nat) : Int) 0 = some 7
  | 0, n, hk, ⟨m, h1, h2, _⟩ => by omega
  | k + 1, n, hk, ⟨m, h1, h2, h3⟩ => by
    unfold law_o
    rw [if_pos (by omega), if_pos rfl, w_pred n (by omega), if_pos (by omega), if_pos (by omega), if_pos (by omega), rd_g, rd_g]
    by_cases c : geB (g l n) (g l (n + 1)) = true
    · rw [if_pos c, w_succ (n + 1) (by omega)]
      exact lo_set l hl 7 (by decide) k (n + 1 + 1) (by omega) (by omega)
    · rw [if_neg c, w_succ (n + 1) (by omega)]
      refine lo_true l hl k (n + 1) (by omega) ⟨m, ?_, h2, h3⟩
      rcases Nat.lt_or_ge n m with h | h
      · exact h
      · obtain rfl : m = n := by omega
        exact absurd h3 c
theorem lo_false (l : List ByteArray) (hl : l.length ≤ 6) (hn : ¬ ∃ m, m + 1 < l.length ∧ geB (g l m) (g l (m + 1)) = true) : ∀ k n, l.length < n + k → n ≤ l.length → law_o k l ((n + 1 : Nat) : Int) 0 = some 0
  | 0, n, hk, hnl => by omega
  | k + 1, n, hk, hnl => by
    unfold law_o
    by_cases c : ((n + 1 : Nat) : Int) < (l.length : Int)
    · rw [if_pos c, if_pos rfl, w_pred n (by omega), if_pos (by omega), if_pos (by omega), if_pos (by omega), rd_g, rd_g, if_neg (fun h => hn ⟨n, by omega, h⟩), w_succ (n + 1) (by omega)]
      exact lo_false l hl hn k (n + 1) (by omega) (by omega)
    · rw [if_neg c]

theorem lq_set (l : List ByteArray) (hl : l.length ≤ 6) (i c : Int) (hc : c ≠ 0) : ∀ k n, l.length < n + k → n ≤ l.length → law_q k l i (n : Int) c = some c
  | 0, n, hk, hn => by omega
  | k + 1, n, hk, hn => by
    unfold law_q
    by_cases d : (n : Int) < (l.length : Int)
    · rw [if_pos d, if_pos (by omega), if_neg hc, w_succ n (by omega)]
      exact lq_set l hl i c hc k (n + 1) (by omega) (by omega)
    · rw [if_neg d]
theorem lp_set (l : List ByteArray) (hl : l.length ≤ 6) (c : Int) (hc : c ≠ 0) : ∀ k n, l.length < n + k → n ≤ l.length → law_p k l (n : Int) c = some c
  | 0, n, hk, hn => by omega
  | k + 1, n, hk, hn => by
    unfold law_p
    by_cases d : (n : Int) < (l.length : Int)
    · have hq : law_q 100 l (n : Int) 0 c = some c := lq_set l hl (n : Int) c hc 100 0 (by omega) (by omega)
      rw [if_pos d, if_pos (by omega), hq, Option.bind_some, w_succ n (by omega)]
      exact lp_set l hl c hc k (n + 1) (by omega) (by omega)
    · rw [if_neg d]
/-- Either no two words are found, or 13. -/
theorem lq_some (l : List ByteArray) (hl : l.length ≤ 6) (i : Nat) : ∀ k n, l.length < n + k → n ≤ l.length →
    law_q k l (i : Int) (n : Int) 0 = some 13 ∨ (law_q k l (i : Int) (n : Int) 0 = some 0 ∧ ¬ ∃ m, n ≤ m ∧ m < l.length ∧ m ≠ i ∧ hpB (g l i) (g l m) = true)
  | 0, n, hk, hn => by omega
  | k + 1, n, hk, hn => by
    unfold law_q
    by_cases d : (n : Int) < (l.length : Int)
    · rw [if_pos d, if_pos (by omega), if_pos rfl, w_succ n (by omega)]
      by_cases e : (i : Int) = (n : Int)
      · rw [if_pos e]
        rcases lq_some l hl i k (n + 1) (by omega) (by omega) with h | ⟨h, h2⟩
        · exact .inl h
        · refine .inr ⟨h, fun ⟨m, h3, h4, h5, h6⟩ => h2 ⟨m, ?_, h4, h5, h6⟩⟩
          omega
      · rw [if_neg e, hp_f, Option.bind_some, rd_g, rd_g]
        by_cases c : hpB (g l i) (g l n) = true
        · rw [if_pos c]
          exact .inl (lq_set l hl _ 13 (by decide) k (n + 1) (by omega) (by omega))
        · rw [if_neg c]
          rcases lq_some l hl i k (n + 1) (by omega) (by omega) with h | ⟨h, h2⟩
          · exact .inl h
          · refine .inr ⟨h, fun ⟨m, h3, h4, h5, h6⟩ => ?_⟩
            rcases Nat.lt_or_ge n m with h7 | h7
            · exact h2 ⟨m, h7, h4, h5, h6⟩
            · obtain rfl : m = n := by omega
              exact c h6
    · rw [if_neg d]
      exact .inr ⟨rfl, fun ⟨m, h3, h4, _⟩ => by omega⟩
theorem lp_true (l : List ByteArray) (hl : l.length ≤ 6) : ∀ k n, l.length < n + k → n ≤ l.length → (∃ i m, n ≤ i ∧ i < l.length ∧ m < l.length ∧ m ≠ i ∧ hpB (g l i) (g l m) = true) → law_p k l (n : Int) 0 = some 13
  | 0, n, hk, hn, _ => by omega
  | k + 1, n, hk, hn, ⟨i, m, h1, h2, h3, h4, h5⟩ => by
    unfold law_p
    rw [if_pos (by omega), if_pos (by omega), w_succ n (by omega)]
    rcases lq_some l hl n 100 0 (by omega) (by omega) with h | ⟨h, h6⟩
    · have h' : law_q 100 l (n : Int) 0 0 = some 13 := h
      rw [h', Option.bind_some]
      exact lp_set l hl 13 (by decide) k (n + 1) (by omega) (by omega)
    · have h' : law_q 100 l (n : Int) 0 0 = some 0 := h
      rw [h', Option.bind_some]
      refine lp_true l hl k (n + 1) (by omega) (by omega) ⟨i, m, ?_, h2, h3, h4, h5⟩
      rcases Nat.lt_or_ge n i with h7 | h7
      · exact h7
      · obtain rfl : i = n := by omega
        exact absurd ⟨m, Nat.zero_le _, h3, h4, h5⟩ h6
theorem ls_some (l : List ByteArray) (hl : l.length ≤ 6) : ∀ k n s, l.length < n + k → n ≤ l.length → ∃ r, law_s k l (n : Int) s = some r
  | 0, n, s, hk, hn => by omega
  | k + 1, n, s, hk, hn => by
    unfold law_s
    by_cases d : (n : Int) < (l.length : Int)
    · rw [if_pos d, if_pos (by omega), w_succ n (by omega)]
      exact ls_some l hl k (n + 1) _ (by omega) (by omega)
    · rw [if_neg d]
      exact ⟨s, rfl⟩

theorem mem_good {l : List ByteArray} (h : ∀ x ∈ l, x ∈ U) : l.all good = true := List.all_eq_true.mpr fun x hx => List.all_eq_true.mp words_good x (h x hx)
theorem read_pre {l : List ByteArray} (h : ∀ x ∈ l, x ∈ U) (hl : l.length ≤ 6) (hne : l.length ≠ 0) : trial_read.f l = (read_o 100 l (l.drop 1) 0).bind fun o => if o = true then some 7 else
      (read_p 100 l (l.drop 1) 0).bind fun p => if p = true then some 13 else
        (read_w 100 l [] 0).bind fun st => some (read_e st) := by
  unfold trial_read.f
  rw [if_neg hne, if_pos ⟨by omega, mem_good h⟩]

/-- What the law wants of Plan's answer. -/
def Fine (l : List ByteArray) (want : Int) (p : List Int) : Prop :=
  law_f l = some want ∧ trial_Plan.f l = some (p, want) ∧ (want ≠ 0 → p = []) ∧ (want = 0 → p.length + 1 = l.length ∧ trial_Words.f 100 p = some (l, 0) ∧ novaculitelaw04_equal.f 100 l l = some true)

theorem fine_of_check {l : List ByteArray} (h : check l = true) : ∃ want p, Fine l want p := by
  unfold check at h
  cases hw : law_f l with
  | none => rw [hw] at h; cases h
  | some want =>
    cases hp : trial_Plan.f l with
    | none => rw [hw, hp] at h; cases h
    | some q =>
      obtain ⟨p, e⟩ := q
      rw [hw, hp] at h
      simp only [Bool.and_eq_true, beq_iff_eq] at h
      obtain ⟨h1, h2⟩ := h
      subst h1
      refine ⟨e, p, hw, hp, fun hne => ?_, fun hz => ?_⟩
      · rw [if_neg hne] at h2
        exact List.isEmpty_iff.mp h2
      · rw [if_pos hz] at h2
        simp only [Bool.and_eq_true, beq_iff_eq] at h2
        obtain ⟨⟨h3, h4⟩, h5⟩ := h2
        cases hx : trial_Words.f 100 p with
        | none => rw [hx] at h4; cases h4
        | some q =>
          obtain ⟨b, e1⟩ := q
          rw [hx] at h4
          simp only [Bool.and_eq_true, beq_iff_eq, decide_eq_true_eq] at h4
          obtain ⟨rfl, rfl⟩ := h4
          exact ⟨h3, rfl, h5⟩

def upN : List Nat → Bool
  | a :: b :: r => decide (a < b) && !(hpB (u b) (u a)) && upN (b :: r)
  | _ => true
theorem up_lists : ∀ (is : List Nat) (f lo : Nat) (last : Option ByteArray) (acc : List ByteArray), allUp f lo last acc = true → upN is = true → (∀ i ∈ is, i < 15) → is.length ≤ f → is ≠ [] → (∀ i r, is = i :: r → lo ≤ i ∧ ∀ x, last = some x → hpB (u i) x = false) → check (acc ++ is.map u) = true
  | [], _, _, _, _, _, _, _, _, hne, _ => absurd rfl hne
  | i :: r, 0, _, _, _, _, _, _, hl, _, _ => by simp at hl
  | i :: r, f + 1, lo, last, acc, ha, hu, hi, hl, _, hh => by
    simp only [allUp] at ha
    have h1 := List.all_eq_true.mp ha i (List.mem_range.mpr (hi i (List.mem_cons_self ..)))
    obtain ⟨hlo, hlast⟩ := hh i r rfl
    have h2 : decide (i < lo) = false := decide_eq_false (by omega)
    replace h1 : (check (acc ++ [u i]) && allUp f (i + 1) (some (u i)) (acc ++ [u i])) = true := by
      cases last with
      | none => simp only [h2, Bool.false_or] at h1; exact h1
      | some x => simp only [h2, hlast x rfl, Bool.false_or] at h1; exact h1
    simp only [Bool.and_eq_true] at h1
    obtain ⟨h4, h5⟩ := h1
    cases r with
    | nil => exact h4
    | cons j r =>
      simp only [upN, Bool.and_eq_true, decide_eq_true_eq, Bool.not_eq_true'] at hu
      have := up_lists (j :: r) f (i + 1) (some (u i)) (acc ++ [u i]) h5 hu.2 (fun x hx => hi x (List.mem_cons_of_mem _ hx)) (by simpa using hl) (by simp) (fun i' r' e => by
        injection e with e1 e2
        subst e1
        exact ⟨hu.1.1, fun x hx => by injection hx with hx; subst hx; exact hu.1.2⟩)
      simpa [List.append_assoc] using this

theorem of_words : ∀ (l : List ByteArray), (∀ x ∈ l, x ∈ U) → ∃ is : List Nat, l = is.map u ∧ ∀ i ∈ is, i < 15
  | [], _ => ⟨[], rfl, fun _ h => by cases h⟩
  | x :: l, h => by
    obtain ⟨is, h1, h2⟩ := of_words l fun y hy => h y (List.mem_cons_of_mem _ hy)
    obtain ⟨i, hi, he⟩ := List.mem_iff_getElem.mp (h x (List.mem_cons_self ..))
    have hi' : i < 15 := hi
    refine ⟨i :: is, ?_, fun j hj => ?_⟩
    · have : u i = x := by unfold u; rw [List.getD_eq_getElem?_getD, List.getElem?_eq_getElem hi, he]; rfl
      rw [List.map_cons, this, ← h1]
    · rcases List.mem_cons.mp hj with rfl | hj
      · exact hi'
      · exact h2 j hj
theorem ge_lt {i j : Nat} (hi : i < 15) (hj : j < 15) (h : geB (u i) (u j) = false) : i < j := by
  have h1 := List.all_eq_true.mp ge_table i (List.mem_range.mpr hi)
  have h2 := List.all_eq_true.mp h1 j (List.mem_range.mpr hj)
  rw [h] at h2
  have h3 : decide (j ≤ i) = false := (beq_iff_eq.mp h2).symm
  have := of_decide_eq_false h3
  omega
theorem up_of : ∀ (is : List Nat), (∀ i ∈ is, i < 15) → (¬ ∃ m, m + 1 < (is.map u).length ∧ geB (g (is.map u) m) (g (is.map u) (m + 1)) = true) → (¬ ∃ m, m + 1 < (is.map u).length ∧ hpB (g (is.map u) (m + 1)) (g (is.map u) m) = true) → upN is = true
  | [], _, _, _ => rfl
  | [_], _, _, _ => rfl
  | i :: j :: r, hi, h1, h2 => by
    simp only [upN, Bool.and_eq_true, decide_eq_true_eq, Bool.not_eq_true']
    refine ⟨⟨?_, ?_⟩, ?_⟩
    · refine ge_lt (hi i (by simp)) (hi j (by simp)) ?_
      cases c : geB (u i) (u j) with
      | false => rfl
      | true => exact absurd ⟨0, by simp, by simpa [g] using c⟩ h1
    · cases c : hpB (u j) (u i) with
      | false => rfl
      | true => exact absurd ⟨0, by simp, by simpa [g] using c⟩ h2
    · refine up_of (j :: r) (fun x hx => hi x (List.mem_cons_of_mem _ hx)) (fun ⟨m, h3, h4⟩ => h1 ⟨m + 1, by simpa using h3, by simpa [g] using h4⟩) (fun ⟨m, h3, h4⟩ => h2 ⟨m + 1, by simpa using h3, by simpa [g] using h4⟩)

theorem plain_law (l : List ByteArray) (hU : ∀ x ∈ l, x ∈ U) (hl : l.length ≤ 6) : ∃ want p, Fine l want p := by
  by_cases h0 : l.length = 0
  · obtain rfl : l = [] := List.eq_nil_of_length_eq_zero h0
    exact ⟨4, [], nil_law.1, nil_law.2, fun _ => rfl, fun h => by cases h⟩
  · obtain ⟨s, hs⟩ := ls_some l hl 100 0 0 (by omega) (by omega)
    by_cases hd : ∃ m, m + 1 < l.length ∧ geB (g l m) (g l (m + 1)) = true
    · obtain ⟨m, h1, h2⟩ := hd
      refine ⟨7, [], ?_, ?_, fun _ => rfl, fun h => by cases h⟩
      · have a := lo_true l hl 100 0 (by omega) ⟨m, Nat.zero_le _, h1, h2⟩
        have b := lp_set l hl 7 (by decide) 100 0 (by omega) (by omega)
        have a' : law_o 100 l 1 0 = some 7 := a
        have b' : law_p 100 l 0 7 = some 7 := b
        have s' : law_s 100 l 0 0 = some s := hs
        simp only [law_f, if_neg h0, a', b', s', Option.bind_some]
        rfl
      · have a : read_o 100 l (l.drop 1) 0 = some true := ro_true l hl 100 0 (by omega) ⟨m, Nat.zero_le _, h1, h2⟩
        unfold trial_Plan.f
        rw [read_pre hU hl h0, a]
        rfl
    · by_cases hp : ∃ m, m + 1 < l.length ∧ hpB (g l (m + 1)) (g l m) = true
      · obtain ⟨m, h1, h2⟩ := hp
        refine ⟨13, [], ?_, ?_, fun _ => rfl, fun h => by cases h⟩
        · have a' : law_o 100 l 1 0 = some 0 := lo_false l hl hd 100 0 (by omega) (by omega)
          have b' : law_p 100 l 0 0 = some 13 := lp_true l hl 100 0 (by omega) (by omega) ⟨m + 1, m, by omega, h1, by omega, by omega, h2⟩
          have s' : law_s 100 l 0 0 = some s := hs
          simp only [law_f, if_neg h0, a', b', s', Option.bind_some]
          rfl
        · have a : read_o 100 l (l.drop 1) 0 = some false := ro_false l hl hd 100 0 (by omega) (by omega)
          have b : read_p 100 l (l.drop 1) 0 = some true := rp_true l hl 100 0 (by omega) ⟨m, Nat.zero_le _, h1, h2⟩
          unfold trial_Plan.f
          rw [read_pre hU hl h0, a, Option.bind_some, if_neg (by decide), b]
          rfl
      · obtain ⟨is, rfl, hi⟩ := of_words l hU
        have hu := up_of is hi hd hp
        have := up_lists is 6 0 none [] up6 hu hi (by simpa using hl) (fun e => h0 (by rw [e]; rfl)) (fun i r e => ⟨Nat.zero_le _, fun x hx => by cases hx⟩)
        exact fine_of_check (by simpa using this)

theorem less_f (a b : ByteArray) : cmp_Less_string.f a b = some (Op.bytesLess a.toList b.toList) := by
  simp [cmp_Less_string.f, cmp_isNaN_string.f]
def AllU (n : Nat) (x : List ByteArray) : Prop := x.length = n ∧ ∀ y ∈ x, y ∈ U
theorem AllU.rd {n : Nat} {x : List ByteArray} (h : AllU n x) (j : Nat) (hj : j < n) : rdOf ByteArray.empty x (j : Int) ∈ U := by
  have hj' : j < x.length := by rw [h.1]; exact hj
  have e : rdOf ByteArray.empty x (j : Int) = x[j] := by simp [rdOf, List.getD_eq_getElem?_getD, List.getElem?_eq_getElem hj']
  rw [e]
  exact h.2 _ (List.getElem_mem hj')
theorem AllU.set {n : Nat} {x : List ByteArray} (h : AllU n x) (j : Nat) {y : ByteArray} (hy : y ∈ U) : AllU n (x.set j y) :=
  ⟨by rw [List.length_set, h.1], fun z hz => by
    rcases List.mem_or_eq_of_mem_set hz with hz | rfl
    · exact h.2 z hz
    · exact hy⟩
theorem ins_some (n : Nat) (hn : n ≤ 6) : ∀ k,
    (∀ (i : Nat) x, AllU n x → i ≤ n → 10 * n + 1 ≤ k + 10 * i → ∃ r, slices_insertionSortOrdered_string.l0 k x 0 (n : Int) (i : Int) = some r ∧ AllU n r) ∧
    (∀ (i j : Nat) x, AllU n x → j ≤ i → i < n → 10 * n + j ≤ k + 10 * i + i → ∃ r, slices_insertionSortOrdered_string.l1 k x 0 (n : Int) (i : Int) (j : Int) = some r ∧ AllU n r)
  | 0 => ⟨fun i x _ h1 h2 => by omega, fun i j x _ h1 h2 h3 => by omega⟩
  | k + 1 => by
    obtain ⟨ih0, ih1⟩ := ins_some n hn k
    refine ⟨fun i x hx h1 h2 => ?_, fun i j x hx h1 h2 h3 => ?_⟩
    · unfold slices_insertionSortOrdered_string.l0
      by_cases c : (i : Int) < (n : Int)
      · rw [if_pos c]
        exact ih1 i i x hx (Nat.le_refl _) (by omega) (by omega)
      · rw [if_neg c]
        exact ⟨x, rfl, hx⟩
    · unfold slices_insertionSortOrdered_string.l1
      have hl := hx.1
      by_cases c : (j : Int) > 0
      · obtain ⟨j', rfl⟩ : ∃ j', j = j' + 1 := ⟨j - 1, by omega⟩
        have hp : wrap64 (((j' + 1 : Nat) : Int) - 1) = (j' : Int) := w_pred j' (by omega)
        rw [if_pos c, hp, if_pos (by omega), if_pos (by omega), if_pos (by omega), if_pos (by omega), less_f, Option.bind_some]
        by_cases d : Op.bytesLess (rdOf ByteArray.empty x ((j' + 1 : Nat) : Int)).toList (rdOf ByteArray.empty x (j' : Int)).toList = true
        · rw [if_pos d]
          exact ih1 i j' _ ((hx.set _ (hx.rd j' (by omega))).set _ (hx.rd (j' + 1) (by omega))) (by omega) h2 (by omega)
        · rw [if_neg d, w_succ i (by omega)]
          exact ih0 (i + 1) x hx (by omega) (by omega)
      · rw [if_neg c, w_succ i (by omega)]
        exact ih0 (i + 1) x hx (by omega) (by omega)
theorem sort_some (l : List ByteArray) (hU : ∀ x ∈ l, x ∈ U) (hl : l.length ≤ 6) : ∃ r, slices_Sort.f l = some r ∧ (∀ x ∈ r, x ∈ U) ∧ r.length = l.length := by
  unfold slices_Sort.f
  rw [if_pos (by omega)]
  unfold slices_insertionSortOrdered_string.f
  have hw : wrap64 (0 + 1) = ((1 : Nat) : Int) := w_succ 0 (by omega)
  rw [hw]
  by_cases h0 : l.length = 0
  · obtain rfl : l = [] := List.eq_nil_of_length_eq_zero h0
    exact ⟨[], rfl, hU, rfl⟩
  · obtain ⟨r, h1, h2⟩ := (ins_some l.length hl 300).1 1 l ⟨rfl, hU⟩ (by omega) (by omega)
    exact ⟨r, h1, h2.2, h2.1⟩
/-- A word of at most three letters, each b or s, is one of the fifteen. -/
theorem mem_U (w : ByteArray) (h1 : w.size ≤ 3) (h2 : ∀ c ∈ w.data.toList, c = 98 ∨ c = 115) : w ∈ U := by
  obtain ⟨⟨l⟩⟩ := w
  have h1' : l.length ≤ 3 := h1
  have h2' : ∀ c ∈ l, c = 98 ∨ c = 115 := h2
  match l, h1', h2' with
  | [], _, _ => (repeat (first | exact List.Mem.head _ | apply List.Mem.tail))
  | [a], _, h => rcases h a (by simp) with rfl | rfl <;> (repeat (first | exact List.Mem.head _ | apply List.Mem.tail))
  | [a, b], _, h => rcases h a (by simp) with rfl | rfl <;> rcases h b (by simp) with rfl | rfl <;> (repeat (first | exact List.Mem.head _ | apply List.Mem.tail))
  | [a, b, c], _, h => rcases h a (by simp) with rfl | rfl <;> rcases h b (by simp) with rfl | rfl <;> rcases h c (by simp) with rfl | rfl <;> (repeat (first | exact List.Mem.head _ | apply List.Mem.tail))
  | _ :: _ :: _ :: _ :: _, h, _ => simp at h
end Go.Proofs.YtengjaojkcokcaaGreatDoor.T
