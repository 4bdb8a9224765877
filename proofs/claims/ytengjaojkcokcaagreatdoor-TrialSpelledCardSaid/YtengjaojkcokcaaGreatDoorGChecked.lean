/- The error of results, but for contradictions: the walks of trial.checked, of slices.ContainsFunc and slices.IndexFunc at results, and of the function literal that is handed on. -/
import Derived.Test.YtengjaojkcokcaaGreatDoorTA
namespace Go.Proofs.YtengjaojkcokcaaGreatDoor.T
open Go.RowKit Go.Proofs.YtengjaojkcokcaaGreatDoorW.PrintWords Go.Proofs.YtengjaojkcokcaaGreatDoorW.PrintLast Go.Proofs.YtengjaojkcokcaaGreatDoorW.PrintMore

set_option maxHeartbeats 400000 in
theorem checked1_calls (x : Int) (y : Bool) (lv : Int) (b : Nat) (r : Bool) (w : World) (hc : w.cell? ⟨b, 0, none⟩ = some (.int .i64 lv)) (hb : b < w.heap.size) (h : trial_outside.f x 1 lv = some r) :
    Calls Tryz.prog 82 #[.agg #[.int .i64 x, .bool y], .pointer (some ⟨b, 0, none⟩)] w fun e w' => e = .returned (.bool r) ∧ Below w.heap.size w w' := by
  have hu52 := Tryz.underlying52
  have H := Aside0.mk h
  clear h
  have hc1 : ∀ o : Obj, (w.alloc o).cell? ⟨b, 0, none⟩ = some (.int .i64 lv) := fun o => (((Below.refl w.heap.size w).alloc (Nat.le_refl _) o).cell hb).trans hc
  go_enter Tryz.func82, Tryz.ntmps82
  go_wp2_with fail
  refine (trial_outside.calls x 1 lv r _ H.out).mono ?_
  rintro e w1 ⟨rfl, ⟨n, rfl⟩⟩
  go_wp2
  go_ret
  exact ⟨rfl, by repeat (first | exact Below.refl _ _ | apply below_alloc | apply pw_below_drewN | apply below_drew1)⟩

/-- Where the first result lies whose level is outside. -/
def idxf_l : Nat → List S52 → Int → Int → Option Int
  | 0, _, _, _ => none
  | k + 1, l, lv, i =>
    if i < (l.length : Int) then
      if 0 ≤ i then (trial_outside.f (rd_T52 l i).f0 1 lv).bind fun t => if t = true then some i else idxf_l k l lv (wrap64 (i + 1))
      else none
    else some (-1)
def trial_checked.f (lv : Int) (l : List S52) : Option Int :=
  (trial_outside.f lv 0 12).bind fun o => if o = true then some 1 else if (l.length : Int) > 20 then some 3 else (idxf_l 100 l lv 0).bind fun i => some (if i ≥ 0 then 2 else 0)

set_option maxHeartbeats 4000000 in
set_option maxRecDepth 100000 in
theorem idxf_calls (A1 : Option Addr) (c1 : Nat) (l : List S52) (lv : Int) (b : Nat) (r : Int) (w : World) (hr1 : Kd.C k52 w A1 l.length l) (hc1 : l.length ≤ c1)
    (hcl : w.cell? ⟨b, 0, none⟩ = some (.int .i64 lv)) (hb : b < w.heap.size) (h : idxf_l 100 l lv 0 = some r) :
    Calls Tryz.prog 95 #[.slice A1 l.length c1, .func (.func 82) #[] #[.pointer (some ⟨b, 0, none⟩)]] w fun e w' => e = .returned (.int .i64 r) ∧ Below w.heap.size w w' := by
  have hu52 := Tryz.underlying52
  have HR := Aside0.mk hr1
  have HC := Aside0.mk hc1
  have HCL := Aside0.mk hcl
  have HBB := Aside0.mk hb
  clear hr1 hc1 hcl hb
  have H' := Aside0.mk h
  clear h
  have HB := Aside0.mk (Below.refl w.heap.size w)
  go_enter Tryz.func95, Tryz.ntmps95
  go_wp2
  go_loopg [8] 100 (fun kq v8 w' => ∃ (i : Int), v8 = .int .i64 i ∧ Aside0 (idxf_l kq l lv i = some r) ∧ Aside0 (kq ≤ 100) ∧ Aside0 (Below w.heap.size w w'))
  case atStart => exact ⟨0, rfl, H', ⟨Nat.le_refl _⟩, HB⟩
  case round =>
    clear H' HB
    obtain ⟨i, rfl, HA, HK1, HB⟩ := hrel
    cases gk with
    | zero => exact absurd HA.out (by simp [idxf_l])
    | succ k1 =>
      have H := HA.out
      clear HA
      simp only [idxf_l] at H
      by_cases c3 : i < (l.length : Int)
      · rw [if_pos c3] at H
        have c3b0 : decide (i < (l.length : Int)) = true := decide_eq_true c3
        by_cases c4 : 0 ≤ i
        · rw [if_pos c4] at H
          obtain ⟨ad, ea, hx0, hx1⟩ := at_T52 (Kd.C_below HR.out HB.out) i c4 c3
          cases ea
          have c4b0 : decide (0 ≤ i) = true := decide_eq_true c4
          replace c3 := eq_true c3
          replace c4 := eq_true c4
          obtain ⟨t, ht, H⟩ := Option.bind_eq_some_iff.mp H
          have HT := Aside0.mk ht
          clear ht
          cases t with
          | true =>
            obtain rfl := Option.some.inj H
            clear H
            go_wp2_with fail
            refine (checked1_calls _ _ lv b true _ ((HB.out.cell (p := ⟨b, 0, none⟩) HBB.out).trans HCL.out) (Nat.lt_of_lt_of_le HBB.out HB.out.size) HT.out).mono ?_
            rintro e w1 ⟨rfl, h1⟩
            have HB1 := Aside0.mk (below_step HB.out h1)
            clear h1 HB
            go_wp2
            go_ret
            exact ⟨rfl, HB1.out⟩
          | false =>
            have H' := Aside0.mk (show idxf_l k1 l lv (wrap64 (i + 1)) = some r from H)
            clear H
            go_wp2_with fail
            refine (checked1_calls _ _ lv b false _ ((HB.out.cell (p := ⟨b, 0, none⟩) HBB.out).trans HCL.out) (Nat.lt_of_lt_of_le HBB.out HB.out.size) HT.out).mono ?_
            rintro e w1 ⟨rfl, h1⟩
            have HB1 := Aside0.mk (below_step HB.out h1)
            clear h1 HB
            go_wp2
            go_roundg k1
            case measure => have := HK1.out; omega
            case rel => exact ⟨_, rfl, H', ⟨by have := HK1.out; omega⟩, HB1⟩
        · rw [if_neg c4] at H
          exact absurd H (by simp)
      · rw [if_neg c3] at H
        have c3b0 : decide (i < (l.length : Int)) = false := decide_eq_false c3
        clear c3
        obtain rfl := Option.some.inj H
        clear H
        go_wp2
        go_ret
        exact ⟨rfl, HB.out⟩

set_option maxHeartbeats 1000000 in
theorem containsf_calls (A1 : Option Addr) (c1 : Nat) (l : List S52) (lv : Int) (b : Nat) (r : Int) (w : World) (hr1 : Kd.C k52 w A1 l.length l) (hc1 : l.length ≤ c1)
    (hcl : w.cell? ⟨b, 0, none⟩ = some (.int .i64 lv)) (hb : b < w.heap.size) (h : idxf_l 100 l lv 0 = some r) :
    Calls Tryz.prog 81 #[.slice A1 l.length c1, .func (.func 82) #[] #[.pointer (some ⟨b, 0, none⟩)]] w fun e w' => e = .returned (.bool (decide (r ≥ 0))) ∧ Below w.heap.size w w' := by
  have HR := Aside0.mk hr1
  have HC := Aside0.mk hc1
  have HCL := Aside0.mk hcl
  have HBB := Aside0.mk hb
  have H := Aside0.mk h
  clear hr1 hc1 hcl hb h
  go_enter Tryz.func81, Tryz.ntmps81
  go_wp2_with fail
  refine (idxf_calls A1 c1 l lv b r _ HR.out HC.out HCL.out HBB.out H.out).mono ?_
  rintro e w1 ⟨rfl, h1⟩
  go_wp2
  go_ret
  exact ⟨rfl, h1⟩

set_option maxHeartbeats 2000000 in
set_option maxRecDepth 100000 in
theorem trial_checked.calls (a0 : Int) (A1 : Option Addr) (c1 : Nat) (l1 : List S52) (r : Int) (w : World) (hr1 : Kd.C k52 w A1 l1.length l1) (hc1 : l1.length ≤ c1) (h : trial_checked.f a0 l1 = some r) :
    Calls Tryz.prog 55 #[.int .i64 a0, .slice A1 l1.length c1] w fun e w' => e = .returned (.int .i64 r) ∧ Below w.heap.size w w' := by
  have HR := Aside0.mk hr1
  have HC := Aside0.mk hc1
  clear hr1 hc1
  have HB := Aside0.mk ((Below.refl w.heap.size w).alloc (Nat.le_refl _) (.cells #[.int .i64 a0] 3))
  obtain ⟨o, ho, H⟩ := Option.bind_eq_some_iff.mp h
  clear h
  have HO := Aside0.mk ho
  clear ho
  cases o with
  | true =>
    obtain rfl := Option.some.inj H
    clear H
    go_enter Tryz.func55, Tryz.ntmps55
    go_wp2_with fail
    refine (trial_outside.calls _ _ _ true _ HO.out).mono ?_
    rintro e w1 ⟨rfl, ⟨n, rfl⟩⟩
    go_wp2
    go_ret
    exact ⟨rfl, by repeat (first | exact Below.refl _ _ | apply below_alloc | apply pw_below_drewN | apply below_drew1)⟩
  | false =>
    replace H : (if (l1.length : Int) > 20 then some 3 else (idxf_l 100 l1 a0 0).bind fun i => some (if i ≥ 0 then 2 else 0)) = some r := H
    by_cases c : (l1.length : Int) > 20
    · rw [if_pos c] at H
      obtain rfl := Option.some.inj H
      clear H
      have cb : decide ((20 : Int) < (l1.length : Int)) = true := decide_eq_true c
      go_enter Tryz.func55, Tryz.ntmps55
      go_wp2_with fail
      refine (trial_outside.calls _ _ _ false _ HO.out).mono ?_
      rintro e w1 ⟨rfl, ⟨n, rfl⟩⟩
      go_wp2
      go_ret
      exact ⟨rfl, by repeat (first | exact Below.refl _ _ | apply below_alloc | apply pw_below_drewN | apply below_drew1)⟩
    · rw [if_neg c] at H
      have cb : decide ((20 : Int) < (l1.length : Int)) = false := decide_eq_false c
      clear c
      obtain ⟨i, hi, H⟩ := Option.bind_eq_some_iff.mp H
      have HI := Aside0.mk hi
      clear hi
      obtain rfl := Option.some.inj H
      clear H
      by_cases ci : i ≥ 0
      · have cib : decide (0 ≤ i) = true := decide_eq_true ci
        have hfin : (if i ≥ 0 then (2 : Int) else 0) = 2 := if_pos ci
        rw [hfin]
        clear hfin ci
        go_enter Tryz.func55, Tryz.ntmps55
        go_wp2_with fail
        refine (trial_outside.calls _ _ _ false _ HO.out).mono ?_
        rintro e w1 ⟨rfl, ⟨n, rfl⟩⟩
        go_wp2_with fail
        refine (containsf_calls A1 c1 l1 a0 w.heap.size i _ (by repeat (first | exact HR.out | (with_reducible refine Kd.C_alloc ?_ _) | (with_reducible refine Kd.C_drewN ?_ _) | (with_reducible refine Kd.C_drew ?_))) HC.out (by simp) (by simp) HI.out).mono ?_
        rintro e w2 ⟨rfl, h2⟩
        have HB2 := Aside0.mk (below_step (by repeat (first | exact Below.refl _ _ | apply below_alloc | apply pw_below_drewN | apply below_drew1)) h2 : Below w.heap.size w w2)
        clear h2
        go_wp2
        go_ret
        exact ⟨rfl, HB2.out⟩
      · have cib : decide (0 ≤ i) = false := decide_eq_false ci
        have hfin : (if i ≥ 0 then (2 : Int) else 0) = 0 := if_neg ci
        rw [hfin]
        clear hfin ci
        go_enter Tryz.func55, Tryz.ntmps55
        go_wp2_with fail
        refine (trial_outside.calls _ _ _ false _ HO.out).mono ?_
        rintro e w1 ⟨rfl, ⟨n, rfl⟩⟩
        go_wp2_with fail
        refine (containsf_calls A1 c1 l1 a0 w.heap.size i _ (by repeat (first | exact HR.out | (with_reducible refine Kd.C_alloc ?_ _) | (with_reducible refine Kd.C_drewN ?_ _) | (with_reducible refine Kd.C_drew ?_))) HC.out (by simp) (by simp) HI.out).mono ?_
        rintro e w2 ⟨rfl, h2⟩
        have HB2 := Aside0.mk (below_step (by repeat (first | exact Below.refl _ _ | apply below_alloc | apply pw_below_drewN | apply below_drew1)) h2 : Below w.heap.size w w2)
        clear h2
        go_wp2
        go_ret
        exact ⟨rfl, HB2.out⟩
end Go.Proofs.YtengjaojkcokcaaGreatDoor.T
