/- works answers true: the straight walk through all its calls, each at the arguments that it is handed. -/
import Derived.Test.YtengjaojkcokcaaGreatDoorGEval
namespace Go.Proofs.YtengjaojkcokcaaGreatDoor.T
open Go.RowKit Go.Proofs.YtengjaojkcokcaaGreatDoorW.PrintWords Go.Proofs.YtengjaojkcokcaaGreatDoorW.PrintLast Go.Proofs.YtengjaojkcokcaaGreatDoorW.PrintMore

/-- The value reads as a slice of these. -/
def RK {α : Type} (k : Kd α) (w : World) (v : Value) (l : List α) : Prop := ∃ A c, v = .slice A l.length c ∧ l.length ≤ c ∧ Kd.C k w A l.length l
theorem RK.below {α : Type} {k : Kd α} {w w' : World} {v : Value} {l : List α} (h : RK k w v l) (hb : Below w.heap.size w w') : RK k w' v l := by
  obtain ⟨A, c, h1, h2, h3⟩ := h
  exact ⟨A, c, h1, h2, Kd.C_below h3 hb⟩
theorem RK.of {α : Type} {k : Kd α} {e : Nat} {base : Nat} {ok : Nat → Prop} {w : World} {v : Value} {l : List α} (h : Kd.R k e w base ok v l) : RK k w v l := by
  obtain ⟨A, c, rfl⟩ := Kd.R_slice h
  have := Kd.R_reads' h
  exact ⟨A, c, rfl, this.2.1, this.2.2⟩
abbrev RI := @RK Int (Kd.int .i64)
abbrev RS := @RK ByteArray Kd.string
abbrev R5 := @RK S52 k52
theorem RI.of {base : Nat} {ok : Nat → Prop} {w : World} {v : Value} {l : List Int} (h : Kd.R (Kd.int .i64) 3 w base ok v l) : RI w v l := RK.of h
theorem RS.of {base : Nat} {ok : Nat → Prop} {w : World} {v : Value} {l : List ByteArray} (h : Kd.R Kd.string 9 w base ok v l) : RS w v l := RK.of h
theorem R5.of {base : Nat} {ok : Nat → Prop} {w : World} {v : Value} {l : List S52} (h : Kd.R k52 52 w base ok v l) : R5 w v l := RK.of h
theorem below_of_drawn {w w' : World} (h : Drawn0 w w') : Below w.heap.size w w' := by
  obtain ⟨n, rfl⟩ := h
  exact pw_below_drewN (Below.refl _ _) n
theorem r5_lit (w : World) (a : Int) (b : Bool) (c : Int) (d : Bool) : Kd.R k52 52 (w.alloc (.cells #[.int .i64 a, .bool b, .int .i64 c, .bool d] 52)) w.heap.size (fun _ => True) (.slice (some ⟨w.heap.size, 0, none⟩) 2 2) [⟨a, b⟩, ⟨c, d⟩] := by
  refine ⟨fun _ _ => trivial, [.int .i64 a, .bool b, .int .i64 c, .bool d], ?_, ?_⟩
  · have h2 := World.ownsRow_lit (base := w.heap.size) (e := 52) (size := 2) w #[.int .i64 a, .bool b, .int .i64 c, .bool d] 2 (Nat.le_refl _) (by decide) (by simp)
    exact h2
  · exact Reps.c2 (show Kd.M k52 _ _ _ ⟨a, b⟩ [.int .i64 a, .bool b] from k52_mkM _ _ _ ⟨a, b⟩) (Reps.c2 (show Kd.M k52 _ _ _ ⟨c, d⟩ [.int .i64 c, .bool d] from k52_mkM _ _ _ ⟨c, d⟩) (Reps.none _ _))
theorem r3_lit (w : World) (a b c : Int) : Kd.R (Kd.int .i64) 3 (w.alloc (.cells #[.int .i64 a, .int .i64 b, .int .i64 c] 3)) w.heap.size (fun _ => True) (.slice (some ⟨w.heap.size, 0, none⟩) 3 3) [a, b, c] := by
  refine ⟨fun _ _ => trivial, [.int .i64 a, .int .i64 b, .int .i64 c], ?_, ?_⟩
  · have h2 := World.ownsRow_lit (base := w.heap.size) (e := 3) (size := 1) w #[.int .i64 a, .int .i64 b, .int .i64 c] 3 (Nat.le_refl _) (by decide) (by simp)
    exact h2
  · exact Reps.one (show Kd.M (Kd.int .i64) _ _ _ a [.int .i64 a] from rfl) (Reps.one (show Kd.M (Kd.int .i64) _ _ _ b [.int .i64 b] from rfl) (Reps.one (show Kd.M (Kd.int .i64) _ _ _ c [.int .i64 c] from rfl) (Reps.none _ _)))
theorem s4_lit (w : World) (a b c d : ByteArray) : Kd.R Kd.string 9 (w.alloc (.cells #[.string a, .string b, .string c, .string d] 9)) w.heap.size (fun _ => True) (.slice (some ⟨w.heap.size, 0, none⟩) 4 4) [a, b, c, d] := by
  refine ⟨fun _ _ => trivial, [.string a, .string b, .string c, .string d], ?_, ?_⟩
  · have h2 := World.ownsRow_lit (base := w.heap.size) (e := 9) (size := 1) w #[.string a, .string b, .string c, .string d] 4 (Nat.le_refl _) (by decide) (by simp)
    exact h2
  · exact Reps.one (show Kd.M Kd.string _ _ _ a [.string a] from rfl) (Reps.one (show Kd.M Kd.string _ _ _ b [.string b] from rfl) (Reps.one (show Kd.M Kd.string _ _ _ c [.string c] from rfl) (Reps.one (show Kd.M Kd.string _ _ _ d [.string d] from rfl) (Reps.none _ _))))
def RetI (l : List Int) (r : Int) (w : World) (e : Ending) (w' : World) : Prop := ∃ v, e = .returned (.tuple #[v, .int .i64 r]) ∧ RI w' v l ∧ Below w.heap.size w w'
theorem c_first (a b : Int) (l : List Int) (r : Int) (w : World) (h : trial_First.f a b = some (l, r)) : Calls Tryz.prog 18 #[.int .i64 a, .int .i64 b] w (RetI l r w) :=
  (trial_First.calls a b l r w h).mono fun _ _ ⟨v, h1, h2, h3⟩ => ⟨v, h1, RI.of h2, h3⟩
theorem c_choices (a b : Int) (l : List Int) (r : Int) (w : World) (h : trial_Choices.f 100 a b = some (l, r)) : Calls Tryz.prog 19 #[.int .i64 a, .int .i64 b] w (RetI l r w) :=
  (trial_Choices.calls 100 a b l r w h).mono fun _ _ ⟨v, h1, h2, h3⟩ => ⟨v, h1, RI.of h2, h3⟩
theorem c_cheap (a b c : Int) (l : List Int) (r : Int) (w : World) (h : trial_Cheap.f a b c = some (l, r)) : Calls Tryz.prog 29 #[.int .i64 a, .int .i64 b, .int .i64 c] w (RetI l r w) :=
  (trial_Cheap.calls a b c l r w h).mono fun _ _ ⟨v, h1, h2, h3⟩ => ⟨v, h1, RI.of h2, h3⟩
theorem c_plan {w : World} {v : Value} {l : List ByteArray} {r : List Int} {n : Int} (hv : RS w v l) (h : trial_Plan.f l = some (r, n)) : Calls Tryz.prog 5 #[v] w (RetI r n w) := by
  obtain ⟨A, c, rfl, h1, h2⟩ := hv
  exact (trial_Plan.calls A c l r n w h2 h1 h).mono fun _ _ ⟨v, h1, h2, h3⟩ => ⟨v, h1, RI.of h2, h3⟩
theorem c_words {w : World} {v : Value} {l : List Int} {r : List ByteArray} {n : Int} (hv : RI w v l) (h : trial_Words.f 100 l = some (r, n)) : Calls Tryz.prog 8 #[v] w fun e w' => ∃ v', e = .returned (.tuple #[v', .int .i64 n]) ∧ RS w' v' r ∧ Below w.heap.size w w' := by
  obtain ⟨A, c, rfl, h1, h2⟩ := hv
  exact (trial_Words.calls 100 A c l r n w h2 h1 h).mono fun _ _ ⟨v, h1, h2, h3⟩ => ⟨v, h1, RS.of h2, h3⟩
theorem c_A (w : World) : Calls Tryz.prog 23 #[] w fun e w' => ∃ v, e = .returned v ∧ RI w' v [3, 1, 2, 5, 4, 6] ∧ Below w.heap.size w w' :=
  (novaculitelaw04_A.calls _ w ev_A).mono fun _ _ ⟨v, h1, h2, h3⟩ => ⟨v, h1, RI.of h2, h3⟩
theorem c_list (v : Value) (w : World) : Calls Tryz.prog 20 #[v] w fun e w' => e = .returned v ∧ w' = w := by
  go_enter Tryz.func20, Tryz.ntmps20
  go_wp2
  go_ret
  exact ⟨rfl, rfl⟩
theorem c_strs (v : Value) (w : World) : Calls Tryz.prog 21 #[v] w fun e w' => e = .returned v ∧ w' = w := by
  go_enter Tryz.func21, Tryz.ntmps21
  go_wp2
  go_ret
  exact ⟨rfl, rfl⟩
theorem c_worst {w : World} {v : Value} {l : List Int} {a b c : Int} (hv : RI w v l) (h : trial_Worst.f 100 l = some (a, b, c)) : Calls Tryz.prog 22 #[v] w fun e w' => e = .returned (.tuple #[.int .i64 a, .int .i64 b, .int .i64 c]) ∧ Below w.heap.size w w' := by
  obtain ⟨A, c, rfl, h1, h2⟩ := hv
  exact trial_Worst.calls 100 A c l _ _ _ w h2 h1 h
theorem c_sum {w : World} {v : Value} {l : List Int} {a b : Int} (hv : RI w v l) (h : trial_Sum.f 100 l = some (a, b)) : Calls Tryz.prog 24 #[v] w fun e w' => e = .returned (.tuple #[.int .i64 a, .int .i64 b]) ∧ Below w.heap.size w w' := by
  obtain ⟨A, c, rfl, h1, h2⟩ := hv
  exact trial_Sum.calls 100 A c l _ _ w h2 h1 h
theorem c_known (x : Int) {w : World} {v : Value} {l : List S52} {a b c : Int} (hv : R5 w v l) (h : trial_Known.f 100 x l = some (a, b, c)) : Calls Tryz.prog 25 #[.int .i64 x, v] w fun e w' => e = .returned (.tuple #[.int .i64 a, .int .i64 b, .int .i64 c]) ∧ Below w.heap.size w w' := by
  obtain ⟨A, c, rfl, h1, h2⟩ := hv
  exact trial_Known.calls 100 x A c l _ _ _ w h2 h1 h
theorem c_check {w : World} {v : Value} {l : List Int} {a : Int} (hv : RI w v l) (h : trial_Check.f 100 l = some a) : Calls Tryz.prog 31 #[v] w fun e w' => e = .returned (.int .i64 a) ∧ Below w.heap.size w w' := by
  obtain ⟨A, c, rfl, h1, h2⟩ := hv
  exact trial_Check.calls 100 A c l _ w h2 h1 h
theorem c_proves (x : Int) {w : World} {v : Value} {l : List Int} {a : Int} (hv : RI w v l) (h : trial_Proves.f 100 l x = some a) : Calls Tryz.prog 32 #[v, .int .i64 x] w fun e w' => e = .returned (.int .i64 a) ∧ Below w.heap.size w w' := by
  obtain ⟨A, c, rfl, h1, h2⟩ := hv
  exact trial_Proves.calls 100 A c l x _ w h2 h1 h
theorem c_same {w : World} {v v1 : Value} {l l1 : List Int} {a : Bool} (hv : RI w v l) (hv1 : RI w v1 l1) (h : novaculitelaw04_same.f 100 l l1 = some a) : Calls Tryz.prog 30 #[v, v1] w fun e w' => e = .returned (.bool a) ∧ Below w.heap.size w w' := by
  obtain ⟨A, c, rfl, h1, h2⟩ := hv
  obtain ⟨A1, c1, rfl, h3, h4⟩ := hv1
  exact (novaculitelaw04_same.calls 100 A c l A1 c1 l1 _ w h2 h1 h4 h3 h).mono fun _ _ ⟨h1, h2⟩ => ⟨h1, below_of_drawn h2⟩
theorem c_equal {w : World} {v v1 : Value} {l l1 : List ByteArray} {a : Bool} (hv : RS w v l) (hv1 : RS w v1 l1) (h : novaculitelaw04_equal.f 100 l l1 = some a) : Calls Tryz.prog 9 #[v, v1] w fun e w' => e = .returned (.bool a) ∧ Below w.heap.size w w' := by
  obtain ⟨A, c, rfl, h1, h2⟩ := hv
  obtain ⟨A1, c1, rfl, h3, h4⟩ := hv1
  exact (novaculitelaw04_equal.calls 100 A c l A1 c1 l1 _ w h2 h1 h4 h3 h).mono fun _ _ ⟨h1, h2⟩ => ⟨h1, below_of_drawn h2⟩

set_option maxHeartbeats 16000000 in
set_option maxRecDepth 100000 in
theorem works_calls (w : World) : Calls Tryz.prog 7 #[] w fun e w' => e = .returned (.bool true) ∧ Below w.heap.size w w' := by
  have HB := Aside0.mk (Below.refl w.heap.size w)
  go_enter Tryz.func7, Tryz.ntmps7
  go_wp2_with fail
  refine (trial_Reach.calls 100 2 3 6 0 _ ev_reach).mono ?_
  rintro e w2 ⟨rfl, hb⟩
  replace HB := Aside0.mk (below_step HB.out hb)
  clear hb
  go_wp2_with fail
  refine (trial_Trials.calls 100 6 2 3 0 _ ev_trials).mono ?_
  rintro e w4 ⟨rfl, hb⟩
  replace HB := Aside0.mk (below_step HB.out hb)
  clear hb
  go_wp2_with fail
  refine (trial_Count.calls 3 2 3 4 0 _ ev_count).mono ?_
  rintro e w6 ⟨rfl, hb⟩
  replace HB := Aside0.mk (below_step HB.out hb)
  clear hb
  go_wp2_with fail
  refine (c_first 6 2 _ 0 _ ev_first).mono ?_
  rintro e w8 ⟨vF, rfl, hv, hb⟩
  replace HB := Aside0.mk (below_step HB.out hb)
  clear hb
  have HF := Aside0.mk hv
  clear hv
  go_wp2_with fail
  refine (c_choices 4 2 _ 0 _ ev_choices).mono ?_
  rintro e w10 ⟨vC, rfl, hv, hb⟩
  replace HF := Aside0.mk (HF.out.below hb)
  replace HB := Aside0.mk (below_step HB.out hb)
  clear hb
  have HC := Aside0.mk hv
  clear hv
  go_wp2_with (first | ((with_reducible refine gate_dst (N := 43) rfl ?_); refine Kd.R_lit (Kd.int .i64) _ 3 ?hg (N := 43) ?hd (xs := ([2, 1, 3] : List Int)) (inner := [.int .i64 2, .int .i64 1, .int .i64 3]) (ok := fun _ => True) (okp := fun _ => True) ?hr ?hp (fun _ hk => hk) trivial (Below.refl _ _) (Nat.le_refl _) (by simp) ?_; (case hd => rfl); (case hg => rfl); (case hr => first | (go_simp; done) | (go_simp; rfl)); (case hp => exact (Reps.one (show Kd.M (Kd.int .i64) _ _ _ 2 [.int .i64 2] from rfl) (Reps.one (show Kd.M (Kd.int .i64) _ _ _ 1 [.int .i64 1] from rfl) (Reps.one (show Kd.M (Kd.int .i64) _ _ _ 3 [.int .i64 3] from rfl) (Reps.none _ _))))); intro vL w11 ho hb hg_ hnew_; clear hg_ hnew_; have HL := Aside0.mk (RI.of ho); clear ho; have hb1 := hb; clear hb) | fail)
  replace HF := Aside0.mk (HF.out.below hb1)
  replace HC := Aside0.mk (HC.out.below hb1)
  replace HB := Aside0.mk (below_step HB.out hb1)
  clear hb1
  refine (c_list vL _).mono ?_
  rintro e w12 ⟨rfl, rfl⟩
  go_wp2_with fail
  refine (c_words HL.out ev_words).mono ?_
  rintro e w14 ⟨vW, rfl, hv, hb⟩
  replace HF := Aside0.mk (HF.out.below hb)
  replace HC := Aside0.mk (HC.out.below hb)
  replace HL := Aside0.mk (HL.out.below hb)
  replace HB := Aside0.mk (below_step HB.out hb)
  clear hb
  have HW := Aside0.mk hv
  clear hv
  clear HL
  go_wp2_with (first | ((with_reducible refine gate_dst (N := 49) rfl ?_); refine Kd.R_lit (Kd.string) _ 9 ?hg (N := 49) ?hd (xs := ([⟨#[98, 98]⟩, ⟨#[98, 115]⟩, ⟨#[115, 98]⟩, ⟨#[115, 115]⟩] : List ByteArray)) (inner := [.string ⟨#[98, 98]⟩, .string ⟨#[98, 115]⟩, .string ⟨#[115, 98]⟩, .string ⟨#[115, 115]⟩]) (ok := fun _ => True) (okp := fun _ => True) ?hr ?hp (fun _ hk => hk) trivial (Below.refl _ _) (Nat.le_refl _) (by simp) ?_; (case hd => rfl); (case hg => rfl); (case hr => first | (go_simp; done) | (go_simp; rfl)); (case hp => exact (Reps.one (show Kd.M Kd.string _ _ _ ⟨#[98, 98]⟩ [.string ⟨#[98, 98]⟩] from rfl) (Reps.one (show Kd.M Kd.string _ _ _ ⟨#[98, 115]⟩ [.string ⟨#[98, 115]⟩] from rfl) (Reps.one (show Kd.M Kd.string _ _ _ ⟨#[115, 98]⟩ [.string ⟨#[115, 98]⟩] from rfl) (Reps.one (show Kd.M Kd.string _ _ _ ⟨#[115, 115]⟩ [.string ⟨#[115, 115]⟩] from rfl) (Reps.none _ _)))))); intro vS w15 ho hb hg_ hnew_; clear hg_ hnew_; have HS := Aside0.mk (RS.of ho); clear ho; have hb1 := hb; clear hb) | fail)
  replace HF := Aside0.mk (HF.out.below hb1)
  replace HC := Aside0.mk (HC.out.below hb1)
  replace HW := Aside0.mk (HW.out.below hb1)
  replace HB := Aside0.mk (below_step HB.out hb1)
  clear hb1
  refine (c_strs vS _).mono ?_
  rintro e w16 ⟨rfl, rfl⟩
  go_wp2_with fail
  refine (c_plan HS.out ev_plan).mono ?_
  rintro e w18 ⟨vP, rfl, hv, hb⟩
  replace HF := Aside0.mk (HF.out.below hb)
  replace HC := Aside0.mk (HC.out.below hb)
  replace HW := Aside0.mk (HW.out.below hb)
  replace HS := Aside0.mk (HS.out.below hb)
  replace HB := Aside0.mk (below_step HB.out hb)
  clear hb
  have HP := Aside0.mk hv
  clear hv
  clear HS
  go_wp2_with fail
  refine (c_A _).mono ?_
  rintro e w20 ⟨vA, rfl, hv, hb⟩
  replace HF := Aside0.mk (HF.out.below hb)
  replace HC := Aside0.mk (HC.out.below hb)
  replace HW := Aside0.mk (HW.out.below hb)
  replace HP := Aside0.mk (HP.out.below hb)
  replace HB := Aside0.mk (below_step HB.out hb)
  clear hb
  have HA := Aside0.mk hv
  clear hv
  go_wp2_with fail
  refine (c_worst HA.out ev_worst).mono ?_
  rintro e w22 ⟨rfl, hb⟩
  replace HF := Aside0.mk (HF.out.below hb)
  replace HC := Aside0.mk (HC.out.below hb)
  replace HW := Aside0.mk (HW.out.below hb)
  replace HP := Aside0.mk (HP.out.below hb)
  replace HA := Aside0.mk (HA.out.below hb)
  replace HB := Aside0.mk (below_step HB.out hb)
  clear hb
  clear HA
  go_wp2_with fail
  refine (c_A _).mono ?_
  rintro e w24 ⟨vA, rfl, hv, hb⟩
  replace HF := Aside0.mk (HF.out.below hb)
  replace HC := Aside0.mk (HC.out.below hb)
  replace HW := Aside0.mk (HW.out.below hb)
  replace HP := Aside0.mk (HP.out.below hb)
  replace HB := Aside0.mk (below_step HB.out hb)
  clear hb
  have HA := Aside0.mk hv
  clear hv
  go_wp2_with fail
  refine (c_sum HA.out ev_sum).mono ?_
  rintro e w26 ⟨rfl, hb⟩
  replace HF := Aside0.mk (HF.out.below hb)
  replace HC := Aside0.mk (HC.out.below hb)
  replace HW := Aside0.mk (HW.out.below hb)
  replace HP := Aside0.mk (HP.out.below hb)
  replace HA := Aside0.mk (HA.out.below hb)
  replace HB := Aside0.mk (below_step HB.out hb)
  clear hb
  clear HA
  go_wp2_with fail
  refine (novaculitelaw04_blunt.calls 4 4 true _ rfl).mono ?_
  rintro e w28 ⟨rfl, hb⟩
  replace HF := Aside0.mk (HF.out.below hb)
  replace HC := Aside0.mk (HC.out.below hb)
  replace HW := Aside0.mk (HW.out.below hb)
  replace HP := Aside0.mk (HP.out.below hb)
  replace HB := Aside0.mk (below_step HB.out hb)
  clear hb
  go_wp2_with fail
  refine (novaculitelaw04_sharp.calls 2 2 false _ rfl).mono ?_
  rintro e w30 ⟨rfl, hb⟩
  replace HF := Aside0.mk (HF.out.below hb)
  replace HC := Aside0.mk (HC.out.below hb)
  replace HW := Aside0.mk (HW.out.below hb)
  replace HP := Aside0.mk (HP.out.below hb)
  replace HB := Aside0.mk (below_step HB.out hb)
  clear hb
  go_wp2_with fail
  have HKn := Aside0.mk (R5.of (r5_lit w30 4 true 2 false))
  refine (c_known 6 HKn.out ev_known).mono ?_
  rintro e w32 ⟨rfl, hk⟩
  have hb := (below_alloc (Below.refl _ _) _).trans (hk.mono (by simp))
  clear hk HKn
  replace HF := Aside0.mk (HF.out.below hb)
  replace HC := Aside0.mk (HC.out.below hb)
  replace HW := Aside0.mk (HW.out.below hb)
  replace HP := Aside0.mk (HP.out.below hb)
  replace HB := Aside0.mk (below_step HB.out hb)
  clear hb
  go_wp2_with fail
  refine (trial_Price.calls 100 3 1 1 4 0 _ ev_price).mono ?_
  rintro e w34 ⟨rfl, hb⟩
  replace HF := Aside0.mk (HF.out.below hb)
  replace HC := Aside0.mk (HC.out.below hb)
  replace HW := Aside0.mk (HW.out.below hb)
  replace HP := Aside0.mk (HP.out.below hb)
  replace HB := Aside0.mk (below_step HB.out hb)
  clear hb
  go_wp2_with fail
  refine (c_cheap 3 1 1 _ 0 _ ev_cheap).mono ?_
  rintro e w36 ⟨vH, rfl, hv, hb⟩
  replace HF := Aside0.mk (HF.out.below hb)
  replace HC := Aside0.mk (HC.out.below hb)
  replace HW := Aside0.mk (HW.out.below hb)
  replace HP := Aside0.mk (HP.out.below hb)
  replace HB := Aside0.mk (below_step HB.out hb)
  clear hb
  have HH := Aside0.mk hv
  clear hv
  go_wp2_with fail
  refine (novaculitelaw04_blunt.calls 2 2 true _ rfl).mono ?_
  rintro e w38 ⟨rfl, hb⟩
  replace HF := Aside0.mk (HF.out.below hb)
  replace HC := Aside0.mk (HC.out.below hb)
  replace HW := Aside0.mk (HW.out.below hb)
  replace HP := Aside0.mk (HP.out.below hb)
  replace HH := Aside0.mk (HH.out.below hb)
  replace HB := Aside0.mk (below_step HB.out hb)
  clear hb
  go_wp2_with fail
  refine (novaculitelaw04_sharp.calls 3 3 false _ rfl).mono ?_
  rintro e w40 ⟨rfl, hb⟩
  replace HF := Aside0.mk (HF.out.below hb)
  replace HC := Aside0.mk (HC.out.below hb)
  replace HW := Aside0.mk (HW.out.below hb)
  replace HP := Aside0.mk (HP.out.below hb)
  replace HH := Aside0.mk (HH.out.below hb)
  replace HB := Aside0.mk (below_step HB.out hb)
  clear hb
  go_wp2_with fail
  have HKn := Aside0.mk (R5.of (r5_lit w40 2 true 3 false))
  refine (c_known 6 HKn.out ev_known2).mono ?_
  rintro e w42 ⟨rfl, hk⟩
  have hb := (below_alloc (Below.refl _ _) _).trans (hk.mono (by simp))
  clear hk HKn
  replace HF := Aside0.mk (HF.out.below hb)
  replace HC := Aside0.mk (HC.out.below hb)
  replace HW := Aside0.mk (HW.out.below hb)
  replace HP := Aside0.mk (HP.out.below hb)
  replace HH := Aside0.mk (HH.out.below hb)
  replace HB := Aside0.mk (below_step HB.out hb)
  clear hb
  go_wp2_with (first | ((with_reducible refine gate_dst (N := 116) rfl ?_); refine Kd.R_lit (Kd.string) _ 9 ?hg (N := 116) ?hd (xs := ([⟨#[98]⟩] : List ByteArray)) (inner := [.string ⟨#[98]⟩]) (ok := fun _ => True) (okp := fun _ => True) ?hr ?hp (fun _ hk => hk) trivial (Below.refl _ _) (Nat.le_refl _) (by simp) ?_; (case hd => rfl); (case hg => rfl); (case hr => first | (go_simp; done) | (go_simp; rfl)); (case hp => exact (Reps.one (show Kd.M Kd.string _ _ _ ⟨#[98]⟩ [.string ⟨#[98]⟩] from rfl) (Reps.none _ _))); intro vS w43 ho hb hg_ hnew_; clear hg_ hnew_; have HS := Aside0.mk (RS.of ho); clear ho; have hb1 := hb; clear hb) | fail)
  replace HF := Aside0.mk (HF.out.below hb1)
  replace HC := Aside0.mk (HC.out.below hb1)
  replace HW := Aside0.mk (HW.out.below hb1)
  replace HP := Aside0.mk (HP.out.below hb1)
  replace HH := Aside0.mk (HH.out.below hb1)
  replace HB := Aside0.mk (below_step HB.out hb1)
  clear hb1
  refine (c_strs vS _).mono ?_
  rintro e w44 ⟨rfl, rfl⟩
  go_wp2_with fail
  refine (c_plan HS.out ev_plan2).mono ?_
  rintro e w46 ⟨vQ, rfl, hv, hb⟩
  replace HF := Aside0.mk (HF.out.below hb)
  replace HC := Aside0.mk (HC.out.below hb)
  replace HW := Aside0.mk (HW.out.below hb)
  replace HP := Aside0.mk (HP.out.below hb)
  replace HH := Aside0.mk (HH.out.below hb)
  replace HS := Aside0.mk (HS.out.below hb)
  replace HB := Aside0.mk (below_step HB.out hb)
  clear hb
  have HQ := Aside0.mk hv
  clear hv
  clear HS
  clear HQ
  go_wp2_with fail
  refine (c_A _).mono ?_
  rintro e w48 ⟨vA, rfl, hv, hb⟩
  replace HF := Aside0.mk (HF.out.below hb)
  replace HC := Aside0.mk (HC.out.below hb)
  replace HW := Aside0.mk (HW.out.below hb)
  replace HP := Aside0.mk (HP.out.below hb)
  replace HH := Aside0.mk (HH.out.below hb)
  replace HB := Aside0.mk (below_step HB.out hb)
  clear hb
  have HA := Aside0.mk hv
  clear hv
  go_wp2_with fail
  refine (c_same HF.out HA.out ev_same1).mono ?_
  rintro e w50 ⟨rfl, hb⟩
  replace HF := Aside0.mk (HF.out.below hb)
  replace HC := Aside0.mk (HC.out.below hb)
  replace HW := Aside0.mk (HW.out.below hb)
  replace HP := Aside0.mk (HP.out.below hb)
  replace HH := Aside0.mk (HH.out.below hb)
  replace HA := Aside0.mk (HA.out.below hb)
  replace HB := Aside0.mk (below_step HB.out hb)
  clear hb
  clear HA
  clear HF
  go_wp2_with fail
  have hb := below_alloc (Below.refl w50.heap.size w50) (.cells #[.int .i64 1, .int .i64 2, .int .i64 3] 3)
  replace HC := Aside0.mk (HC.out.below hb)
  replace HW := Aside0.mk (HW.out.below hb)
  replace HP := Aside0.mk (HP.out.below hb)
  replace HH := Aside0.mk (HH.out.below hb)
  replace HB := Aside0.mk (below_step HB.out hb)
  clear hb
  have HL := Aside0.mk (RI.of (r3_lit w50 1 2 3))
  refine (c_list _ _).mono ?_
  rintro e w52 ⟨rfl, rfl⟩
  go_wp2_with fail
  refine (c_same HC.out HL.out ev_same2).mono ?_
  rintro e w54 ⟨rfl, hb⟩
  replace HC := Aside0.mk (HC.out.below hb)
  replace HW := Aside0.mk (HW.out.below hb)
  replace HP := Aside0.mk (HP.out.below hb)
  replace HH := Aside0.mk (HH.out.below hb)
  replace HL := Aside0.mk (HL.out.below hb)
  replace HB := Aside0.mk (below_step HB.out hb)
  clear hb
  clear HL
  clear HC
  go_wp2_with fail
  have hb := below_alloc (Below.refl w54.heap.size w54) (.cells #[.string ⟨#[98, 98]⟩, .string ⟨#[98, 115]⟩, .string ⟨#[115, 98]⟩, .string ⟨#[115, 115]⟩] 9)
  replace HW := Aside0.mk (HW.out.below hb)
  replace HP := Aside0.mk (HP.out.below hb)
  replace HH := Aside0.mk (HH.out.below hb)
  replace HB := Aside0.mk (below_step HB.out hb)
  clear hb
  have HS := Aside0.mk (RS.of (s4_lit w54 ⟨#[98, 98]⟩ ⟨#[98, 115]⟩ ⟨#[115, 98]⟩ ⟨#[115, 115]⟩))
  refine (c_strs _ _).mono ?_
  rintro e w56 ⟨rfl, rfl⟩
  go_wp2_with fail
  refine (c_equal HW.out HS.out ev_equal).mono ?_
  rintro e w58 ⟨rfl, hb⟩
  replace HW := Aside0.mk (HW.out.below hb)
  replace HP := Aside0.mk (HP.out.below hb)
  replace HH := Aside0.mk (HH.out.below hb)
  replace HS := Aside0.mk (HS.out.below hb)
  replace HB := Aside0.mk (below_step HB.out hb)
  clear hb
  clear HS
  clear HW
  go_wp2_with fail
  have hb := below_alloc (Below.refl w58.heap.size w58) (.cells #[.int .i64 2, .int .i64 1, .int .i64 3] 3)
  replace HP := Aside0.mk (HP.out.below hb)
  replace HH := Aside0.mk (HH.out.below hb)
  replace HB := Aside0.mk (below_step HB.out hb)
  clear hb
  have HL := Aside0.mk (RI.of (r3_lit w58 2 1 3))
  refine (c_list _ _).mono ?_
  rintro e w60 ⟨rfl, rfl⟩
  go_wp2_with fail
  refine (c_same HP.out HL.out ev_same3).mono ?_
  rintro e w62 ⟨rfl, hb⟩
  replace HP := Aside0.mk (HP.out.below hb)
  replace HH := Aside0.mk (HH.out.below hb)
  replace HL := Aside0.mk (HL.out.below hb)
  replace HB := Aside0.mk (below_step HB.out hb)
  clear hb
  clear HL
  clear HP
  go_wp2_with fail
  have hb := below_alloc (Below.refl w62.heap.size w62) (.cells #[.int .i64 1, .int .i64 2, .int .i64 3] 3)
  replace HH := Aside0.mk (HH.out.below hb)
  replace HB := Aside0.mk (below_step HB.out hb)
  clear hb
  have HL := Aside0.mk (RI.of (r3_lit w62 1 2 3))
  refine (c_list _ _).mono ?_
  rintro e w64 ⟨rfl, rfl⟩
  go_wp2_with fail
  refine (c_same HH.out HL.out ev_same2).mono ?_
  rintro e w66 ⟨rfl, hb⟩
  replace HH := Aside0.mk (HH.out.below hb)
  replace HL := Aside0.mk (HL.out.below hb)
  replace HB := Aside0.mk (below_step HB.out hb)
  clear hb
  clear HL
  clear HH
  go_wp2_with fail
  have hb := below_alloc (Below.refl w66.heap.size w66) (.cells #[.int .i64 2, .int .i64 3, .int .i64 1] 3)
  replace HB := Aside0.mk (below_step HB.out hb)
  clear hb
  have HL := Aside0.mk (RI.of (r3_lit w66 2 3 1))
  refine (c_list _ _).mono ?_
  rintro e w68 ⟨rfl, rfl⟩
  go_wp2_with fail
  refine (c_check HL.out ev_check).mono ?_
  rintro e w70 ⟨rfl, hb⟩
  replace HL := Aside0.mk (HL.out.below hb)
  replace HB := Aside0.mk (below_step HB.out hb)
  clear hb
  clear HL
  go_wp2_with fail
  refine (c_A _).mono ?_
  rintro e w72 ⟨vA, rfl, hv, hb⟩
  replace HB := Aside0.mk (below_step HB.out hb)
  clear hb
  have HA := Aside0.mk hv
  clear hv
  go_wp2_with fail
  refine (c_proves 2 HA.out ev_proves).mono ?_
  rintro e w74 ⟨rfl, hb⟩
  replace HA := Aside0.mk (HA.out.below hb)
  replace HB := Aside0.mk (below_step HB.out hb)
  clear hb
  clear HA
  go_wp2_with fail
  have hb := below_alloc (Below.refl w74.heap.size w74) (.cells #[.int .i64 1, .int .i64 2, .int .i64 3] 3)
  replace HB := Aside0.mk (below_step HB.out hb)
  clear hb
  have HL := Aside0.mk (RI.of (r3_lit w74 1 2 3))
  refine (c_list _ _).mono ?_
  rintro e w76 ⟨rfl, rfl⟩
  go_wp2_with fail
  refine (c_proves 2 HL.out ev_proves2).mono ?_
  rintro e w78 ⟨rfl, hb⟩
  replace HL := Aside0.mk (HL.out.below hb)
  replace HB := Aside0.mk (below_step HB.out hb)
  clear hb
  clear HL
  go_wp2
  go_ret
  exact ⟨rfl, HB.out⟩
end Go.Proofs.YtengjaojkcokcaaGreatDoor.T
