/- The row: the law answers true for every input, and what it was handed reads as it did. -/
import Derived.Test.YtengjaojkcokcaaGreatDoorRows
import Derived.Test.YtengjaojkcokcaaGreatDoorGLaw
import Derived.ProofKit
import Derived.LaidMore
import Derived.OpenShut
import Derived.Stop.Joined
namespace Go.Proofs.YtengjaojkcokcaaGreatDoor.T
open Go.ChangeShapes Go.WideShapes Go.ChangeAt Go.RowKit

theorem own : ownKnob Tryz.prog.godebug = none := by kernel_rfl
theorem laidOut : laidOutB Tryz.prog = true := by kernel_rfl
theorem c22 : Tryz.prog.cellsOf 22 = 6 := by kernel_rfl
theorem c5 : Tryz.prog.cellsOf 5 = 1 := by kernel_rfl
abbrev laid2 : List (String × DataW Unit) := [("unicode/utf8.acceptRanges", Rows.laid_unicode_utf8_acceptRanges), ("unicode/utf8.first", Rows.laid_unicode_utf8_first)]

/-- A start: the heap that the door's run leaves, and Go's own table laid in its place. -/
noncomputable def start (os : Os) : World :=
  { World.doorLaid Tryz.prog 19 os with heap := (World.doorLaid Tryz.prog 19 os).heap.setIfInBounds 1 (.cells (Go.Pinned.utf8FirstZ.map (fun n : Nat => Value.int .u8 (Int.ofNat n))).toArray 136 (0, 0)) }

set_option maxRecDepth 100000 in
theorem door_met (os : Os) (args : Array Value) : laidMetH Tryz.prog laid2 ((start os).forCall (fun _ _ => 0) ⟨#[], args, []⟩).memory :=
  laidMetH_of_parts3 (fuel := 8) (laidMet_of_run' 8 (by kernel_rfl) (by kernel_rfl)) (by kernel_rfl) (by kernel_rfl)

set_option maxRecDepth 100000 in
theorem six_open {H : Type} {enc : TypeId × Value → H} {W : World} {base : Nat} {v : Value} {d : DataW H} {p : List MemPlace} (hv : Value.okWide Tryz.prog W .any base 22 v) (h : DataW.Trod enc Tryz.prog W 0 (fun _ => true) true 22 v d p) :
    ∃ x0 x1 x2 x3 x4 x5 : Int, v = .agg #[.int .u8 x0, .int .u8 x1, .int .u8 x2, .int .u8 x3, .int .u8 x4, .int .u8 x5] ∧ ∀ x ∈ [x0, x1, x2, x3, x4, x5], 0 ≤ x ∧ x < 256 := by
  simp only [Value.okWide, Tryz.underlying22] at hv
  obtain ⟨cs, rfl, h2, _⟩ := hv
  obtain ⟨fuel, hf⟩ := h
  obtain ⟨ys, m, rfl, hx, hl, hn, hel⟩ := DataW.trod_array Tryz.underlying22 hf
  rw [c22] at hl
  rw [c5] at hel
  obtain ⟨l⟩ := cs
  have hl' : l.length = 6 := hl
  have hel' : ∀ i, i < 6 → ∃ x : Int, (l.drop i).take 1 = [.int .u8 x] ∧ 0 ≤ x ∧ x < 256 := fun i hi => by
    have h1 := hel i hi
    have hi2 : i < ys.length := by omega
    rw [List.getElem?_eq_getElem hi2] at h1
    obtain ⟨k, e1, _, wk⟩ := DataW.trod_int Tryz.underlying5 h1
    rw [Nat.mul_one] at e1
    have e1' : (l.drop i).take 1 = [.int .u8 k] := e1
    have := bounds_u8 wk
    exact ⟨k, e1', by omega, by omega⟩
  match l, hl', hel' with
  | [a0, a1, a2, a3, a4, a5], _, hel' =>
    obtain ⟨x0, e0, b0⟩ := hel' 0 (by omega)
    obtain ⟨x1, e1, b1⟩ := hel' 1 (by omega)
    obtain ⟨x2, e2, b2⟩ := hel' 2 (by omega)
    obtain ⟨x3, e3, b3⟩ := hel' 3 (by omega)
    obtain ⟨x4, e4, b4⟩ := hel' 4 (by omega)
    obtain ⟨x5, e5, b5⟩ := hel' 5 (by omega)
    obtain rfl : a0 = .int .u8 x0 := (List.cons.inj e0).1
    obtain rfl : a1 = .int .u8 x1 := (List.cons.inj e1).1
    obtain rfl : a2 = .int .u8 x2 := (List.cons.inj e2).1
    obtain rfl : a3 = .int .u8 x3 := (List.cons.inj e3).1
    obtain rfl : a4 = .int .u8 x4 := (List.cons.inj e4).1
    obtain rfl : a5 = .int .u8 x5 := (List.cons.inj e5).1
    refine ⟨x0, x1, x2, x3, x4, x5, rfl, fun x hx => ?_⟩
    simp only [List.mem_cons, List.mem_nil_iff, or_false] at hx
    rcases hx with rfl | rfl | rfl | rfl | rfl | rfl <;> assumption

def noArgs : Array Value := #[.int .u8 0, .agg #[.int .u8 0, .int .u8 0, .int .u8 0, .int .u8 0, .int .u8 0, .int .u8 0], .agg #[.int .u8 0, .int .u8 0, .int .u8 0, .int .u8 0, .int .u8 0, .int .u8 0]]

set_option maxRecDepth 100000 in
theorem lifted (os : Os) (started : os.Started) (H : Type) (enc : TypeId × Value → H) :
    ReturnsInHanded {} Tryz.checked os 3 .any (fun w args => (Rows.trialSpelledSpec.pre enc Tryz.prog Tryz.f3 [] false w args ∧ laidMetH Tryz.prog laid2 w) ∧ sizedMet enc Tryz.prog Tryz.f3 (OpenSpec.ofChange Rows.trialSpelledSpec) false w args)
      (Rows.trialSpelledSpec.post enc Tryz.prog Tryz.f3 false true false false) := by
  refine returnsInHanded_of_change_and (C := Tryz.checked) (X := fun w _ => laidMetH Tryz.prog laid2 w) (fun _ _ _ hh h => h.of_heap hh) own started (by kernel_rfl) Tryz.func3
    (ChangeSpec.witness_shaped (enc := enc) (C := Tryz.checked) (os := os) (X := fun w _ => laidMetH Tryz.prog laid2 w) false (start os) noArgs 8 rfl (World.shaped_of_RefB (by kernel_rfl) (by kernel_rfl)) (by kernel_rfl) (by kernel_rfl) (by kernel_rfl) (door_met os _)) ?_
  intro W base args ds gs before hval0 hW _ _ _ _
  have hval : ∀ (j : Nat) t v, Tryz.f3.params[j]? = some t → args[j]? = some v → Value.okWide Tryz.prog W .any base t v := hval0
  have hW' := hW
  obtain ⟨p, q, hA0, hV, rfl, hfz, hnd⟩ := hW
  have hA : DataW.TrodAll enc Tryz.prog W 0 (fun _ => true) true Tryz.f3.params.toList args.toList ds p := hA0
  rw [Tryz.params3] at hA hval
  obtain ⟨v0, v1, v2, d0, d1, d2, p0, p1, p2, rfl, rfl, rfl, h0, h1, h2⟩ := trodAll_three hA
  obtain ⟨rfl, rfl⟩ := trodVars_none hV
  simp only [List.append_nil] at hW'
  have hlt : ∀ x ∈ p0 ++ (p1 ++ p2), x.block < W.heap.size := fun x hx => by simpa using hW'.lt x (by simpa [List.append_assoc] using hx)
  have h0k := h0
  have h1k := h1
  have h2k := h2
  obtain ⟨m, rfl, rfl, rfl, wm⟩ := open_int Tryz.underlying5 (hval 0 5 v0 rfl rfl) h0
  obtain ⟨s0, s1, s2, s3, s4, s5, rfl, hs⟩ := six_open (hval 1 22 v1 rfl rfl) h1
  obtain ⟨b0, b1, b2, b3, b4, b5, rfl, hb⟩ := six_open (hval 2 22 v2 rfl rfl) h2
  have bm := bounds_u8 wm
  clear hA0 hval0
  refine (law_walk m s0 s1 s2 s3 s4 s5 b0 b1 b2 b3 b4 b5 W ⟨by omega, by omega⟩ hs hb).mono fun e W' ⟨he, hbelow⟩ => ?_
  subst he
  exact ⟨_, rfl, _, _, _, [], [] ++ (p1 ++ p2), [], hW', trodAll_mk1 (shut_bool Tryz.underlying4 _),
    trodAll_mk3 (shut_int Tryz.underlying5 wm) (Below.trod laidOut (by kernel_rfl) (of_decide_eq_true (by kernel_rfl)) h1k hbelow (fun x hx => hlt x (by simp [hx]))) (Below.trod laidOut (by kernel_rfl) (of_decide_eq_true (by kernel_rfl)) h2k hbelow (fun x hx => hlt x (by simp [hx]))),
    rfl, hbelow.frame _, fun h => by cases h⟩
end Go.Proofs.YtengjaojkcokcaaGreatDoor.T
