/- Sorting at most twelve strings: the walks of slices.Sort and of slices.pdqsortOrdered, over the walk of the insertion sort. -/
import Derived.Test.YtengjaojkcokcaaGreatDoorTA
import Derived.Test.YtengjaojkcokcaaGreatDoorGShelf
namespace Go.Proofs.YtengjaojkcokcaaGreatDoor.T
open Go.RowKit Go.Proofs.YtengjaojkcokcaaGreatDoorW.PrintWords Go.Proofs.YtengjaojkcokcaaGreatDoorW.PrintLast Go.Proofs.YtengjaojkcokcaaGreatDoorW.PrintMore

def slices_Sort.f (l : List ByteArray) : Option (List ByteArray) := if l.length ≤ 12 then slices_insertionSortOrdered_string.f 300 l 0 (l.length : Int) else none
def SortPost (P : Nat → Prop) (u : Value) (r : List ByteArray) (w0 w : World) (e : Ending) (w' : World) : Prop :=
  e = .returned (.tuple #[]) ∧ Kd.R Kd.string 9 w' w0.heap.size (fun k => (P k ∨ w.heap.size ≤ k)) u r ∧ Below w0.heap.size w0 w' ∧ Kept w w' (fun k => P k)

set_option maxHeartbeats 2000000 in
set_option maxRecDepth 100000 in
theorem pdqsort_calls (P : Nat → Prop) (u : Value) (l r : List ByteArray) (n : Int) (w0 w : World) (hB : Below w0.heap.size w0 w) (ho : Kd.R Kd.string 9 w w0.heap.size P u l) (h : slices_Sort.f l = some r) :
    Calls Tryz.prog 10 #[u, .int .i64 0, .int .i64 l.length, .int .i64 n] w (SortPost P u r w0 w) := by
  unfold slices_Sort.f at h
  by_cases c : l.length ≤ 12
  case neg => rw [if_neg c] at h; cases h
  rw [if_pos c] at h
  have HB := Aside0.mk hB
  have HO := Aside0.mk ho
  have H := Aside0.mk h
  have hw : wrap64 (l.length : Int) = l.length := by unfold wrap64; omega
  have hw1 : IntKind.i64.wrap (l.length : Int) = l.length := (i64_w _).trans hw
  have c1 : decide ((l.length : Int) ≤ 12) = true := decide_eq_true (by omega)
  have c2 : (l.length ≤ 12) = True := eq_true c
  clear c hB ho h
  go_enter Tryz.func10, Tryz.ntmps10
  go_wp2
  go_loopw [1, 2] (fun v1 v2 w' => v1 = .int .i64 0 ∧ v2 = .int .i64 l.length ∧ w' = w) (fun _ _ _ => 0)
  case atStart => exact ⟨rfl, rfl, rfl⟩
  case round =>
    obtain ⟨rfl, rfl, rfl⟩ := hrel
    go_wp2_with fail
    refine (slices_insertionSortOrdered_string.calls 300 P u l 0 l.length r w0 _ HB.out HO.out H.out).mono ?_
    rintro e w1 ⟨rfl, h1, h2, h3⟩
    have H1 := Aside0.mk h1
    have H2 := Aside0.mk h2
    have H3 := Aside0.mk h3
    clear h1 h2 h3
    go_wp2
    go_end0
    exact ⟨rfl, H1.out, H2.out, H3.out⟩

set_option maxHeartbeats 2000000 in
set_option maxRecDepth 100000 in
theorem slices_Sort.calls (P : Nat → Prop) (A : Option Addr) (c : Nat) (l r : List ByteArray) (w0 w : World) (hB : Below w0.heap.size w0 w) (ho : Kd.R Kd.string 9 w w0.heap.size P (.slice A l.length c) l) (h : slices_Sort.f l = some r) :
    Calls Tryz.prog 4 #[.slice A l.length c] w (SortPost P (.slice A l.length c) r w0 w) := by
  have HB := Aside0.mk hB
  have HO := Aside0.mk ho
  have H := Aside0.mk h
  have HL : l.length ≤ 12 := by
    unfold slices_Sort.f at h
    by_cases c : l.length ≤ 12
    · exact c
    · rw [if_neg c] at h; cases h
  have hcv : IntKind.u64.wrap (l.length : Int) = l.length := by
    have : ((l.length : Int)) < 18446744073709551616 := by omega
    simp [IntKind.wrap, IntKind.signed, IntKind.bits]
    omega
  clear hB ho h
  go_enter Tryz.func4, Tryz.ntmps4
  go_wp2_with fail
  refine (Tryz.bits_Len _ _ (by omega) (by omega)).mono ?_
  rintro e w1 ⟨rfl, rfl⟩
  go_wp2_with fail
  refine (pdqsort_calls P _ l r _ w0 _ HB.out HO.out H.out).mono ?_
  rintro e w1 ⟨rfl, h1, h2, h3⟩
  have H1 := Aside0.mk h1
  have H2 := Aside0.mk h2
  have H3 := Aside0.mk h3
  clear h1 h2 h3
  go_wp2
  go_end0
  exact ⟨rfl, H1.out, H2.out, H3.out⟩
end Go.Proofs.YtengjaojkcokcaaGreatDoor.T
