/- The word of a hardness: the walks of trial.word, trial.follow and the function literal that word hands on. -/
import Derived.Test.YtengjaojkcokcaaGreatDoorTA
import Derived.Test.YtengjaojkcokcaaGreatDoorGShelf
namespace Go.Proofs.YtengjaojkcokcaaGreatDoor.T
open Go.RowKit Go.Proofs.YtengjaojkcokcaaGreatDoorW.PrintWords Go.Proofs.YtengjaojkcokcaaGreatDoorW.PrintLast Go.Proofs.YtengjaojkcokcaaGreatDoorW.PrintMore

set_option maxHeartbeats 400000 in
theorem word1_blunt (B b : Nat) (bs : List Value) (l : Int) (w : World) (hI : Lib.IsBuilder 109 5 B b bs w) (hlen : bs.length + 1 ≤ 140737488355328) (hB : B ≤ w.heap.size) :
    Calls Tryz.prog 85 #[.int .i64 l, .bool true, .pointer (some ⟨b, 0, none⟩)] w fun e w' => e = .returned (.tuple #[]) ∧ Lib.BuilderAt 109 5 B b (.pointer (some ⟨b, 0, none⟩)) (bs ++ [.int .u8 98]) w' ∧ Below B w w' := by
  go_enter Tryz.func85, Tryz.ntmps85
  go_wp2_with fail
  refine (Tryz.Builder_WriteByte B b bs _ _ hI hlen hB).mono ?_
  rintro e w' ⟨rfl, h1, h2⟩
  go_wp2
  go_end0
  exact ⟨rfl, h1, h2⟩

set_option maxHeartbeats 400000 in
theorem word1_sharp (B b : Nat) (bs : List Value) (l : Int) (w : World) (hI : Lib.IsBuilder 109 5 B b bs w) (hlen : bs.length + 1 ≤ 140737488355328) (hB : B ≤ w.heap.size) :
    Calls Tryz.prog 85 #[.int .i64 l, .bool false, .pointer (some ⟨b, 0, none⟩)] w fun e w' => e = .returned (.tuple #[]) ∧ Lib.BuilderAt 109 5 B b (.pointer (some ⟨b, 0, none⟩)) (bs ++ [.int .u8 115]) w' ∧ Below B w w' := by
  go_enter Tryz.func85, Tryz.ntmps85
  go_wp2_with fail
  refine (Tryz.Builder_WriteByte B b bs _ _ hI hlen hB).mono ?_
  rintro e w' ⟨rfl, h1, h2⟩
  go_wp2
  go_end0
  exact ⟨rfl, h1, h2⟩

/-- What follow tells, as bytes: 'b' and 's'. -/
def follow_l : Nat → List Int → Int → Int → Int → Int → List UInt8 → Option (List UInt8)
  | 0, _, _, _, _, _, _ => none
  | k + 1, l, h, lo, hi, i, acc =>
    if i < (l.length : Int) then
      if 0 ≤ i then
        if rd l i ≤ lo then follow_l k l h lo hi (wrap64 (i + 1)) acc
        else if hi < rd l i then follow_l k l h lo hi (wrap64 (i + 1)) acc
        else if acc.length < 1000 then
          if h < rd l i then follow_l k l h lo (wrap64 (rd l i - 1)) (wrap64 (i + 1)) (acc ++ [98])
          else follow_l k l h (rd l i) hi (wrap64 (i + 1)) (acc ++ [115])
        else none
      else none
    else some acc
def follow_f (l : List Int) (h : Int) : Option (List UInt8) := follow_l 1000 l h 0 (l.length : Int) 0 []
def trial_word.f (l : List Int) (h : Int) : Option ByteArray := (follow_f l h).bind fun x => some ⟨x.toArray⟩

theorem byteCells_snoc (acc : List UInt8) (c : UInt8) (n : Int) (h : (c.toNat : Int) = n) : Lib.byteCells acc ++ [.int .u8 n] = Lib.byteCells (acc ++ [c]) := by
  subst h; simp [Lib.byteCells]
theorem byteCells_len (acc : List UInt8) : (Lib.byteCells acc).length = acc.length := by simp [Lib.byteCells]

set_option maxHeartbeats 4000000 in
set_option maxRecDepth 100000 in
theorem follow_calls (A0 : Option Addr) (c0 : Nat) (l : List Int) (h : Int) (b : Nat) (r : List UInt8) (w0 w : World) (hr0 : Kd.C (Kd.int .i64) w0 A0 l.length l) (hc0 : l.length ≤ c0)
    (hB : Below w0.heap.size w0 w) (hI : Lib.IsBuilder 109 5 w0.heap.size b (Lib.byteCells []) w) (hf : follow_f l h = some r) :
    Calls Tryz.prog 84 #[.slice A0 l.length c0, .int .i64 h, .func (.func 85) #[] #[.pointer (some ⟨b, 0, none⟩)]] w fun e w' => e = .returned (.tuple #[]) ∧ Lib.IsBuilder 109 5 w0.heap.size b (Lib.byteCells r) w' ∧ Below w0.heap.size w0 w' := by
  have HR0 := Aside0.mk hr0
  have HC0 := Aside0.mk hc0
  have HB := Aside0.mk hB
  have HI := Aside0.mk hI
  clear hr0 hc0 hB hI
  have H : follow_l 1000 l h 0 (l.length : Int) 0 [] = some r := hf
  clear hf
  have H' := Aside0.mk H
  clear H
  go_enter Tryz.func84, Tryz.ntmps84
  go_wp2
  go_loopg [6, 7, 15] 1000 (fun kq v6 v7 v15 w' => ∃ (lo hi i : Int) (acc : List UInt8), v6 = .int .i64 lo ∧ v7 = .int .i64 hi ∧ v15 = .int .i64 i ∧ Aside0 (follow_l kq l h lo hi i acc = some r) ∧ Aside0 (kq ≤ 1000) ∧ Aside0 (Lib.IsBuilder 109 5 w0.heap.size b (Lib.byteCells acc) w') ∧ Aside0 (Below w0.heap.size w0 w'))
  case atStart => exact ⟨0, (l.length : Int), 0, [], rfl, rfl, rfl, H', ⟨Nat.le_refl _⟩, HI, HB⟩
  case round =>
    clear H' HI HB
    obtain ⟨lo, hi, i, acc, rfl, rfl, rfl, HA, HK1, HI, HB⟩ := hrel
    cases gk with
    | zero => exact absurd HA.out (by simp [follow_l])
    | succ k1 =>
      have H := HA.out
      clear HA
      simp only [follow_l] at H
      by_cases c3 : i < (l.length : Int)
      · rw [if_pos c3] at H
        have c3b0 : decide (i < (l.length : Int)) = true := decide_eq_true c3
        by_cases c4 : 0 ≤ i
        · rw [if_pos c4] at H
          obtain ⟨ad, ea, hx⟩ := Kd.at_int (Kd.C_below HR0.out HB.out) i c4 c3
          cases ea
          have c4b0 : decide (0 ≤ i) = true := decide_eq_true c4
          replace c3 := eq_true c3
          replace c4 := eq_true c4
          obtain ⟨x, hxl⟩ : ∃ x, x = rd l i := ⟨_, rfl⟩
          rw [← hxl] at H hx
          clear hxl
          by_cases c5 : x ≤ lo
          · rw [if_pos c5] at H
            have c5b0 : decide (x ≤ lo) = true := decide_eq_true c5
            clear c5
            have H' := Aside0.mk H
            clear H
            go_wp2
            go_roundg k1
            case measure => have := HK1.out; omega
            case rel => exact ⟨lo, hi, _, acc, rfl, rfl, rfl, H', ⟨by have := HK1.out; omega⟩, HI, HB⟩
          · rw [if_neg c5] at H
            have c5b0 : decide (x ≤ lo) = false := decide_eq_false c5
            clear c5
            by_cases c6 : hi < x
            · rw [if_pos c6] at H
              have c6b0 : decide (hi < x) = true := decide_eq_true c6
              clear c6
              have H' := Aside0.mk H
              clear H
              go_wp2
              go_roundg k1
              case measure => have := HK1.out; omega
              case rel => exact ⟨lo, hi, _, acc, rfl, rfl, rfl, H', ⟨by have := HK1.out; omega⟩, HI, HB⟩
            · rw [if_neg c6] at H
              have c6b0 : decide (hi < x) = false := decide_eq_false c6
              clear c6
              by_cases c7 : acc.length < 1000
              · rw [if_pos c7] at H
                have HL := Aside0.mk c7
                clear c7
                by_cases c8 : h < x
                · rw [if_pos c8] at H
                  have c8b0 : decide (h < x) = true := decide_eq_true c8
                  clear c8
                  have H' := Aside0.mk H
                  clear H
                  go_wp2_with fail
                  refine (word1_blunt w0.heap.size b _ _ _ HI.out (by rw [byteCells_len]; have := HL.out; omega) (HB.out.size)).mono ?_
                  rintro e w1 ⟨rfl, h1, h2⟩
                  have HI1 := Aside0.mk (show Lib.IsBuilder 109 5 w0.heap.size b (Lib.byteCells (acc ++ [98])) w1 from Or.inr (by rw [← byteCells_snoc acc 98 98 rfl]; exact h1))
                  have HB1 := Aside0.mk (HB.out.trans h2)
                  clear h1 h2 HI HB
                  go_wp2
                  go_roundg k1
                  case measure => have := HK1.out; omega
                  case rel => exact ⟨lo, _, _, _, rfl, rfl, rfl, H', ⟨by have := HK1.out; omega⟩, HI1, HB1⟩
                · rw [if_neg c8] at H
                  have c8b0 : decide (h < x) = false := decide_eq_false c8
                  clear c8
                  have H' := Aside0.mk H
                  clear H
                  go_wp2_with fail
                  refine (word1_sharp w0.heap.size b _ _ _ HI.out (by rw [byteCells_len]; have := HL.out; omega) (HB.out.size)).mono ?_
                  rintro e w1 ⟨rfl, h1, h2⟩
                  have HI1 := Aside0.mk (show Lib.IsBuilder 109 5 w0.heap.size b (Lib.byteCells (acc ++ [115])) w1 from Or.inr (by rw [← byteCells_snoc acc 115 115 rfl]; exact h1))
                  have HB1 := Aside0.mk (HB.out.trans h2)
                  clear h1 h2 HI HB
                  go_wp2
                  go_roundg k1
                  case measure => have := HK1.out; omega
                  case rel => exact ⟨_, hi, _, _, rfl, rfl, rfl, H', ⟨by have := HK1.out; omega⟩, HI1, HB1⟩
              · rw [if_neg c7] at H
                exact absurd H (by simp)
        · rw [if_neg c4] at H
          exact absurd H (by simp)
      · rw [if_neg c3] at H
        have c3b0 : decide (i < (l.length : Int)) = false := decide_eq_false c3
        clear c3
        obtain rfl := Option.some.inj H
        clear H
        go_wp2
        go_end0
        exact ⟨rfl, HI.out, HB.out⟩

set_option maxHeartbeats 1000000 in
set_option maxRecDepth 100000 in
theorem trial_word.calls (A0 : Option Addr) (c0 : Nat) (l0 : List Int) (a1 : Int) (r : ByteArray) (w : World) (hr0 : Kd.C (Kd.int .i64) w A0 l0.length l0) (hc0 : l0.length ≤ c0) (h : trial_word.f l0 a1 = some r) :
    Calls Tryz.prog 59 #[.slice A0 l0.length c0, .int .i64 a1] w fun e w' => e = .returned (.string r) ∧ Below w.heap.size w w' := by
  obtain ⟨x, hx, hr⟩ := Option.bind_eq_some_iff.mp h
  have HX := Aside0.mk hx
  obtain rfl := Option.some.inj hr
  clear h hx hr
  have HR0 := Aside0.mk hr0
  have HC0 := Aside0.mk hc0
  clear hr0 hc0
  go_enter Tryz.func59, Tryz.ntmps59
  go_wp2_with fail
  refine (follow_calls A0 c0 l0 a1 _ x w _ HR0.out HC0.out ((Below.refl w.heap.size w).alloc (Nat.le_refl _) _) (Lib.fresh_isBuilder 109 5 w) HX.out).mono ?_
  rintro e w1 ⟨rfl, h1, h2⟩
  have HI := Aside0.mk h1
  have HB := Aside0.mk h2
  clear h1 h2
  go_wp2_with fail
  refine (Tryz.Builder_String_any _ _ x _ HI.out HB.out.size).mono ?_
  rintro e w2 ⟨rfl, h2⟩
  have HB2 := Aside0.mk (HB.out.trans h2)
  clear h2 HB HI
  go_wp2
  go_ret
  exact ⟨rfl, HB2.out⟩
end Go.Proofs.YtengjaojkcokcaaGreatDoor.T
