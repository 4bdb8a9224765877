/- The trials that single out each word of a list: the walks of trial.Plan and of the function literal in it. -/
import Derived.Test.YtengjaojkcokcaaGreatDoorGRead
import Derived.Test.YtengjaojkcokcaaGreatDoorGCheap
namespace Go.Proofs.YtengjaojkcokcaaGreatDoor.T
open Go.RowKit Go.Proofs.YtengjaojkcokcaaGreatDoorW.PrintWords Go.Proofs.YtengjaojkcokcaaGreatDoorW.PrintLast Go.Proofs.YtengjaojkcokcaaGreatDoorW.PrintMore

def sAt (s : ByteArray) (i : Int) : Int := ((s.data.toList.getD i.toNat 0).toNat : Int)
def plan_s : Nat → List ByteArray → Int → Int → Option Int
  | 0, _, _, _ => none
  | k + 1, l, at_, i =>
    if 0 ≤ i then if i < (l.length : Int) then
      if 0 ≤ at_ then if at_ < ((rdOf ByteArray.empty l i).size : Int) then
        if sAt (rdOf ByteArray.empty l i) at_ = 98 then plan_s k l at_ (wrap64 (i + 1)) else some i
      else none else none
    else none else none
def plan_f : Nat → List ByteArray → Int → Int → Int → List Int → Option (List Int)
  | 0, _, _, _, _, _ => none
  | k + 1, l, lo, hi, at_, out =>
    if lo = hi then some out else
      (plan_s 100 l at_ lo).bind fun x =>
        if out.length < 1000 then
          (plan_f k l lo (wrap64 (x - 1)) (wrap64 (at_ + 1)) (out ++ [x])).bind fun o1 => plan_f k l x hi (wrap64 (at_ + 1)) o1
        else none

theorem sAt_run (s : ByteArray) (i : Int) (h0 : 0 ≤ i) (h1 : i < (s.size : Int)) (W : World) : (Instr.index 9 (.string s) (.int .i64 i)).run Tryz.prog W = .ok (.int .u8 (sAt s i)) W := by
  rw [run_index_string W 9 s .i64 i Tryz.underlying9, dif_pos ⟨h0, h1⟩]
  have hl : i.toNat < s.data.toList.length := by have : s.data.toList.length = s.size := by simp
                                                 omega
  have : s.data.toList.getD i.toNat 0 = s[i.toNat]'(by omega) := by
    rw [List.getD_eq_getElem?_getD, List.getElem?_eq_getElem hl]
    rfl
  simp only [sAt, this]

/-- What the literal of Plan finds in memory: three variables of one cell, and the row that it builds. -/
structure PS (base bw bo bp : Nat) (vw : Value) (out : List Int) (w : World) : Prop where
  hw : w.heap[bw]? = some (.cells #[vw] 23 (0, 0))
  hp : w.heap[bp]? = some (.cells #[.func (.func 13) #[] #[.pointer (some ⟨bw, 0, none⟩), .pointer (some ⟨bo, 0, none⟩), .pointer (some ⟨bp, 0, none⟩)]] 39 (0, 0))
  ho : ∃ vout, w.heap[bo]? = some (.cells #[vout] 25 (0, 0)) ∧ Kd.R (Kd.int .i64) 3 w base (fun k => k ≠ bw ∧ k ≠ bo ∧ k ≠ bp) vout out
  ne : bo ≠ bw ∧ bo ≠ bp ∧ base ≤ bo

theorem PS.below {base bw bo bp : Nat} {vw : Value} {out : List Int} {w w' : World} (h : PS base bw bo bp vw out w) (hB : Below w.heap.size w w') : PS base bw bo bp vw out w' := by
  obtain ⟨vout, h1, h2⟩ := h.ho
  exact ⟨(hB.block _ (lt_of_blk h.hw)).trans h.hw, (hB.block _ (lt_of_blk h.hp)).trans h.hp, ⟨vout, (hB.block _ (lt_of_blk h1)).trans h1, Kd.R_below h2 hB⟩, h.ne⟩

theorem PS.more {base bw bo bp : Nat} {vw vout v1 : Value} {out out1 : List Int} {w w1 : World} (h : PS base bw bo bp vw out w) (h1 : w.heap[bo]? = some (.cells #[vout] 25 (0, 0)))
    (h2 : Kd.R (Kd.int .i64) 3 w base (fun k => k ≠ bw ∧ k ≠ bo ∧ k ≠ bp) vout out)
    (hg : w.grownBy w1 vout.ownBlock) (hR : Kd.R (Kd.int .i64) 3 w1 base (fun k => k ≠ bw ∧ k ≠ bo ∧ k ≠ bp) v1 out1) :
    PS base bw bo bp vw out1 (w1.setCell ⟨bo, 0, none⟩ v1) := by
  have k2 := h2.1
  have hne : ∀ b, (∀ k, vout.ownBlock = some k → k ≠ b) → some b ≠ vout.ownBlock := fun b hk e => hk b e.symm rfl
  have e1 : w1.heap[bo]? = some (.cells #[vout] 25 (0, 0)) := (hg.block _ (lt_of_blk h1) (hne _ fun k hk => (k2 k hk).2.1)).trans h1
  have hs := grownBy_setCell w1 bo 0 v1
  have ob : ∀ (b : Nat) (o : Obj), w.heap[b]? = some o → b ≠ bo → some b ≠ vout.ownBlock → (w1.setCell ⟨bo, 0, none⟩ v1).heap[b]? = some o := fun b o hb hbo hv =>
    (hs.block b (Nat.lt_of_lt_of_le (lt_of_blk hb) hg.size) (fun e => hbo (by injection e))).trans ((hg.block b (lt_of_blk hb) hv).trans hb)
  refine ⟨ob _ _ h.hw h.ne.1.symm (hne _ fun k hk => (k2 k hk).1), ob _ _ h.hp h.ne.2.1.symm (hne _ fun k hk => (k2 k hk).2.2), ⟨v1, blk_setCell e1, ?_⟩, h.ne⟩
  exact Kd.R_grown hR hs (fun k hk e => hk.2.1 (by injection e))

def PlanPost (bw bo bp : Nat) (vw : Value) (r : List Int) (w0 : World) (e : Ending) (w' : World) : Prop :=
  e = .returned (.tuple #[]) ∧ PS w0.heap.size bw bo bp vw r w' ∧ Below w0.heap.size w0 w'

set_option maxHeartbeats 8000000 in
set_option maxRecDepth 100000 in
theorem plan1_calls (bw bo bp : Nat) (A0 : Option Addr) (c0 : Nat) (l : List ByteArray) (w0 : World) (hr0 : Kd.C Kd.string w0 A0 l.length l) (hc0 : l.length ≤ c0) : ∀ (k : Nat) (lo hi at_ : Int) (out r : List Int) (w : World), Below w0.heap.size w0 w →
    PS w0.heap.size bw bo bp (.slice A0 l.length c0) out w → plan_f k l lo hi at_ out = some r →
    Calls Tryz.prog 13 #[.int .i64 lo, .int .i64 hi, .int .i64 at_, .pointer (some ⟨bw, 0, none⟩), .pointer (some ⟨bo, 0, none⟩), .pointer (some ⟨bp, 0, none⟩)] w
      (PlanPost bw bo bp (.slice A0 l.length c0) r w0) := by
  have HR := Aside0.mk hr0
  have HC := Aside0.mk hc0
  clear hr0 hc0
  intro k
  induction k with
  | zero => intro lo hi at_ out r w _ _ h; simp [plan_f] at h
  | succ k ih =>
    intro lo hi at_ out r w hB hS h
    have IH := Aside0.mk (fun lo hi at_ out r w a b c => ih lo hi at_ out r w a b c)
    clear ih
    have HB := Aside0.mk hB
    have HS := Aside0.mk hS
    clear hB hS
    simp only [plan_f] at h
    by_cases c : lo = hi
    · rw [if_pos c] at h
      obtain rfl := Option.some.inj h
      clear h
      have cb : (lo == hi) = true := beq_iff_eq.mpr c
      clear c
      go_enter Tryz.func13, Tryz.ntmps13
      go_wp2
      go_end0
      exact ⟨rfl, HS.out, HB.out⟩
    · rw [if_neg c] at h
      have cb : (lo == hi) = false := beq_eq_false_iff_ne.mpr c
      clear c
      obtain ⟨x, hx, h⟩ := Option.bind_eq_some_iff.mp h
      have H := Aside0.mk h
      have HX := Aside0.mk hx
      clear h hx
      go_enter Tryz.func13, Tryz.ntmps13
      go_wp2
      go_loopg [9] 100 (fun kq v9 w' => ∃ (y : Int), v9 = .int .i64 y ∧ Aside0 (plan_s kq l at_ y = some x) ∧ Aside0 (kq ≤ 100) ∧ Aside0 (PS w0.heap.size bw bo bp (.slice A0 l.length c0) out w') ∧ Aside0 (Below w0.heap.size w0 w'))
      case atStart => exact ⟨_, rfl, HX, ⟨Nat.le_refl _⟩, HS, HB⟩
      case round =>
        clear HX HS HB
        obtain ⟨y, rfl, HA, HK1, HS, HB⟩ := hrel
        have fw := cell_of_blk' HS.out.hw 0
        have fp := cell_of_blk' HS.out.hp 0
        simp at fw fp
        cases gk with
        | zero => exact absurd HA.out (by simp [plan_s])
        | succ k1 =>
          have G := HA.out
          clear HA
          simp only [plan_s] at G
          by_cases d1 : 0 ≤ y
          case neg => rw [if_neg d1] at G; cases G
          rw [if_pos d1] at G
          by_cases d2 : y < (l.length : Int)
          case neg => rw [if_neg d2] at G; cases G
          rw [if_pos d2] at G
          by_cases d3 : 0 ≤ at_
          case neg => rw [if_neg d3] at G; cases G
          rw [if_pos d3] at G
          by_cases d4 : at_ < ((rdOf ByteArray.empty l y).size : Int)
          case neg => rw [if_neg d4] at G; cases G
          rw [if_pos d4] at G
          obtain ⟨ad, ea, hx1⟩ := Kd.at_string (Kd.C_below HR.out HB.out) y d1 d2
          cases ea
          obtain ⟨s, hs⟩ : ∃ s, s = rdOf ByteArray.empty l y := ⟨_, rfl⟩
          rw [← hs] at d4 hx1 G
          clear hs
          have hix := sAt_run s at_ d3 d4
          obtain ⟨b, hb⟩ : ∃ b, b = sAt s at_ := ⟨_, rfl⟩
          rw [← hb] at hix G
          clear hb d3 d4
          replace d1 := eq_true d1
          replace d2 := eq_true d2
          by_cases c2 : b = 98
          · rw [if_pos c2] at G
            have c2b : (b == 98) = true := beq_iff_eq.mpr c2
            clear c2
            have G' := Aside0.mk G
            clear G
            go_wp2
            go_roundg k1
            case measure => have := HK1.out; omega
            case rel => exact ⟨_, rfl, G', ⟨by have := HK1.out; omega⟩, HS, HB⟩
          · rw [if_neg c2] at G
            have c2b : (b == 98) = false := beq_eq_false_iff_ne.mpr c2
            clear c2
            obtain rfl := Option.some.inj G
            clear G
            have H1 := H.out
            clear H
            by_cases cl : out.length < 1000
            case neg => rw [if_neg cl] at H1; cases H1
            rw [if_pos cl] at H1
            have HL := Aside0.mk cl
            clear cl
            obtain ⟨l1, hl1, hl2⟩ := Option.bind_eq_some_iff.mp H1
            have HL1 := Aside0.mk hl1
            have HL2 := Aside0.mk hl2
            clear H1 hl1 hl2
            obtain ⟨vout, ho1, ho2⟩ := HS.out.ho
            have HO1 := Aside0.mk ho1
            have HO2 := Aside0.mk ho2
            clear ho1 ho2
            have fo := cell_of_blk' HO1.out 0
            simp at fo
            have HF := Aside0.mk (show ∀ k, wr.heap.size ≤ k → k ≠ bw ∧ k ≠ bo ∧ k ≠ bp from fun k hk => by
              have q1 := lt_of_blk HS.out.hw
              have q4 := lt_of_blk HS.out.hp
              have q5 := lt_of_blk HO1.out
              exact ⟨by omega, by omega, by omega⟩)
            go_wp2_with (first | (at_builtin; go_loud (refine Kd.R_append (Kd.int .i64) (w0 := w0) w0.heap.size rfl (.tmp 23) (.tmp 25) 25 3 (.int .i64 0) 8 rfl Tryz.underlying25 info3 rfl (by decide) (by omega) vout out y [.int .i64 y] (fun k => k ≠ bw ∧ k ≠ bo ∧ k ≠ bp) (fun _ => False) rfl rfl ?aPv (fun _ hk => hk.elim) ?aFv ?aOv ?aBv ?aSv ?aLv ?_; (case aPv => exact rfl); (case aBv => exact HB.out); (case aFv => exact HF.out); (case aOv => exact HO2.out); (case aSv => exact HB.out.size); (case aLv => have := HL.out; omega); intro v1 w2 hoo hbb hg hat; obtain ⟨Av, cv, ev⟩ := Kd.R_slice hoo; obtain ⟨nv, env⟩ : ∃ n : Nat, (out ++ [y]).length = n := ⟨_, rfl⟩; rw [env] at ev; subst ev; clear env; have HS2 := Aside0.mk (PS.more HS.out HO1.out HO2.out hg hoo); have hbo2 := Aside0.mk ((hg.block bo (lt_of_blk HO1.out) (fun e => (HO2.out.1 bo e.symm).2.1 rfl)).trans HO1.out); have g1 := cell_of_blk' hbo2.out 0; simp at g1; have g2 := frozen_of_blk hbo2.out 0; have HB2 := Aside0.mk (hbb.setCell (show w0.heap.size ≤ (⟨bo, 0, none⟩ : Addr).block from HS.out.ne.2.2) (.slice Av nv cv)); clear hoo hbb hg hat; have f2w := cell_of_blk' HS2.out.hw 0; have f2p := cell_of_blk' HS2.out.hp 0; simp at f2w f2p)) | fail)
            refine (IH.out _ _ _ _ _ _ HB2.out HS2.out HL1.out).mono ?_
            rintro e w4 ⟨rfl, h4, h5⟩
            have HS4 := Aside0.mk h4
            have HB4 := Aside0.mk h5
            clear h4 h5 f2w f2p
            have f4w := cell_of_blk' HS4.out.hw 0
            have f4p := cell_of_blk' HS4.out.hp 0
            simp at f4w f4p
            go_wp2_with fail
            refine (IH.out _ _ _ _ _ _ HB4.out HS4.out HL2.out).mono ?_
            rintro e w6 ⟨rfl, h6, h7⟩
            have HS6 := Aside0.mk h6
            have HB6 := Aside0.mk h7
            clear h6 h7
            go_wp2
            go_end0
            exact ⟨rfl, HS6.out, HB6.out⟩

def trial_Plan.f (l : List ByteArray) : Option (List Int × Int) :=
  (trial_read.f l).bind fun e => if e = 0 then (plan_f 20 l 0 (wrap64 ((l.length : Int) - 1)) 0 []).bind fun o => some (o, 0) else some ([], e)

theorem plan_start (w w2 : World) (vw : Value) (h1 : w2.heap[w.heap.size]? = some (.cells #[vw] 23 (0, 0))) :
    PS w.heap.size w.heap.size w2.heap.size (w2.heap.size + 1) vw []
      ((w2.alloc (.cells #[.slice none 0 0] 25)).alloc (.cells #[.func (.func 13) #[] #[.pointer (some ⟨w.heap.size, 0, none⟩), .pointer (some ⟨w2.heap.size, 0, none⟩), .pointer (some ⟨w2.heap.size + 1, 0, none⟩)]] 39)) := by
  have q1 := lt_of_blk h1
  have hB : ∀ O1 O2 : Obj, Below w2.heap.size w2 ((w2.alloc O1).alloc O2) := fun O1 O2 => below_alloc (below_alloc (Below.refl _ _) _) _
  have hnew : ∀ O1 O2 : Obj, ((w2.alloc O1).alloc O2).heap[w2.heap.size]? = some O1 ∧ ((w2.alloc O1).alloc O2).heap[w2.heap.size + 1]? = some O2 := by
    intro O1 O2
    refine ⟨?_, ?_⟩
    · exact ((below_alloc (Below.refl (w2.alloc O1).heap.size (w2.alloc O1)) O2).block w2.heap.size (by simp)).trans (heap_alloc_new w2 O1)
    · have := heap_alloc_new (w2.alloc O1) O2
      simpa using this
  exact ⟨((hB _ _).block _ q1).trans h1, (hnew _ _).2, ⟨_, (hnew _ _).1, Kd.R_nil _ _ _ _ _⟩, by omega, by omega, by omega⟩

set_option maxHeartbeats 2000000 in
set_option maxRecDepth 100000 in
theorem trial_Plan.calls (A0 : Option Addr) (c0 : Nat) (l : List ByteArray) (r1 : List Int) (r2 : Int) (w : World) (hr0 : Kd.C Kd.string w A0 l.length l) (hc0 : l.length ≤ c0) (h : trial_Plan.f l = some (r1, r2)) :
    Calls Tryz.prog 5 #[.slice A0 l.length c0] w fun e w' => ∃ v0_ : Value, e = .returned (.tuple #[v0_, .int .i64 r2]) ∧ Kd.R (Kd.int .i64) 3 w' w.heap.size (fun _ => True) v0_ r1 ∧ Below w.heap.size w w' := by
  obtain ⟨e0, ht, h⟩ := Option.bind_eq_some_iff.mp h
  have HT := Aside0.mk ht
  have HR := Aside0.mk hr0
  have HC := Aside0.mk hc0
  clear ht hr0 hc0
  have HR1 := Aside0.mk (show Kd.C Kd.string (w.alloc (.cells #[.slice A0 l.length c0] 23)) A0 l.length l from Kd.C_alloc HR.out _)
  by_cases c : e0 = 0
  · rw [if_pos c] at h
    subst c
    obtain ⟨o, ho, h⟩ := Option.bind_eq_some_iff.mp h
    have HO := Aside0.mk ho
    simp only [Option.some.injEq, Prod.mk.injEq] at h
    obtain ⟨rfl, rfl⟩ := h
    clear ho
    go_enter Tryz.func5, Tryz.ntmps5
    go_wp2_with fail
    refine (trial_read.calls A0 c0 l 0 _ HR1.out HC.out HT.out).mono ?_
    rintro e w1 ⟨rfl, h1⟩
    have HB1 := Aside0.mk h1
    clear h1
    have b1 := Aside0.mk ((HB1.out.block w.heap.size (by simp)).trans (heap_alloc_new w (.cells #[.slice A0 l.length c0] 23)))
    have c1 := cell_of_blk' b1.out 0
    simp at c1
    have HP := Aside0.mk (plan_start w w1 _ b1.out)
    have HBW := Aside0.mk (show Below w.heap.size w w1 from (below_alloc (Below.refl _ _) _).trans (HB1.out.mono (by simp)))
    have c2 := cell_of_blk' HP.out.hw 0
    simp at c2
    go_wp2_with fail
    refine (plan1_calls w.heap.size w1.heap.size (w1.heap.size + 1) A0 c0 l w HR.out HC.out 20 0 _ 0 [] o _ (below_alloc (below_alloc HBW.out _) _) HP.out HO.out).mono ?_
    rintro e w3 ⟨rfl, h4, h5⟩
    obtain ⟨vout, ho1, ho2⟩ := h4.ho
    have HRO := Aside0.mk ho2
    have fo := cell_of_blk' ho1 0
    simp at fo
    have HB3 := Aside0.mk h5
    obtain ⟨Av, cv, ev⟩ := Kd.R_slice ho2
    subst ev
    clear ho1 ho2 h4 h5
    go_wp2
    go_ret2
    exact ⟨_, rfl, Kd.R_mono HRO.out (fun _ _ => trivial), HB3.out⟩
  · rw [if_neg c] at h
    have cb : (e0 == 0) = false := beq_eq_false_iff_ne.mpr c
    have cb1 : (e0 != 0) = true := bne_iff_ne.mpr c
    simp only [Option.some.injEq, Prod.mk.injEq] at h
    obtain ⟨rfl, rfl⟩ := h
    clear c
    go_enter Tryz.func5, Tryz.ntmps5
    go_wp2_with fail
    refine (trial_read.calls A0 c0 l e0 _ HR1.out HC.out HT.out).mono ?_
    rintro e w1 ⟨rfl, h1⟩
    have HB := Aside0.mk ((below_alloc (Below.refl w.heap.size w) _).trans (h1.mono (by simp)))
    clear h1
    go_wp2
    go_ret2
    exact ⟨_, rfl, Kd.R_nil _ _ _ _ _, HB.out⟩
end Go.Proofs.YtengjaojkcokcaaGreatDoor.T
