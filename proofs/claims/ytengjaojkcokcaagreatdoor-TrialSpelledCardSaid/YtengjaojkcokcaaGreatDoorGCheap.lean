/- The first plan of the least price: the walks of trial.Cheap and of the function literal in it. -/
import Derived.Test.YtengjaojkcokcaaGreatDoorTA
import Derived.Laws.EntriesVeiled
namespace Go.Proofs.YtengjaojkcokcaaGreatDoor.T
open Go.RowKit Go.Proofs.YtengjaojkcokcaaGreatDoorW.PrintWords Go.Proofs.YtengjaojkcokcaaGreatDoorW.PrintLast Go.Proofs.YtengjaojkcokcaaGreatDoorW.PrintMore
attribute [local go_sem] max2_int min2_int max_two min_two max_three min_three max_four min_four

def cheap_s : Nat → List Int → Int → Int → Int → Int → Int → Int → Option Int
  | 0, _, _, _, _, _, _, _ => none
  | k + 1, all, lo, hi, left, blade, trial, x =>
    if x < hi then
      if 0 ≤ wrap64 (wrap64 (x - 1) - lo) then if wrap64 (wrap64 (x - 1) - lo) < (all.length : Int) then
        if 0 ≤ wrap64 (hi - x) then if wrap64 (hi - x) < (all.length : Int) then
          if wrap64 (left - trial) < mx (wrap64 (blade + rd all (wrap64 (wrap64 (x - 1) - lo)))) (rd all (wrap64 (hi - x))) then cheap_s k all lo hi left blade trial (wrap64 (x + 1))
          else some x
        else none else none
      else none else none
    else some x
def cheap_f : Nat → List Int → Int → Int → Int → Int → Int → List Int → Option (List Int)
  | 0, _, _, _, _, _, _, _ => none
  | k + 1, all, lo, hi, left, blade, trial, out =>
    if lo = hi then some out else
      (cheap_s 100 all lo hi left blade trial (wrap64 (lo + 1))).bind fun x =>
        if out.length < 1000 then
          (cheap_f k all lo (wrap64 (x - 1)) (wrap64 (wrap64 (left - trial) - blade)) blade trial (out ++ [x])).bind fun o1 => cheap_f k all x hi (wrap64 (left - trial)) blade trial o1
        else none

theorem cell_of_blk' {w : World} {b : Nat} {cs : Array Value} {T : TypeId} {fr : Nat × Nat} (hb : w.heap[b]? = some (.cells cs T fr)) (j : Nat) : w.cell? ⟨b, j, none⟩ = cs[j]? := by
  simp [World.cell?, hb]
theorem frozen_of_blk {w : World} {b : Nat} {cs : Array Value} {T : TypeId} (hb : w.heap[b]? = some (.cells cs T (0, 0))) (j : Nat) : w.frozen? ⟨b, j, none⟩ = false := by
  simp [World.frozen?, hb]
theorem lt_of_blk {w : World} {b : Nat} {o : Obj} (hb : w.heap[b]? = some o) : b < w.heap.size := (Array.getElem?_eq_some_iff.1 hb).1
theorem grownBy_setCell (w : World) (b j : Nat) (v : Value) : w.grownBy (w.setCell ⟨b, j, none⟩ v) (some b) :=
  ⟨rfl, rfl, rfl, by simp [World.setCell], fun k _ hk => Below.heap_setCell _ _ _ _ (fun e => hk (by simp [e]))⟩
theorem blk_setCell {w : World} {b : Nat} {v0 v : Value} {T : TypeId} (hb : w.heap[b]? = some (.cells #[v0] T (0, 0))) : (w.setCell ⟨b, 0, none⟩ v).heap[b]? = some (.cells #[v] T (0, 0)) := by
  simp [World.setCell, Array.getElem?_modify, hb]

/-- What the literal of Cheap finds in memory: five variables of one cell, and two rows. -/
structure CS (base bb ba bt bo bp : Nat) (blade trial : Int) (vall : Value) (all out : List Int) (w : World) : Prop where
  hb : w.heap[bb]? = some (.cells #[.int .i64 blade] 3 (0, 0))
  ha : w.heap[ba]? = some (.cells #[vall] 25 (0, 0))
  ht : w.heap[bt]? = some (.cells #[.int .i64 trial] 3 (0, 0))
  hp : w.heap[bp]? = some (.cells #[.func (.func 57) #[] #[.pointer (some ⟨bb, 0, none⟩), .pointer (some ⟨ba, 0, none⟩), .pointer (some ⟨bt, 0, none⟩), .pointer (some ⟨bo, 0, none⟩), .pointer (some ⟨bp, 0, none⟩)]] 39 (0, 0))
  ho : ∃ vout, w.heap[bo]? = some (.cells #[vout] 25 (0, 0)) ∧ Kd.R (Kd.int .i64) 3 w base (fun k => k ≠ bb ∧ k ≠ ba ∧ k ≠ bt ∧ k ≠ bo ∧ k ≠ bp ∧ some k ≠ vall.ownBlock) vout out
  hall : Kd.R (Kd.int .i64) 3 w base (fun k => k ≠ bo) vall all
  ne : bo ≠ bb ∧ bo ≠ ba ∧ bo ≠ bt ∧ bo ≠ bp ∧ base ≤ bo

theorem CS.below {base bb ba bt bo bp : Nat} {blade trial : Int} {vall : Value} {all out : List Int} {w w' : World} (h : CS base bb ba bt bo bp blade trial vall all out w) (hB : Below w.heap.size w w') : CS base bb ba bt bo bp blade trial vall all out w' := by
  obtain ⟨vout, h1, h2⟩ := h.ho
  exact ⟨(hB.block _ (lt_of_blk h.hb)).trans h.hb, (hB.block _ (lt_of_blk h.ha)).trans h.ha, (hB.block _ (lt_of_blk h.ht)).trans h.ht, (hB.block _ (lt_of_blk h.hp)).trans h.hp, ⟨vout, (hB.block _ (lt_of_blk h1)).trans h1, Kd.R_below h2 hB⟩, Kd.R_below h.hall hB, h.ne⟩

/-- One number more in out. -/
theorem CS.more {base bb ba bt bo bp : Nat} {blade trial : Int} {vall vout v1 : Value} {all out out1 : List Int} {w w1 : World} (h : CS base bb ba bt bo bp blade trial vall all out w) (h1 : w.heap[bo]? = some (.cells #[vout] 25 (0, 0)))
    (h2 : Kd.R (Kd.int .i64) 3 w base (fun k => k ≠ bb ∧ k ≠ ba ∧ k ≠ bt ∧ k ≠ bo ∧ k ≠ bp ∧ some k ≠ vall.ownBlock) vout out)
    (hg : w.grownBy w1 vout.ownBlock) (hR : Kd.R (Kd.int .i64) 3 w1 base (fun k => k ≠ bb ∧ k ≠ ba ∧ k ≠ bt ∧ k ≠ bo ∧ k ≠ bp ∧ some k ≠ vall.ownBlock) v1 out1) :
    CS base bb ba bt bo bp blade trial vall all out1 (w1.setCell ⟨bo, 0, none⟩ v1) := by
  have k2 := h2.1
  have hne : ∀ b, (∀ k, vout.ownBlock = some k → k ≠ b) → some b ≠ vout.ownBlock := fun b hk e => hk b e.symm rfl
  have e1 : w1.heap[bo]? = some (.cells #[vout] 25 (0, 0)) := (hg.block _ (lt_of_blk h1) (hne _ fun k hk => (k2 k hk).2.2.2.1)).trans h1
  have hs := grownBy_setCell w1 bo 0 v1
  have ob : ∀ (b : Nat) (o : Obj), w.heap[b]? = some o → b ≠ bo → some b ≠ vout.ownBlock → (w1.setCell ⟨bo, 0, none⟩ v1).heap[b]? = some o := fun b o hb hbo hv =>
    (hs.block b (Nat.lt_of_lt_of_le (lt_of_blk hb) hg.size) (fun e => hbo (by injection e))).trans ((hg.block b (lt_of_blk hb) hv).trans hb)
  refine ⟨ob _ _ h.hb h.ne.1.symm (hne _ fun k hk => (k2 k hk).1), ob _ _ h.ha h.ne.2.1.symm (hne _ fun k hk => (k2 k hk).2.1), ob _ _ h.ht h.ne.2.2.1.symm (hne _ fun k hk => (k2 k hk).2.2.1), ob _ _ h.hp h.ne.2.2.2.1.symm (hne _ fun k hk => (k2 k hk).2.2.2.2.1), ⟨v1, blk_setCell e1, ?_⟩, ?_, h.ne⟩
  · exact Kd.R_grown hR hs (fun k hk e => hk.2.2.2.1 (by injection e))
  · have hva : Kd.R (Kd.int .i64) 3 w1 base (fun k => k ≠ bo) vall all := by
      refine Kd.R_grown2 h.hall rfl hg (fun k hk => ?_)
      exact (k2 k hk).2.2.2.2.2
    exact Kd.R_grown hva hs (fun k hk e => hk (by injection e))

def CheapPost (bb ba bt bo bp : Nat) (blade trial : Int) (vall : Value) (all r : List Int) (w0 : World) (e : Ending) (w' : World) : Prop :=
  e = .returned (.tuple #[]) ∧ CS w0.heap.size bb ba bt bo bp blade trial vall all r w' ∧ Below w0.heap.size w0 w'

set_option maxHeartbeats 8000000 in
set_option maxRecDepth 100000 in
theorem cheap1_calls (bb ba bt bo bp : Nat) (blade trial : Int) (vall : Value) (all : List Int) : ∀ (k : Nat) (lo hi left : Int) (out r : List Int) (w0 w : World), Below w0.heap.size w0 w →
    CS w0.heap.size bb ba bt bo bp blade trial vall all out w → cheap_f k all lo hi left blade trial out = some r →
    Calls Tryz.prog 57 #[.int .i64 lo, .int .i64 hi, .int .i64 left, .pointer (some ⟨bb, 0, none⟩), .pointer (some ⟨ba, 0, none⟩), .pointer (some ⟨bt, 0, none⟩), .pointer (some ⟨bo, 0, none⟩), .pointer (some ⟨bp, 0, none⟩)] w
      (CheapPost bb ba bt bo bp blade trial vall all r w0) := by
  intro k
  induction k with
  | zero => intro lo hi left out r w0 w _ _ h; simp [cheap_f] at h
  | succ k ih =>
    intro lo hi left out r w0 w hB hS h
    have IH := Aside0.mk (fun lo hi left out r w0 w a b c => ih lo hi left out r w0 w a b c)
    clear ih
    have HB := Aside0.mk hB
    have HS := Aside0.mk hS
    clear hB hS
    simp only [cheap_f] at h
    by_cases c : lo = hi
    · rw [if_pos c] at h
      obtain rfl := Option.some.inj h
      clear h
      have cb : (lo == hi) = true := beq_iff_eq.mpr c
      clear c
      go_enter Tryz.func57, Tryz.ntmps57
      go_wp2
      go_end0
      exact ⟨rfl, HS.out, HB.out⟩
    · rw [if_neg c] at h
      have cb : (lo == hi) = false := beq_eq_false_iff_ne.mpr c
      clear c
      obtain ⟨x, hx, h⟩ := Option.bind_eq_some_iff.mp h
      have H := Aside0.mk h
      have HX := Aside0.mk hx
      clear h hx
      go_enter Tryz.func57, Tryz.ntmps57
      go_wp2
      go_loopg [11] 100 (fun kq v11 w' => ∃ (y : Int), v11 = .int .i64 y ∧ Aside0 (cheap_s kq all lo hi left blade trial y = some x) ∧ Aside0 (kq ≤ 100) ∧ Aside0 (CS w0.heap.size bb ba bt bo bp blade trial vall all out w') ∧ Aside0 (Below w0.heap.size w0 w'))
      case atStart => exact ⟨_, rfl, HX, ⟨Nat.le_refl _⟩, HS, HB⟩
      case round =>
        clear HX HS HB
        obtain ⟨y, rfl, HA, HK1, HS, HB⟩ := hrel
        have fb := cell_of_blk' HS.out.hb 0
        have fa := cell_of_blk' HS.out.ha 0
        have ft := cell_of_blk' HS.out.ht 0
        have fp := cell_of_blk' HS.out.hp 0
        simp at fb fa ft fp
        cases gk with
        | zero => exact absurd HA.out (by simp [cheap_s])
        | succ k1 =>
          have G := HA.out
          clear HA
          simp only [cheap_s] at G
          by_cases c1 : y < hi
          · rw [if_pos c1] at G
            have c1b : decide (y < hi) = true := decide_eq_true c1
            clear c1
            obtain ⟨i1, hi1⟩ : ∃ j : Int, wrap64 (wrap64 (y - 1) - lo) = j := ⟨_, rfl⟩
            obtain ⟨i2, hi2⟩ : ∃ j : Int, wrap64 (hi - y) = j := ⟨_, rfl⟩
            rw [hi1, hi2] at G
            have hi1w : (IntKind.i64.wrap (wrap64 (y - 1) - lo)) = i1 := (i64_w _).trans hi1
            have hi2w : (IntKind.i64.wrap (hi - y)) = i2 := (i64_w _).trans hi2
            by_cases d1 : 0 ≤ i1
            case neg => rw [if_neg d1] at G; cases G
            rw [if_pos d1] at G
            by_cases d2 : i1 < (all.length : Int)
            case neg => rw [if_neg d2] at G; cases G
            rw [if_pos d2] at G
            by_cases d3 : 0 ≤ i2
            case neg => rw [if_neg d3] at G; cases G
            rw [if_pos d3] at G
            by_cases d4 : i2 < (all.length : Int)
            case neg => rw [if_neg d4] at G; cases G
            rw [if_pos d4] at G
            obtain ⟨Ao, co, eo⟩ := Kd.R_slice HS.out.hall
            have hall := HS.out.hall
            rw [eo] at hall fa
            clear eo
            obtain ⟨ad, ea, hx1⟩ := Kd.at_int (Kd.R_reads' hall).2.2 i1 d1 d2
            cases ea
            obtain ⟨ad2, ea2, hx2⟩ := Kd.at_int (Kd.R_reads' hall).2.2 i2 d3 d4
            clear hall
            obtain rfl : ad = ad2 := (by injection ea2)
            replace d1 := eq_true d1
            replace d2 := eq_true d2
            replace d3 := eq_true d3
            replace d4 := eq_true d4
            obtain ⟨m, hm⟩ : ∃ j : Int, mx (wrap64 (blade + rd all i1)) (rd all i2) = j := ⟨_, rfl⟩
            rw [hm] at G
            have hm_ : (if wrap64 (blade + rd all i1) < rd all i2 then rd all i2 else wrap64 (blade + rd all i1)) = m := hm
            clear hm
            by_cases c2 : wrap64 (left - trial) < m
            · rw [if_pos c2] at G
              have c2b : decide (wrap64 (left - trial) < m) = true := decide_eq_true c2
              clear c2
              have G' := Aside0.mk G
              clear G
              go_wp2
              repeat (go_quiet (fail); try go_wp2)
              go_roundg k1
              case measure => have := HK1.out; omega
              case rel => exact ⟨_, rfl, G', ⟨by have := HK1.out; omega⟩, ⟨HS.out.below (by repeat (first | exact Below.refl _ _ | apply below_alloc | apply pw_below_drewN | apply below_drew1))⟩, ⟨by repeat (first | exact HB.out | apply pw_below_drewN | apply below_drew1)⟩⟩
            · rw [if_neg c2] at G
              have c2b : decide (wrap64 (left - trial) < m) = false := decide_eq_false c2
              clear c2
              obtain rfl := Option.some.inj G
              clear G
              go_wp2_with fail
              go_quiet (fail)
              have H1 := H.out
              clear H
              by_cases cl : out.length < 1000
              case neg => rw [if_neg cl] at H1; cases H1
              rw [if_pos cl] at H1
              have HL := Aside0.mk cl
              clear cl
              obtain ⟨l1, hl1, hl2⟩ := Option.bind_eq_some_iff.mp H1
              have HL1 := Aside0.mk hl1
              have HL2 := Aside0.mk hl2
              clear H1 hl1 hl2
              obtain ⟨vout, ho1, ho2⟩ := HS.out.ho
              have HO1 := Aside0.mk ho1
              have HO2 := Aside0.mk ho2
              clear ho1 ho2
              have fo := cell_of_blk' HO1.out 0
              simp at fo
              have HF := Aside0.mk (show ∀ k, wr.heap.size ≤ k → k ≠ bb ∧ k ≠ ba ∧ k ≠ bt ∧ k ≠ bo ∧ k ≠ bp ∧ some k ≠ vall.ownBlock from fun k hk => by
                have q1 := lt_of_blk HS.out.hb
                have q2 := lt_of_blk HS.out.ha
                have q3 := lt_of_blk HS.out.ht
                have q4 := lt_of_blk HS.out.hp
                have q5 := lt_of_blk HO1.out
                refine ⟨by omega, by omega, by omega, by omega, by omega, fun e => ?_⟩
                obtain ⟨inner, hown, _⟩ := HS.out.hall.2
                have := own_lt hown k e.symm
                omega)
              go_wp2_with (first | (at_builtin; go_loud (refine Kd.R_append (Kd.int .i64) (w0 := w0) w0.heap.size rfl (.tmp 44) (.tmp 46) 25 3 (.int .i64 0) 8 rfl Tryz.underlying25 info3 rfl (by decide) (by omega) vout out y [.int .i64 y] (fun k => k ≠ bb ∧ k ≠ ba ∧ k ≠ bt ∧ k ≠ bo ∧ k ≠ bp ∧ some k ≠ vall.ownBlock) (fun _ => False) rfl rfl ?aPwr (fun _ hk => hk.elim) ?aFwr ?aOwr ?aBwr ?aSwr ?aLwr ?_; (case aPwr => exact rfl); (case aBwr => exact pw_below_drewN HB.out nq); (case aFwr => exact HF.out); (case aOwr => exact Kd.R_below HO2.out (pw_below_drewN (Below.refl _ _) nq)); (case aSwr => exact HB.out.size); (case aLwr => have := HL.out; omega); intro v1 w2 hoo hbb hg hat; obtain ⟨Av, cv, ev⟩ := Kd.R_slice hoo; obtain ⟨nv, env⟩ : ∃ n : Nat, (out ++ [y]).length = n := ⟨_, rfl⟩; rw [env] at ev; subst ev; clear env; have HS2 := Aside0.mk (CS.more (HS.out.below (pw_below_drewN (Below.refl _ _) nq)) HO1.out (Kd.R_below HO2.out (pw_below_drewN (Below.refl _ _) nq)) hg hoo); have hbo2 := Aside0.mk ((hg.block bo (lt_of_blk HO1.out) (fun e => (HO2.out.1 bo e.symm).2.2.2.1 rfl)).trans HO1.out); have g1 := cell_of_blk' hbo2.out 0; simp at g1; have g2 := frozen_of_blk hbo2.out 0; have HB2 := Aside0.mk (hbb.setCell (show w0.heap.size ≤ (⟨bo, 0, none⟩ : Addr).block from HS.out.ne.2.2.2.2) (.slice Av nv cv)); clear hoo hbb hg hat; have f2b := cell_of_blk' HS2.out.hb 0; have f2a := cell_of_blk' HS2.out.ha 0; have f2t := cell_of_blk' HS2.out.ht 0; have f2p := cell_of_blk' HS2.out.hp 0; simp at f2b f2a f2t f2p)) | fail)
              refine (IH.out _ _ _ _ _ w0 _ HB2.out HS2.out HL1.out).mono ?_
              rintro e w4 ⟨rfl, h4, h5⟩
              have HS4 := Aside0.mk h4
              have HB4 := Aside0.mk h5
              clear h4 h5 f2b f2a f2t f2p
              have f4b := cell_of_blk' HS4.out.hb 0
              have f4a := cell_of_blk' HS4.out.ha 0
              have f4t := cell_of_blk' HS4.out.ht 0
              have f4p := cell_of_blk' HS4.out.hp 0
              simp at f4b f4a f4t f4p
              go_wp2_with fail
              refine (IH.out _ _ _ _ _ w0 _ HB4.out HS4.out HL2.out).mono ?_
              rintro e w6 ⟨rfl, h6, h7⟩
              have HS6 := Aside0.mk h6
              have HB6 := Aside0.mk h7
              clear h6 h7
              go_wp2
              go_end0
              exact ⟨rfl, HS6.out, HB6.out⟩
          · rw [if_neg c1] at G
            have c1b : decide (y < hi) = false := decide_eq_false c1
            clear c1
            obtain rfl := Option.some.inj G
            clear G
            go_wp2_with fail
            go_quiet (fail)
            have H1 := H.out
            clear H
            by_cases cl : out.length < 1000
            case neg => rw [if_neg cl] at H1; cases H1
            rw [if_pos cl] at H1
            have HL := Aside0.mk cl
            clear cl
            obtain ⟨l1, hl1, hl2⟩ := Option.bind_eq_some_iff.mp H1
            have HL1 := Aside0.mk hl1
            have HL2 := Aside0.mk hl2
            clear H1 hl1 hl2
            obtain ⟨vout, ho1, ho2⟩ := HS.out.ho
            have HO1 := Aside0.mk ho1
            have HO2 := Aside0.mk ho2
            clear ho1 ho2
            have fo := cell_of_blk' HO1.out 0
            simp at fo
            have HF := Aside0.mk (show ∀ k, wr.heap.size ≤ k → k ≠ bb ∧ k ≠ ba ∧ k ≠ bt ∧ k ≠ bo ∧ k ≠ bp ∧ some k ≠ vall.ownBlock from fun k hk => by
              have q1 := lt_of_blk HS.out.hb
              have q2 := lt_of_blk HS.out.ha
              have q3 := lt_of_blk HS.out.ht
              have q4 := lt_of_blk HS.out.hp
              have q5 := lt_of_blk HO1.out
              refine ⟨by omega, by omega, by omega, by omega, by omega, fun e => ?_⟩
              obtain ⟨inner, hown, _⟩ := HS.out.hall.2
              have := own_lt hown k e.symm
              omega)
            go_wp2_with (first | (at_builtin; go_loud (refine Kd.R_append (Kd.int .i64) (w0 := w0) w0.heap.size rfl (.tmp 44) (.tmp 46) 25 3 (.int .i64 0) 8 rfl Tryz.underlying25 info3 rfl (by decide) (by omega) vout out y [.int .i64 y] (fun k => k ≠ bb ∧ k ≠ ba ∧ k ≠ bt ∧ k ≠ bo ∧ k ≠ bp ∧ some k ≠ vall.ownBlock) (fun _ => False) rfl rfl ?aPv (fun _ hk => hk.elim) ?aFv ?aOv ?aBv ?aSv ?aLv ?_; (case aPv => exact rfl); (case aBv => exact pw_below_drewN HB.out nq); (case aFv => exact HF.out); (case aOv => exact Kd.R_below HO2.out (pw_below_drewN (Below.refl _ _) nq)); (case aSv => exact HB.out.size); (case aLv => have := HL.out; omega); intro v1 w2 hoo hbb hg hat; obtain ⟨Av, cv, ev⟩ := Kd.R_slice hoo; obtain ⟨nv, env⟩ : ∃ n : Nat, (out ++ [y]).length = n := ⟨_, rfl⟩; rw [env] at ev; subst ev; clear env; have HS2 := Aside0.mk (CS.more (HS.out.below (pw_below_drewN (Below.refl _ _) nq)) HO1.out (Kd.R_below HO2.out (pw_below_drewN (Below.refl _ _) nq)) hg hoo); have hbo2 := Aside0.mk ((hg.block bo (lt_of_blk HO1.out) (fun e => (HO2.out.1 bo e.symm).2.2.2.1 rfl)).trans HO1.out); have g1 := cell_of_blk' hbo2.out 0; simp at g1; have g2 := frozen_of_blk hbo2.out 0; have HB2 := Aside0.mk (hbb.setCell (show w0.heap.size ≤ (⟨bo, 0, none⟩ : Addr).block from HS.out.ne.2.2.2.2) (.slice Av nv cv)); clear hoo hbb hg hat; have f2b := cell_of_blk' HS2.out.hb 0; have f2a := cell_of_blk' HS2.out.ha 0; have f2t := cell_of_blk' HS2.out.ht 0; have f2p := cell_of_blk' HS2.out.hp 0; simp at f2b f2a f2t f2p)) | fail)
            refine (IH.out _ _ _ _ _ w0 _ HB2.out HS2.out HL1.out).mono ?_
            rintro e w4 ⟨rfl, h4, h5⟩
            have HS4 := Aside0.mk h4
            have HB4 := Aside0.mk h5
            clear h4 h5 f2b f2a f2t f2p
            have f4b := cell_of_blk' HS4.out.hb 0
            have f4a := cell_of_blk' HS4.out.ha 0
            have f4t := cell_of_blk' HS4.out.ht 0
            have f4p := cell_of_blk' HS4.out.hp 0
            simp at f4b f4a f4t f4p
            go_wp2_with fail
            refine (IH.out _ _ _ _ _ w0 _ HB4.out HS4.out HL2.out).mono ?_
            rintro e w6 ⟨rfl, h6, h7⟩
            have HS6 := Aside0.mk h6
            have HB6 := Aside0.mk h7
            clear h6 h7
            go_wp2
            go_end0
            exact ⟨rfl, HS6.out, HB6.out⟩

def trial_Cheap.f (a0 a1 a2 : Int) : Option (List Int × Int) :=
  (trial_Price.f 100 a0 a1 a2).bind fun p => if p.2 = 0 then (trial_prices.f 100 a0 a1 a2).bind fun all => (cheap_f 100 all 0 a0 p.1 a2 a1 []).bind fun o => some (o, 0) else some ([], p.2)

theorem blk2_new (w : World) (a b : Int) : ((w.alloc (.cells #[.int .i64 a] 3)).alloc (.cells #[.int .i64 b] 3)).heap[w.heap.size]? = some (.cells #[.int .i64 a] 3 (0, 0)) ∧ ((w.alloc (.cells #[.int .i64 a] 3)).alloc (.cells #[.int .i64 b] 3)).heap[w.heap.size + 1]? = some (.cells #[.int .i64 b] 3 (0, 0)) := by
  constructor
  · exact (((Below.refl (w.alloc (.cells #[.int .i64 a] 3)).heap.size (w.alloc (.cells #[.int .i64 a] 3))).alloc (Nat.le_refl _) (.cells #[.int .i64 b] 3)).block w.heap.size (by simp)).trans (heap_alloc_new w _)
  · have := heap_alloc_new (w.alloc (.cells #[.int .i64 a] 3)) (.cells #[.int .i64 b] 3)
    simpa using this

theorem cheap_start (B bb bt : Nat) (a1 a2 : Int) (vall : Value) (all : List Int) (w2 : World) (h1 : w2.heap[bt]? = some (.cells #[.int .i64 a1] 3 (0, 0))) (h2 : w2.heap[bb]? = some (.cells #[.int .i64 a2] 3 (0, 0))) (hsz : B ≤ w2.heap.size)
    (hall : Kd.R (Kd.int .i64) 3 w2 B (fun _ => True) vall all) :
    CS B bb w2.heap.size bt (w2.heap.size + 1) (w2.heap.size + 1 + 1) a2 a1 vall all []
      (((w2.alloc (.cells #[vall] 25)).alloc (.cells #[.slice none 0 0] 25)).alloc (.cells #[.func (.func 57) #[] #[.pointer (some ⟨bb, 0, none⟩), .pointer (some ⟨w2.heap.size, 0, none⟩), .pointer (some ⟨bt, 0, none⟩), .pointer (some ⟨w2.heap.size + 1, 0, none⟩), .pointer (some ⟨w2.heap.size + 1 + 1, 0, none⟩)]] 39)) := by
  have q1 := lt_of_blk h1
  have q2 := lt_of_blk h2
  have hB : ∀ O1 O2 O3 : Obj, Below w2.heap.size w2 (((w2.alloc O1).alloc O2).alloc O3) := fun O1 O2 O3 => below_alloc (below_alloc (below_alloc (Below.refl _ _) _) _) _
  have hlt : ∀ k, vall.ownBlock = some k → k < w2.heap.size := fun k hk => by
    obtain ⟨inner, hown, _⟩ := hall.2
    exact own_lt hown k hk
  have hnew : ∀ O1 O2 O3 : Obj, (((w2.alloc O1).alloc O2).alloc O3).heap[w2.heap.size]? = some O1 ∧ (((w2.alloc O1).alloc O2).alloc O3).heap[w2.heap.size + 1]? = some O2 ∧ (((w2.alloc O1).alloc O2).alloc O3).heap[w2.heap.size + 1 + 1]? = some O3 := by
    intro O1 O2 O3
    refine ⟨?_, ?_, ?_⟩
    · refine ((below_alloc (below_alloc (Below.refl (w2.alloc O1).heap.size (w2.alloc O1)) O2) O3).block w2.heap.size (by simp)).trans (heap_alloc_new w2 O1)
    · refine ((below_alloc (Below.refl ((w2.alloc O1).alloc O2).heap.size ((w2.alloc O1).alloc O2)) O3).block (w2.heap.size + 1) (by simp)).trans ?_
      have := heap_alloc_new (w2.alloc O1) O2
      simpa using this
    · have := heap_alloc_new ((w2.alloc O1).alloc O2) O3
      simpa using this
  refine ⟨((hB _ _ _).block _ q2).trans h2, (hnew _ _ _).1, ((hB _ _ _).block _ q1).trans h1, (hnew _ _ _).2.2, ⟨_, (hnew _ _ _).2.1, Kd.R_nil _ _ _ _ _⟩, ?_, by omega, by omega, by omega, by omega, by omega⟩
  refine Kd.R_mono (Kd.R_far1 (Kd.R_below hall (hB _ _ _)) rfl (g := w2.heap.size + 1) (fun e => ?_)) (fun k hk => hk.2)
  have := hlt _ e.symm
  omega

set_option maxHeartbeats 2000000 in
set_option maxRecDepth 100000 in
theorem trial_Cheap.calls (a0 : Int) (a1 : Int) (a2 : Int) (r1 : List Int) (r2 : Int) (w : World) (h : trial_Cheap.f a0 a1 a2 = some (r1, r2)) :
    Calls Tryz.prog 29 #[.int .i64 a0, .int .i64 a1, .int .i64 a2] w fun e w' => ∃ v0_ : Value, e = .returned (.tuple #[v0_, .int .i64 r2]) ∧ Kd.R (Kd.int .i64) 3 w' w.heap.size (fun _ => True) v0_ r1 ∧ Below w.heap.size w w' := by
  obtain ⟨⟨p, e0⟩, ht, h⟩ := Option.bind_eq_some_iff.mp h
  replace h : (if e0 = 0 then (trial_prices.f 100 a0 a1 a2).bind fun all => (cheap_f 100 all 0 a0 p a2 a1 []).bind fun o => some (o, 0) else some ([], e0)) = some (r1, r2) := h
  have HT := Aside0.mk ht
  clear ht
  by_cases c : e0 = 0
  · rw [if_pos c] at h
    subst c
    obtain ⟨all, hall, h⟩ := Option.bind_eq_some_iff.mp h
    obtain ⟨o, ho, h⟩ := Option.bind_eq_some_iff.mp h
    have HA := Aside0.mk hall
    have HO := Aside0.mk ho
    simp only [Option.some.injEq, Prod.mk.injEq] at h
    obtain ⟨rfl, rfl⟩ := h
    clear hall ho
    go_enter Tryz.func29, Tryz.ntmps29
    go_wp2_with fail
    refine (trial_Price.calls 100 a0 a1 a2 p 0 _ HT.out).mono ?_
    rintro e w1 ⟨rfl, h1⟩
    have HB1 := Aside0.mk h1
    clear h1
    have b1 := Aside0.mk ((HB1.out.block w.heap.size (by simp; omega)).trans (blk2_new w a1 a2).1)
    have b2 := Aside0.mk ((HB1.out.block (w.heap.size + 1) (by simp)).trans (blk2_new w a1 a2).2)
    have c1 := cell_of_blk' b1.out 0
    have c2 := cell_of_blk' b2.out 0
    simp at c1 c2
    have HS1 := Aside0.mk (show w.heap.size + 2 ≤ w1.heap.size by have := HB1.out.size; simpa using this)
    go_wp2_with fail
    refine (trial_prices.calls 100 a0 a1 a2 all _ HA.out).mono ?_
    rintro e w2 ⟨vall, rfl, h2, h3⟩
    have HR2 := Aside0.mk h2
    have HB2 := Aside0.mk h3
    clear h2 h3 c1 c2
    obtain ⟨Aa, ca, ea⟩ := Kd.R_slice HR2.out
    subst ea
    have HC := Aside0.mk (cheap_start w.heap.size (w.heap.size + 1) w.heap.size a1 a2 (.slice Aa all.length ca) all w2 ((HB2.out.block _ (by have := HS1.out; omega)).trans b1.out) ((HB2.out.block _ (by have := HS1.out; omega)).trans b2.out) (Nat.le_trans (by have := HS1.out; omega) HB2.out.size) (Kd.R_lower HR2.out (by have := HS1.out; omega)))
    have HBW := Aside0.mk (show Below w.heap.size w w2 from ((below_alloc (below_alloc (Below.refl _ _) _) _).trans (HB1.out.mono (by simp; omega))).trans (HB2.out.mono (by have := HS1.out; omega)))
    have HSZ := Aside0.mk (Nat.le_trans HS1.out HB2.out.size)
    clear HR2 b1 b2
    go_wp2_with fail
    refine (cheap1_calls (w.heap.size + 1) w2.heap.size w.heap.size (w2.heap.size + 1) (w2.heap.size + 1 + 1) a2 a1 (.slice Aa all.length ca) all 100 0 a0 p [] o w _ (below_alloc (below_alloc (below_alloc HBW.out _) _) _) HC.out HO.out).mono ?_
    rintro e w3 ⟨rfl, h4, h5⟩
    obtain ⟨vout, ho1, ho2⟩ := h4.ho
    have HR := Aside0.mk ho2
    have fo := cell_of_blk' ho1 0
    simp at fo
    have HB3 := Aside0.mk h5
    obtain ⟨Av, cv, ev⟩ := Kd.R_slice ho2
    subst ev
    clear ho1 ho2 h4 h5
    go_wp2
    go_ret2
    exact ⟨_, rfl, Kd.R_mono HR.out (fun _ _ => trivial), HB3.out⟩
  · rw [if_neg c] at h
    have cb : (e0 == 0) = false := beq_eq_false_iff_ne.mpr c
    have cb1 : (e0 != 0) = true := bne_iff_ne.mpr c
    simp only [Option.some.injEq, Prod.mk.injEq] at h
    obtain ⟨rfl, rfl⟩ := h
    clear c
    go_enter Tryz.func29, Tryz.ntmps29
    go_wp2_with fail
    refine (trial_Price.calls 100 a0 a1 a2 p e0 _ HT.out).mono ?_
    rintro e w1 ⟨rfl, h1⟩
    have HB := Aside0.mk ((below_alloc (below_alloc (Below.refl w.heap.size w) _) _).trans (h1.mono (by simp; omega)))
    clear h1
    go_wp2
    go_ret2
    exact ⟨_, rfl, Kd.R_nil _ _ _ _ _, HB.out⟩
end Go.Proofs.YtengjaojkcokcaaGreatDoor.T
