/- The first best plan: the walks of trial.put, with trial.possible handed to it, and of trial.First. -/
import Derived.Test.YtengjaojkcokcaaGreatDoorTA
namespace Go.Proofs.YtengjaojkcokcaaGreatDoor.T
open Go.RowKit Go.Proofs.YtengjaojkcokcaaGreatDoorW.PrintWords Go.Proofs.YtengjaojkcokcaaGreatDoorW.PrintLast Go.Proofs.YtengjaojkcokcaaGreatDoorW.PrintMore

/-- The first level that is possible, or the last one. -/
def put_s : Nat → Int → Int → Int → Int → Int → Option Int
  | 0, _, _, _, _, _ => none
  | k + 1, lo, hi, bl, lf, x =>
    if x < hi then (trial_possible.f 100 (wrap64 (x - lo)) (wrap64 (hi - lo)) bl lf).bind fun t => if t = true then some x else put_s k lo hi bl lf (wrap64 (x + 1))
    else some x
def put_f : Nat → List Int → Int → Int → Int → Int → Int → Option (List Int)
  | 0, _, _, _, _, _, _ => none
  | k + 1, l, lo, hi, lv, bl, lf =>
    if lo = hi then some l else
      (put_s 100 lo hi bl lf (wrap64 (lo + 1))).bind fun x =>
        if l.length < 1000 then
          (put_f k (l ++ [x]) lo (wrap64 (x - 1)) lv (wrap64 (bl - 1)) (wrap64 (lf - 1))).bind fun l1 => put_f k l1 x hi lv bl (wrap64 (lf - 1))
        else none

theorem cell_of_blk {w : World} {b : Nat} {cs : Array Value} {T : TypeId} {fr : Nat × Nat} (hb : w.heap[b]? = some (.cells cs T fr)) (j : Nat) : w.cell? ⟨b, j, none⟩ = cs[j]? := by
  simp [World.cell?, hb]

/-- How a row that is added to moves. -/
def RowOn (w w' : World) (u v : Value) : Prop := w.grownBy w' u.ownBlock ∧ (v.ownBlock = u.ownBlock ∨ ∃ b, v.ownBlock = some b ∧ w.heap.size ≤ b)
theorem RowOn.then_ {w w1 w2 : World} {u v1 v2 : Value} (h : RowOn w w1 u v1) (k : RowOn w1 w2 v1 v2) : RowOn w w2 u v2 := by
  have hs : w.heap.size ≤ w1.heap.size := h.1.size
  refine ⟨⟨k.1.os.trans h.1.os, k.1.tape.trans h.1.tape, k.1.output.trans h.1.output, Nat.le_trans hs k.1.size, fun j hj hne => ?_⟩, ?_⟩
  · refine (k.1.block j (Nat.lt_of_lt_of_le hj hs) ?_).trans (h.1.block j hj hne)
    rcases h.2 with e | ⟨b, e, hb⟩
    · exact fun e' => hne (e'.trans e)
    · intro e'; rw [e] at e'; injection e' with e'; omega
  · rcases k.2 with e | ⟨b, e, hb⟩
    · rcases h.2 with e' | ⟨b, e', hb⟩
      · exact Or.inl (e.trans e')
      · exact Or.inr ⟨b, e.trans e', hb⟩
    · exact Or.inr ⟨b, e, by omega⟩
theorem RowOn.of_below {w w1 : World} (h : Below w.heap.size w w1) (u : Value) : RowOn w w1 u u := ⟨grown_of_below h _, Or.inl rfl⟩
/-- A block that is no row of the kind stays as it was. -/
theorem RowOn.block {w w1 : World} {u v : Value} (h : RowOn w w1 u v) {b : Nat} (hb : b < w.heap.size) (hne : u.ownBlock ≠ some b) : w1.heap[b]? = w.heap[b]? := h.1.block b hb (fun e => hne e.symm)
theorem R_ne {d : Kd Int} {w : World} {base : Nat} {ok : Nat → Prop} {u : Value} {l : List Int} (h : d.R 3 w base ok u l) {b : Nat} {cs : Array Value} {T : TypeId} {fr : Nat × Nat} (hb : w.heap[b]? = some (.cells cs T fr)) (hT : T ≠ 3) : u.ownBlock ≠ some b := by
  intro e
  obtain ⟨inner, hown, _⟩ := h.2
  obtain ⟨cells, hc⟩ := own_typed hown b e
  rw [hb] at hc
  injection hc with hc
  injection hc with _ ht
  exact hT ht
def PutPost (u : Value) (r : List Int) (w0 w : World) (e : Ending) (w' : World) : Prop :=
  ∃ v, e = .returned v ∧ Kd.R (Kd.int .i64) 3 w' w0.heap.size (fun _ => True) v r ∧ Below w0.heap.size w0 w' ∧ RowOn w w' u v

set_option maxHeartbeats 4000000 in
set_option maxRecDepth 100000 in
theorem put_calls : ∀ (k : Nat) (l : List Int) (lo hi lv bl lf : Int) (u : Value) (r : List Int) (w0 w : World), Below w0.heap.size w0 w → Kd.R (Kd.int .i64) 3 w w0.heap.size (fun _ => True) u l →
    put_f k l lo hi lv bl lf = some r →
    Calls Tryz.prog 51 #[u, .int .i64 lo, .int .i64 hi, .agg #[.int .i64 lv, .int .i64 bl, .int .i64 lf], .func (.func 52) #[] #[]] w (PutPost u r w0 w) := by
  intro k
  induction k with
  | zero => intro l lo hi lv bl lf u r w0 w _ _ h; simp [put_f] at h
  | succ k ih =>
    intro l lo hi lv bl lf u r w0 w hB hR h
    have hu81 := Tryz.underlying81
    have IH := Aside0.mk ih
    clear ih
    have HB := Aside0.mk hB
    have HR := Aside0.mk hR
    clear hB hR
    simp only [put_f] at h
    by_cases c : lo = hi
    · rw [if_pos c] at h
      obtain rfl := Option.some.inj h
      clear h
      have cb : (lo == hi) = true := beq_iff_eq.mpr c
      clear c
      go_enter Tryz.func51, Tryz.ntmps51
      go_wp2
      go_ret
      refine ⟨u, rfl, ?_, ?_, ?_⟩
      · exact Kd.R_alloc HR.out _
      · exact HB.out.alloc HB.out.size _
      · exact RowOn.of_below ((Below.refl _ _).alloc (Nat.le_refl _) _) u
    · rw [if_neg c] at h
      have cb : (lo == hi) = false := beq_eq_false_iff_ne.mpr c
      clear c
      obtain ⟨x, hx, h⟩ := Option.bind_eq_some_iff.mp h
      have H := Aside0.mk h
      have HX := Aside0.mk hx
      clear h hx
      go_enter Tryz.func51, Tryz.ntmps51
      go_wp2
      go_loopg [11] 100 (fun kq v11 w' => ∃ (y : Int), v11 = .int .i64 y ∧ Aside0 (put_s kq lo hi bl lf y = some x) ∧ Aside0 (kq ≤ 100) ∧ Aside0 (Below (w.heap.size + 1) (w.alloc (.cells #[.int .i64 lv, .int .i64 bl, .int .i64 lf] 81)) w'))
      case atStart => exact ⟨_, rfl, HX, ⟨Nat.le_refl _⟩, ⟨Below.refl _ _⟩⟩
      case round =>
        clear HX
        obtain ⟨y, rfl, HA, HK1, HW⟩ := hrel
        have hsz := Aside0.mk (show w.heap.size + 1 ≤ wr.heap.size by have := HW.out.size; simpa using this)
        have hbk := Aside0.mk (show wr.heap[w.heap.size]? = some (.cells #[.int .i64 lv, .int .i64 bl, .int .i64 lf] 81 (0, 0)) by rw [HW.out.block w.heap.size (by omega)]; exact heap_alloc_new w _)
        have hc0 := cell_of_blk hbk.out 0
        have hc1 := cell_of_blk hbk.out 1
        have hc2 := cell_of_blk hbk.out 2
        simp at hc0 hc1 hc2
        cases gk with
        | zero => exact absurd HA.out (by simp [put_s])
        | succ k1 =>
          have G := HA.out
          clear HA
          simp only [put_s] at G
          by_cases c1 : y < hi
          · rw [if_pos c1] at G
            have c1b : decide (y < hi) = true := decide_eq_true c1
            clear c1
            obtain ⟨t, ht, G⟩ := Option.bind_eq_some_iff.mp G
            have HT := Aside0.mk ht
            clear ht
            cases t with
            | true =>
              obtain rfl := Option.some.inj G
              clear G
              go_wp2_with fail
              refine (trial_possible.calls 100 _ _ _ _ true _ HT.out).mono ?_
              rintro e w1 ⟨rfl, h1⟩
              have HW1 := Aside0.mk h1
              clear h1
              have HBW := Aside0.mk (show Below w.heap.size w w1 from (((Below.refl w.heap.size w).alloc (Nat.le_refl _) _).trans (HW.out.mono (by omega))).trans (HW1.out.mono (by have := hsz.out; omega)))
              have hsz1 := Aside0.mk (show w.heap.size + 1 ≤ w1.heap.size from Nat.le_trans hsz.out HW1.out.size)
              have hbk1 := Aside0.mk ((HW1.out.block w.heap.size (by have := hsz.out; omega)).trans hbk.out)
              clear hc0 hc1 hc2 HK1 HW HW1 HT
              have HRb := Aside0.mk (Kd.R_below HR.out HBW.out)
              have hne := Aside0.mk (R_ne HRb.out hbk1.out (by decide))
              have HBc := Aside0.mk (below_step HB.out HBW.out)
              have H1 := H.out
              clear H
              by_cases cl : l.length < 1000
              case neg => rw [if_neg cl] at H1; cases H1
              rw [if_pos cl] at H1
              have HL := Aside0.mk cl
              clear cl
              obtain ⟨l1, hl1, hl2⟩ := Option.bind_eq_some_iff.mp H1
              have HL1 := Aside0.mk hl1
              have HL2 := Aside0.mk hl2
              clear H1 hl1 hl2
              go_wp2_with (first | (at_builtin; refine Kd.R_append (Kd.int .i64) (w0 := w0) w0.heap.size rfl (.tmp 39) (.tmp 41) 25 3 (.int .i64 0) 8 rfl Tryz.underlying25 info3 rfl (by decide) (by omega) u l y [.int .i64 y] (fun _ => True) (fun _ => False) rfl rfl ?aPw1 (fun _ hk => hk.elim) ?aFw1 ?aOw1 ?aBw1 ?aSw1 ?aLw1 ?_; (case aPw1 => exact rfl); (case aBw1 => exact HBc.out); (case aFw1 => exact (fun _ _ => trivial)); (case aOw1 => exact HRb.out); (case aSw1 => exact HBc.out.size); (case aLw1 => have := HL.out; omega); intro v1 w2 ho hb hg hat; have HR2 := Aside0.mk ho; have HB2 := Aside0.mk hb; have HO2 := Aside0.mk (show RowOn w1 w2 u v1 from ⟨hg, hat⟩); clear ho hb hg hat; have hbk2 := Aside0.mk ((RowOn.block HO2.out (Nat.lt_of_lt_of_le (Nat.lt_succ_self _) hsz1.out) hne.out).trans hbk1.out); have hd0 := cell_of_blk hbk2.out 0; have hd1 := cell_of_blk hbk2.out 1; have hd2 := cell_of_blk hbk2.out 2; simp at hd0 hd1 hd2) | (fail))
              refine (trial_state_after.calls lv bl lf true lv (wrap64 (bl - 1)) (wrap64 (lf - 1)) _ rfl).mono ?_
              rintro e w3 ⟨rfl, h3⟩
              have HB3 := Aside0.mk h3
              clear h3
              have HR3 := Aside0.mk (Kd.R_below HR2.out HB3.out)
              have HC3 := Aside0.mk (below_step HB2.out HB3.out)
              go_wp2_with fail
              refine (IH.out _ _ _ _ _ _ _ _ w0 _ HC3.out HR3.out HL1.out).mono ?_
              rintro e w4 ⟨v2, rfl, h4, h5, h6⟩
              have HR4 := Aside0.mk h4
              have HC4 := Aside0.mk h5
              have HO4 := Aside0.mk (HO2.out.then_ ((RowOn.of_below HB3.out v1).then_ h6))
              clear h4 h5 h6 hd0 hd1 hd2
              have hbk4 := Aside0.mk ((RowOn.block HO4.out (Nat.lt_of_lt_of_le (Nat.lt_succ_self _) hsz1.out) hne.out).trans hbk1.out)
              have hd0 := cell_of_blk hbk4.out 0
              have hd1 := cell_of_blk hbk4.out 1
              have hd2 := cell_of_blk hbk4.out 2
              simp at hd0 hd1 hd2
              go_wp2_with fail
              refine (trial_state_after.calls lv bl lf false lv bl (wrap64 (lf - 1)) _ rfl).mono ?_
              rintro e w5 ⟨rfl, h5⟩
              have HB5 := Aside0.mk h5
              clear h5
              have HR5 := Aside0.mk (Kd.R_below HR4.out HB5.out)
              have HC5 := Aside0.mk (below_step HC4.out HB5.out)
              go_wp2_with fail
              refine (IH.out _ _ _ _ _ _ _ _ w0 _ HC5.out HR5.out HL2.out).mono ?_
              rintro e w6 ⟨v3, rfl, h6, h7, h8⟩
              have HR6 := Aside0.mk h6
              have HC6 := Aside0.mk h7
              have HO6 := Aside0.mk ((RowOn.of_below HBW.out u).then_ (HO4.out.then_ ((RowOn.of_below HB5.out v2).then_ h8)))
              clear h6 h7 h8
              go_wp2
              go_ret
              exact ⟨v3, rfl, HR6.out, HC6.out, HO6.out⟩
            | false =>
              have G' := Aside0.mk (show put_s k1 lo hi bl lf (wrap64 (y + 1)) = some x from G)
              clear G
              go_wp2_with fail
              refine (trial_possible.calls 100 _ _ _ _ false _ HT.out).mono ?_
              rintro e w1 ⟨rfl, h1⟩
              have HW1 := Aside0.mk (HW.out.trans (h1.mono hsz.out))
              clear h1 hc0 hc1 hc2 HW
              go_wp2
              go_roundg k1
              case measure => have := HK1.out; omega
              case rel => exact ⟨_, rfl, G', ⟨by have := HK1.out; omega⟩, HW1⟩
          · rw [if_neg c1] at G
            have c1b : decide (y < hi) = false := decide_eq_false c1
            clear c1
            obtain rfl := Option.some.inj G
            clear G
            have HBW := Aside0.mk (show Below w.heap.size w wr from (((Below.refl w.heap.size w).alloc (Nat.le_refl _) _).trans (HW.out.mono (by omega))))
            have hsz1 := hsz
            have hbk1 := hbk
            clear hc0 hc1 hc2 HK1 HW
            have HRb := Aside0.mk (Kd.R_below HR.out HBW.out)
            have hne := Aside0.mk (R_ne HRb.out hbk1.out (by decide))
            have HBc := Aside0.mk (below_step HB.out HBW.out)
            have H1 := H.out
            clear H
            by_cases cl : l.length < 1000
            case neg => rw [if_neg cl] at H1; cases H1
            rw [if_pos cl] at H1
            have HL := Aside0.mk cl
            clear cl
            obtain ⟨l1, hl1, hl2⟩ := Option.bind_eq_some_iff.mp H1
            have HL1 := Aside0.mk hl1
            have HL2 := Aside0.mk hl2
            clear H1 hl1 hl2
            go_wp2_with (first | (at_builtin; refine Kd.R_append (Kd.int .i64) (w0 := w0) w0.heap.size rfl (.tmp 39) (.tmp 41) 25 3 (.int .i64 0) 8 rfl Tryz.underlying25 info3 rfl (by decide) (by omega) u l y [.int .i64 y] (fun _ => True) (fun _ => False) rfl rfl ?aPwr (fun _ hk => hk.elim) ?aFwr ?aOwr ?aBwr ?aSwr ?aLwr ?_; (case aPwr => exact rfl); (case aBwr => exact HBc.out); (case aFwr => exact (fun _ _ => trivial)); (case aOwr => exact HRb.out); (case aSwr => exact HBc.out.size); (case aLwr => have := HL.out; omega); intro v1 w2 ho hb hg hat; have HR2 := Aside0.mk ho; have HB2 := Aside0.mk hb; have HO2 := Aside0.mk (show RowOn wr w2 u v1 from ⟨hg, hat⟩); clear ho hb hg hat; have hbk2 := Aside0.mk ((RowOn.block HO2.out (Nat.lt_of_lt_of_le (Nat.lt_succ_self _) hsz1.out) hne.out).trans hbk1.out); have hd0 := cell_of_blk hbk2.out 0; have hd1 := cell_of_blk hbk2.out 1; have hd2 := cell_of_blk hbk2.out 2; simp at hd0 hd1 hd2) | (fail))
            refine (trial_state_after.calls lv bl lf true lv (wrap64 (bl - 1)) (wrap64 (lf - 1)) _ rfl).mono ?_
            rintro e w3 ⟨rfl, h3⟩
            have HB3 := Aside0.mk h3
            clear h3
            have HR3 := Aside0.mk (Kd.R_below HR2.out HB3.out)
            have HC3 := Aside0.mk (below_step HB2.out HB3.out)
            go_wp2_with fail
            refine (IH.out _ _ _ _ _ _ _ _ w0 _ HC3.out HR3.out HL1.out).mono ?_
            rintro e w4 ⟨v2, rfl, h4, h5, h6⟩
            have HR4 := Aside0.mk h4
            have HC4 := Aside0.mk h5
            have HO4 := Aside0.mk (HO2.out.then_ ((RowOn.of_below HB3.out v1).then_ h6))
            clear h4 h5 h6 hd0 hd1 hd2
            have hbk4 := Aside0.mk ((RowOn.block HO4.out (Nat.lt_of_lt_of_le (Nat.lt_succ_self _) hsz1.out) hne.out).trans hbk1.out)
            have hd0 := cell_of_blk hbk4.out 0
            have hd1 := cell_of_blk hbk4.out 1
            have hd2 := cell_of_blk hbk4.out 2
            simp at hd0 hd1 hd2
            go_wp2_with fail
            refine (trial_state_after.calls lv bl lf false lv bl (wrap64 (lf - 1)) _ rfl).mono ?_
            rintro e w5 ⟨rfl, h5⟩
            have HB5 := Aside0.mk h5
            clear h5
            have HR5 := Aside0.mk (Kd.R_below HR4.out HB5.out)
            have HC5 := Aside0.mk (below_step HC4.out HB5.out)
            go_wp2_with fail
            refine (IH.out _ _ _ _ _ _ _ _ w0 _ HC5.out HR5.out HL2.out).mono ?_
            rintro e w6 ⟨v3, rfl, h6, h7, h8⟩
            have HR6 := Aside0.mk h6
            have HC6 := Aside0.mk h7
            have HO6 := Aside0.mk ((RowOn.of_below HBW.out u).then_ (HO4.out.then_ ((RowOn.of_below HB5.out v2).then_ h8)))
            clear h6 h7 h8
            go_wp2
            go_ret
            exact ⟨v3, rfl, HR6.out, HC6.out, HO6.out⟩

def trial_First.f (a0 a1 : Int) : Option (List Int × Int) :=
  (trial_Trials.f 100 a0 a1).bind fun p => if p.2 = 0 then (put_f 100 [] 0 a0 a0 a1 p.1).bind fun l => some (l, 0) else some ([], p.2)
set_option maxHeartbeats 1000000 in
theorem trial_First.calls (a0 : Int) (a1 : Int) (r1 : List Int) (r2 : Int) (w : World) (h : trial_First.f a0 a1 = some (r1, r2)) :
    Calls Tryz.prog 18 #[.int .i64 a0, .int .i64 a1] w fun e w' => ∃ v0_ : Value, e = .returned (.tuple #[v0_, .int .i64 r2]) ∧ Kd.R (Kd.int .i64) 3 w' w.heap.size (fun _ => True) v0_ r1 ∧ Below w.heap.size w w' := by
  obtain ⟨⟨t, e0⟩, ht, h⟩ := Option.bind_eq_some_iff.mp h
  replace h : (if e0 = 0 then (put_f 100 [] 0 a0 a0 a1 t).bind fun l => some (l, 0) else some ([], e0)) = some (r1, r2) := h
  have HT := Aside0.mk ht
  clear ht
  by_cases c : e0 = 0
  · rw [if_pos c] at h
    subst c
    obtain ⟨l, hl, h⟩ := Option.bind_eq_some_iff.mp h
    have HL := Aside0.mk hl
    simp only [Option.some.injEq, Prod.mk.injEq] at h
    obtain ⟨rfl, rfl⟩ := h
    clear hl
    go_enter Tryz.func18, Tryz.ntmps18
    go_wp2_with fail
    refine (trial_Trials.calls 100 a0 a1 t 0 _ HT.out).mono ?_
    rintro e w1 ⟨rfl, h1⟩
    have HB := Aside0.mk h1
    clear h1
    go_wp2_with fail
    refine (put_calls 100 [] 0 a0 a0 a1 t _ l w _ HB.out (Kd.R_nil _ _ _ _ _) HL.out).mono ?_
    rintro e w2 ⟨v, rfl, h2, h3, h4⟩
    have HR2 := Aside0.mk h2
    have HB2 := Aside0.mk h3
    clear h2 h3 h4
    go_wp2
    go_ret2
    exact ⟨v, rfl, HR2.out, HB2.out⟩
  · rw [if_neg c] at h
    have cb : (e0 == 0) = false := beq_eq_false_iff_ne.mpr c
    have cb1 : (e0 != 0) = true := bne_iff_ne.mpr c
    simp only [Option.some.injEq, Prod.mk.injEq] at h
    obtain ⟨rfl, rfl⟩ := h
    clear c
    go_enter Tryz.func18, Tryz.ntmps18
    go_wp2_with fail
    refine (trial_Trials.calls 100 a0 a1 t e0 _ HT.out).mono ?_
    rintro e w1 ⟨rfl, h1⟩
    have HB := Aside0.mk h1
    clear h1
    go_wp2
    go_ret2
    exact ⟨_, rfl, Kd.R_nil _ _ _ _ _, HB.out⟩
end Go.Proofs.YtengjaojkcokcaaGreatDoor.T
