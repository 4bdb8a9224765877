/- The number of plans: the walks of trial.Count and of the function literal in it, which keeps a map of what it knows. -/
import Derived.Test.YtengjaojkcokcaaGreatDoorTA
import Derived.Maps.OwnSet
import Derived.DeepKeys4
import Derived.Laws.EntriesVeiled
import Derived.Deep.RegionHeld3
namespace Go.Proofs.YtengjaojkcokcaaGreatDoor.T
open Go.RowKit Go.Maps Go.WideMaps Go.Proofs.YtengjaojkcokcaaGreatDoorW.PrintWords Go.Proofs.YtengjaojkcokcaaGreatDoorW.PrintLast Go.Proofs.YtengjaojkcokcaaGreatDoorW.PrintMore

theorem laidOutC : laidOutB Tryz.prog = true := by kernel_rfl
theorem row78 : (78 : TypeId) < Tryz.prog.types.size := of_decide_eq_true (by kernel_rfl)
theorem keyAt78 : Tryz.prog.keyTypeAt 2 78 = true := by kernel_rfl
theorem klaw78 : KeyLaw Tryz.prog 78 := deep_law_laid laidOutC (m := 2) (by omega) row78 keyAt78 (by rw [Tryz.underlying78])
theorem law78 : Keyed Tryz.prog 78 := Keyed.of_law klaw78
theorem size78 : ∃ m, Tryz.prog.types.size = m + 1 := by
  have h := row78
  generalize Tryz.prog.types.size = s at h ⊢
  cases s with
  | zero => exact absurd h (Nat.not_lt_zero _)
  | succ m => exact ⟨m, rfl⟩
theorem zero3 (w : World) : (zeroValue 3).run Tryz.prog w = .ok (.int .i64 0) w := by kernel_rfl
def keyV (n b t : Int) : Value := .agg #[.int .i64 n, .int .i64 b, .int .i64 t]
def keyL (n b t : Int) : Lit := .string (keyBytes [.int .i64 n, .int .i64 b, .int .i64 t])
def okI (n : Int) : Bool := (Lit.int .i64 n).wf
theorem key78 (n b t : Int) (hn : okI n = true) (hb : okI b = true) (ht : okI t = true) : keyOf Tryz.prog 78 (keyV n b t) = some (keyL n b t) := by
  unfold okI at hn hb ht
  have h1 : Tryz.prog.underlying 78 = some (.array 3 3) := Tryz.underlying78
  unfold keyOf
  rw [h1]
  have h2 : Tryz.prog.keyType 78 = true := by kernel_rfl
  have h3 : (keyV n b t).formed Tryz.prog 78 = true := by
    have hc : Tryz.prog.cellsOf 78 = 3 := by kernel_rfl
    simp [keyV, Value.formed, h1, hc]
  simp only [h2, h3, Bool.and_self, if_true]
  have hc : Tryz.prog.cellsOf 78 = 3 := by kernel_rfl
  have hc3 : Tryz.prog.cellsOf 3 = 1 := by kernel_rfl
  obtain ⟨m, hm⟩ := size78
  have hcs : (keyV n b t).cells.toList = [.int .i64 n, .int .i64 b, .int .i64 t] := rfl
  rw [hcs, hm]
  have hl : Tryz.prog.keyLits (m + 1 + 1) 78 [.int .i64 n, .int .i64 b, .int .i64 t] = some [.int .i64 n, .int .i64 b, .int .i64 t] := by
    unfold Program.keyLits
    rw [h1]
    simp only [hc, List.length_cons, List.length_nil, if_true]
    simp [List.range_succ, List.mapM_cons, hc3, Program.keyLits, Tryz.underlying3, hn, hb, ht]
  rw [hl]
  rfl

theorem cell_of_blk'' {w : World} {b : Nat} {cs : Array Value} {T : TypeId} {fr : Nat × Nat} (hb : w.heap[b]? = some (.cells cs T fr)) (j : Nat) : w.cell? ⟨b, j, none⟩ = cs[j]? := by
  simp [World.cell?, hb]

/-- What is known: keys and their numbers, the newest first. -/
abbrev St := List ((Int × Int × Int) × Int)
def stGet : St → Int → Int → Int → Int
  | [], _, _, _ => 0
  | ((n', b', t'), v) :: s, n, b, t => if n' = n ∧ b' = b ∧ t' = t then v else stGet s n b t
def stHas : St → Int → Int → Int → Bool
  | [], _, _, _ => false
  | ((n', b', t'), _) :: s, n, b, t => if n' = n ∧ b' = b ∧ t' = t then true else stHas s n b t
def stOk (s : St) : Prop := ∀ x ∈ s, okI x.1.1 = true ∧ okI x.1.2.1 = true ∧ okI x.1.2.2 = true
def stD : St → DataW Unit
  | [] => .map []
  | ((n, b, t), v) :: s => (stD s).put (keyL n b t) (.lit (.int .i64 v))
theorem keyL_inj {n b t n' b' t' : Int} (h1 : okI n = true) (h2 : okI b = true) (h3 : okI t = true) (h1' : okI n' = true) (h2' : okI b' = true) (h3' : okI t' = true) (h : keyL n b t = keyL n' b' t') : n = n' ∧ b = b' ∧ t = t' := by
  have := law78.inj (key78 n b t h1 h2 h3) (by rw [h]; exact key78 n' b' t' h1' h2' h3')
  unfold keyV at this
  injection this with this
  simp at this
  exact this
theorem stD_isMap : ∀ s : St, IsMap (stD s)
  | [] => isMap_empty
  | ((_, _, _), _) :: s => (stD_isMap s).put _ _
theorem keyL_isKey (n b t : Int) : WideAt.IsKeyLit (keyL n b t) := trivial
theorem stD_get : ∀ (s : St) (n b t : Int), stOk s → okI n = true → okI b = true → okI t = true → (stD s).atKey (keyL n b t) (.lit (.int .i64 0)) = .lit (.int .i64 (stGet s n b t))
  | [], _, _, _, _, _, _, _ => rfl
  | ((n', b', t'), v) :: s, n, b, t, hs, h1, h2, h3 => by
    have hh := hs _ List.mem_cons_self
    by_cases c : n' = n ∧ b' = b ∧ t' = t
    · obtain ⟨rfl, rfl, rfl⟩ := c
      simp only [stD, stGet, and_self, if_true]
      exact atKey_put_same (stD_isMap s) (keyL_isKey _ _ _) _ _
    · simp only [stD, stGet, if_neg c]
      rw [atKey_put_other (fun e => c (keyL_inj hh.1 hh.2.1 hh.2.2 h1 h2 h3 e.symm))]
      exact stD_get s n b t (fun x hx => hs x (List.mem_cons_of_mem _ hx)) h1 h2 h3
theorem stD_has : ∀ (s : St) (n b t : Int), stOk s → okI n = true → okI b = true → okI t = true → Maps.has (stD s) (keyL n b t) = stHas s n b t
  | [], _, _, _, _, _, _, _ => rfl
  | ((n', b', t'), v) :: s, n, b, t, hs, h1, h2, h3 => by
    have hh := hs _ List.mem_cons_self
    by_cases c : n' = n ∧ b' = b ∧ t' = t
    · obtain ⟨rfl, rfl, rfl⟩ := c
      simp only [stD, stHas, and_self, if_true]
      exact has_put_same (stD_isMap s) (keyL_isKey _ _ _) _
    · simp only [stD, stHas, if_neg c]
      rw [has_put_other (fun e => c (keyL_inj hh.1 hh.2.1 hh.2.2 h1 h2 h3 e.symm))]
      exact stD_has s n b t (fun x hx => hs x (List.mem_cons_of_mem _ hx)) h1 h2 h3

theorem stGet_none : ∀ (s : St) (n b t : Int), stHas s n b t = false → stGet s n b t = 0
  | [], _, _, _, _ => rfl
  | ((n', b', t'), v) :: s, n, b, t, h => by
    simp only [stHas] at h
    by_cases c : n' = n ∧ b' = b ∧ t' = t
    · rw [if_pos c] at h; cases h
    · rw [if_neg c] at h
      simp only [stGet, if_neg c]
      exact stGet_none s n b t h

def count_l (rec : Int → Int → Int → St → Option (Int × St)) : Nat → Int → Int → Int → Int → St → Int → Option (Int × St)
  | 0, _, _, _, _, _, _ => none
  | j + 1, n, b, t, sum, st, l =>
    if l < n then
      (rec l (wrap64 (b - 1)) (wrap64 (t - 1)) st).bind fun x =>
        (rec (wrap64 (wrap64 (n - 1) - l)) b (wrap64 (t - 1)) x.2).bind fun y => count_l rec j n b t (wrap64 (sum + wrap64 (x.1 * y.1))) y.2 (wrap64 (l + 1))
    else some (sum, st)
def count_f : Nat → Int → Int → Int → St → Option (Int × St)
  | 0, _, _, _, _ => none
  | k + 1, n, b, t, st =>
    if n = 0 then some (1, st) else
      (trial_reach.f 100 b t).bind fun rc =>
        if rc < n then some (0, st) else
          if okI n = true ∧ okI b = true ∧ okI t = true then
            if stHas st n b t = true then some (stGet st n b t, st)
            else (count_l (count_f k) 100 n b t 0 st 0).bind fun p =>
              if p.2.length < 1000 ∧ okI p.1 = true then some (p.1, ((n, b, t), p.1) :: p.2) else none
          else none

/-- What the literal of Count finds in memory: the variable that holds the map, its own variable, and the map. -/
structure MS (base bk bm bc : Nat) (st : St) (w : World) : Prop where
  hk : w.heap[bk]? = some (.cells #[.map (some bm)] 76 (0, 0))
  hc : w.heap[bc]? = some (.cells #[.func (.func 50) #[] #[.pointer (some ⟨bk, 0, none⟩), .pointer (some ⟨bc, 0, none⟩)]] 77 (0, 0))
  hm : w.ownsMap Tryz.prog 78 (plainElem Tryz.prog 3) bm st.length (stD st)
  ok : stOk st
  base_le : base ≤ bm
theorem MS.ne {base bk bm bc : Nat} {st : St} {w : World} (h : MS base bk bm bc st w) : bk ≠ bm ∧ bc ≠ bm := by
  obtain ⟨es, clock, hb, _⟩ := h.hm
  constructor
  · intro e; subst e; have := h.hk; rw [hb] at this; cases this
  · intro e; subst e; have := h.hc; rw [hb] at this; cases this
theorem MS.grown {base bk bm bc : Nat} {st : St} {w w' : World} (h : MS base bk bm bc st w) {row : Option Nat} (hg : w.grownBy w' row) (h1 : some bk ≠ row) (h2 : some bc ≠ row) (h3 : some bm ≠ row) : MS base bk bm bc st w' :=
  ⟨(hg.block _ (Array.getElem?_eq_some_iff.1 h.hk).1 h1).trans h.hk, (hg.block _ (Array.getElem?_eq_some_iff.1 h.hc).1 h2).trans h.hc, h.hm.kept hg h3, h.ok, h.base_le⟩
theorem MS.below {base bk bm bc : Nat} {st : St} {w w' : World} (h : MS base bk bm bc st w) (hB : Below w.heap.size w w') : MS base bk bm bc st w' := h.grown (grown_of_below hB none) (by simp) (by simp) (by simp)
theorem MS.put {base bk bm bc : Nat} {st : St} {w w' : World} (h : MS base bk bm bc st w) {n b t v : Int} (h1 : okI n = true) (h2 : okI b = true) (h3 : okI t = true)
    (hm : w'.ownsMap Tryz.prog 78 (plainElem Tryz.prog 3) bm (st.length + 1) ((stD st).put (keyL n b t) (.lit (.int .i64 v)))) (hg : w.grownBy w' (some bm)) : MS base bk bm bc (((n, b, t), v) :: st) w' :=
  ⟨(hg.block _ (Array.getElem?_eq_some_iff.1 h.hk).1 (fun e => h.ne.1 (by injection e))).trans h.hk, (hg.block _ (Array.getElem?_eq_some_iff.1 h.hc).1 (fun e => h.ne.2 (by injection e))).trans h.hc, hm,
    fun x hx => by
      rcases List.mem_cons.mp hx with rfl | hx
      · exact ⟨h1, h2, h3⟩
      · exact h.ok x hx, h.base_le⟩

def CountPost (base bk bm bc : Nat) (v : Int) (st' : St) (w : World) (e : Ending) (w' : World) : Prop :=
  e = .returned (.int .i64 v) ∧ MS base bk bm bc st' w' ∧ w.grownBy w' (some bm)

set_option maxHeartbeats 8000000 in
set_option maxRecDepth 100000 in
theorem count1_calls (base bk bm bc : Nat) : ∀ (k : Nat) (n b t : Int) (st : St) (r : Int × St) (w : World), MS base bk bm bc st w → count_f k n b t st = some r →
    Calls Tryz.prog 50 #[.int .i64 n, .int .i64 b, .int .i64 t, .pointer (some ⟨bk, 0, none⟩), .pointer (some ⟨bc, 0, none⟩)] w (CountPost base bk bm bc r.1 r.2 w) := by
  intro k
  induction k with
  | zero => intro n b t st r w _ h; simp [count_f] at h
  | succ k ih =>
    intro n b t st r w hS h
    have IH := Aside0.mk (fun n b t st r w a c => ih n b t st r w a c)
    clear ih
    have HS := Aside0.mk hS
    clear hS
    simp only [count_f] at h
    by_cases c : n = 0
    · rw [if_pos c] at h
      obtain rfl := Option.some.inj h
      clear h
      have cb : (n == 0) = true := beq_iff_eq.mpr c
      clear c
      go_enter Tryz.func50, Tryz.ntmps50
      go_wp2
      go_ret
      exact ⟨rfl, HS.out, World.grownBy.refl _ _⟩
    · rw [if_neg c] at h
      have cb : (n == 0) = false := beq_eq_false_iff_ne.mpr c
      clear c
      obtain ⟨rc, hrc, h⟩ := Option.bind_eq_some_iff.mp h
      have HRC := Aside0.mk hrc
      clear hrc
      by_cases c : rc < n
      · rw [if_pos c] at h
        obtain rfl := Option.some.inj h
        clear h
        have cb1 : decide (rc < n) = true := decide_eq_true c
        clear c
        go_enter Tryz.func50, Tryz.ntmps50
        go_wp2_with fail
        refine (trial_reach.calls 100 b t rc _ HRC.out).mono ?_
        rintro e w1 ⟨rfl, h1⟩
        have HB1 := Aside0.mk h1
        clear h1
        go_wp2
        go_ret
        exact ⟨rfl, HS.out.below HB1.out, grown_of_below HB1.out _⟩
      · rw [if_neg c] at h
        have cb1 : decide (rc < n) = false := decide_eq_false c
        clear c
        by_cases ck : okI n = true ∧ okI b = true ∧ okI t = true
        case neg => rw [if_neg ck] at h; cases h
        rw [if_pos ck] at h
        have HK := Aside0.mk (key78 n b t ck.1 ck.2.1 ck.2.2)
        have HCK := Aside0.mk ck
        have HG := Aside0.mk (stD_get st n b t HS.out.ok ck.1 ck.2.1 ck.2.2)
        have hh := stD_has st n b t HS.out.ok ck.1 ck.2.1 ck.2.2
        clear ck
        by_cases ch : stHas st n b t = true
        · rw [if_pos ch] at h
          rw [ch] at hh
          obtain rfl := Option.some.inj h
          clear h ch
          go_enter Tryz.func50, Tryz.ntmps50
          go_wp2_with fail
          refine (trial_reach.calls 100 b t rc _ HRC.out).mono ?_
          rintro e w1 ⟨rfl, h1⟩
          have HB1 := Aside0.mk h1
          clear h1
          have HS1 := Aside0.mk (HS.out.below HB1.out)
          have HM1 := Aside0.mk (HS1.out.hm.alloc (.cells #[.int .i64 n, .int .i64 b, .int .i64 t] 78))
          have HS2 := Aside0.mk (HS1.out.below (below_alloc (Below.refl _ _) (.cells #[.int .i64 n, .int .i64 b, .int .i64 t] 78)))
          have c1 := cell_of_blk'' HS2.out.hk 0
          simp at c1
          go_wp2_with (first | (at_lookup; refine wpList_lookup_own_ok_int _ rfl _ _ 76 rfl 78 3 .i64 law78 Tryz.underlying76 Tryz.underlying3 (zero3 _) bm st.length (stD st) rfl HM1.out (keyV n b t) (keyL n b t) rfl HK.out ?_; intro c hat hwc; obtain rfl : c = stGet st n b t := (by have q := hat.symm.trans HG.out; injection q with q; injection q); clear hat hwc) | fail)
          go_wp2
          go_ret
          exact ⟨rfl, HS2.out, World.grownBy.trans (grown_of_below HB1.out _) (World.grownBy_alloc _ _ _)⟩
        · rw [if_neg ch] at h
          have ch2 : stHas st n b t = false := by cases hq : stHas st n b t with
            | true => exact absurd hq ch
            | false => rfl
          rw [ch2] at hh
          have hg0 := stGet_none st n b t ch2
          rw [hg0] at HG
          clear ch ch2 hg0
          obtain ⟨p, hp, h⟩ := Option.bind_eq_some_iff.mp h
          have HP := Aside0.mk hp
          clear hp
          by_cases cp : p.2.length < 1000 ∧ okI p.1 = true
          case neg => rw [if_neg cp] at h; cases h
          rw [if_pos cp] at h
          obtain rfl := Option.some.inj h
          have HCP := Aside0.mk cp
          clear h cp
          go_enter Tryz.func50, Tryz.ntmps50
          go_wp2_with fail
          refine (trial_reach.calls 100 b t rc _ HRC.out).mono ?_
          rintro e w1 ⟨rfl, h1⟩
          have HB1 := Aside0.mk h1
          clear h1
          have HS1 := Aside0.mk (HS.out.below HB1.out)
          have HM1 := Aside0.mk (HS1.out.hm.alloc (.cells #[.int .i64 n, .int .i64 b, .int .i64 t] 78))
          have HS2 := Aside0.mk (HS1.out.below (below_alloc (Below.refl _ _) (.cells #[.int .i64 n, .int .i64 b, .int .i64 t] 78)))
          have HW2 := Aside0.mk (World.grownBy.trans (grown_of_below HB1.out (some bm)) (World.grownBy_alloc w1 (.cells #[.int .i64 n, .int .i64 b, .int .i64 t] 78) (some bm)))
          have c1 := cell_of_blk'' HS2.out.hk 0
          simp at c1
          go_wp2_with (first | (at_lookup; refine wpList_lookup_own_ok_int _ rfl _ _ 76 rfl 78 3 .i64 law78 Tryz.underlying76 Tryz.underlying3 (zero3 _) bm st.length (stD st) rfl HM1.out (keyV n b t) (keyL n b t) rfl HK.out ?_; intro c hat hwc; obtain rfl : c = 0 := (by have q := hat.symm.trans HG.out; injection q with q; injection q); clear hat hwc) | fail)
          go_loopg [10, 35] 100 (fun kq v10 v35 w' => ∃ (sum l : Int) (st' : St), v10 = .int .i64 sum ∧ v35 = .int .i64 l ∧ Aside0 (count_l (count_f k) kq n b t sum st' l = some p) ∧ Aside0 (kq ≤ 100) ∧ Aside0 (MS base bk bm bc st' w') ∧ Aside0 ((w1.alloc (.cells #[.int .i64 n, .int .i64 b, .int .i64 t] 78)).grownBy w' (some bm)))
          case atStart => exact ⟨0, 0, st, rfl, rfl, HP, ⟨Nat.le_refl _⟩, HS2, ⟨World.grownBy.refl _ _⟩⟩
          case round =>
            clear HP HS2 HM1 c1
            obtain ⟨sum, l, st', rfl, rfl, HA, HK1, HS2, HG2⟩ := hrel
            have hbm := Aside0.mk (show bm ≠ w1.heap.size from fun e => by have q := HS1.out.hm.lt; omega)
            have hkb := Aside0.mk ((HG2.out.block w1.heap.size (by simp) (fun e => hbm.out (by injection e with e; exact e.symm))).trans (heap_alloc_new w1 _))
            have k0 := cell_of_blk'' hkb.out 0
            have k1 := cell_of_blk'' hkb.out 1
            have k2 := cell_of_blk'' hkb.out 2
            have fk := cell_of_blk'' HS2.out.hk 0
            have fc := cell_of_blk'' HS2.out.hc 0
            simp at k0 k1 k2 fk fc
            cases gk with
            | zero => exact absurd HA.out (by simp [count_l])
            | succ k1' =>
              have G := HA.out
              clear HA
              simp only [count_l] at G
              by_cases d : l < n
              · rw [if_pos d] at G
                have db : decide (l < n) = true := decide_eq_true d
                clear d
                obtain ⟨x, hx, G⟩ := Option.bind_eq_some_iff.mp G
                obtain ⟨y, hy, G⟩ := Option.bind_eq_some_iff.mp G
                obtain ⟨b1, hb1⟩ : ∃ j : Int, wrap64 (b - 1) = j := ⟨_, rfl⟩
                obtain ⟨t1, ht1⟩ : ∃ j : Int, wrap64 (t - 1) = j := ⟨_, rfl⟩
                obtain ⟨m0, hm0⟩ : ∃ j : Int, wrap64 (n - 1) = j := ⟨_, rfl⟩
                rw [hb1, ht1] at hx
                rw [ht1, hm0] at hy
                obtain ⟨m1, hm1⟩ : ∃ j : Int, wrap64 (m0 - l) = j := ⟨_, rfl⟩
                rw [hm1] at hy
                have hb1w : (IntKind.i64.wrap (b - 1)) = b1 := (i64_w _).trans hb1
                have ht1w : (IntKind.i64.wrap (t - 1)) = t1 := (i64_w _).trans ht1
                have hm0w : (IntKind.i64.wrap (n - 1)) = m0 := (i64_w _).trans hm0
                have hm1w : (IntKind.i64.wrap (m0 - l)) = m1 := (i64_w _).trans hm1
                have HX := Aside0.mk hx
                have HY := Aside0.mk hy
                have G' := Aside0.mk G
                clear hx hy G hb1 ht1 hm0 hm1
                go_wp2_with fail
                go_region_held3 (fun w' => w'.cell? ⟨bc, 0, none⟩ = some (.func (.func 50) #[] #[.pointer (some ⟨bk, 0, none⟩), .pointer (some ⟨bc, 0, none⟩)])) (first | exact fc | exact fc3.out | exact fc4.out | go_keep) (first | (go_at_call_of 50 (Value.int .i64 l); refine (IH.out l b1 t1 st' x _ (HS2.out.below (by repeat (first | exact Below.refl _ _ | apply pw_below_drewN | apply below_drew1))) HX.out).mono ?_; rintro e w3 ⟨rfl, h3, h4⟩; have HS3 := Aside0.mk h3; have HG3 := Aside0.mk h4; have fc3 := Aside0.mk (cell_of_blk'' HS3.out.hc 0); clear h3 h4) | (go_at_call_of 50 (Value.int .i64 m1); refine (IH.out m1 b t1 x.2 y _ (HS3.out.below (by repeat (first | exact Below.refl _ _ | apply pw_below_drewN | apply below_drew1))) HY.out).mono ?_; rintro e w4 ⟨rfl, h3, h4⟩; have HS4 := Aside0.mk h3; have HG4 := Aside0.mk h4; have fc4 := Aside0.mk (cell_of_blk'' HS4.out.hc 0); clear h3 h4))
                clear fk fc k0 k1 k2
                go_wp2
                go_roundg k1'
                case measure => have := HK1.out; omega
                case rel => exact ⟨_, _, y.2, rfl, rfl, ⟨by simp only [i64_w]; exact G'.out⟩, ⟨by have := HK1.out; omega⟩, ⟨HS4.out.below (by repeat (first | exact Below.refl _ _ | apply pw_below_drewN | apply below_drew1))⟩, ⟨World.grownBy.trans HG2.out (World.grownBy.trans (grown_of_below (by repeat (first | exact Below.refl _ _ | apply pw_below_drewN | apply below_drew1)) _) (World.grownBy.trans HG3.out (World.grownBy.trans (grown_of_below (by repeat (first | exact Below.refl _ _ | apply pw_below_drewN | apply below_drew1)) _) (World.grownBy.trans HG4.out (grown_of_below (by repeat (first | exact Below.refl _ _ | apply pw_below_drewN | apply below_drew1)) _)))))⟩⟩
              · rw [if_neg d] at G
                have db : decide (l < n) = false := decide_eq_false d
                clear d
                obtain rfl := Option.some.inj G
                clear G
                have HM2 := Aside0.mk HS2.out.hm
                go_wp2_with (first | (at_mapUpdate; refine wpList_mapUpdate_own _ rfl _ _ _ 76 rfl 78 3 law78 Tryz.underlying76 _ bm st'.length (stD st') rfl HM2.out (by have q : st'.length < 1000 := HCP.out.1; unfold maxLen; omega) (keyV n b t) _ (keyL n b t) rfl rfl HK.out (.lit (.int .i64 sum)) [] (plainElem_int Tryz.underlying3 HCP.out.2) ?_; intro w3 hown3 hg3; have HM3 := Aside0.mk hown3; have HG3 := Aside0.mk hg3; clear hown3 hg3) | fail)
                go_wp2
                go_ret
                have hck : okI n = true ∧ okI b = true ∧ okI t = true := HCK.out
                exact ⟨rfl, HS2.out.put hck.1 hck.2.1 hck.2.2 HM3.out HG3.out, World.grownBy.trans HW2.out (World.grownBy.trans HG2.out HG3.out)⟩

def trial_Count.f (a0 a1 a2 : Int) : Option (Int × Int) :=
  if trial_outside.f a0 0 12 = some false ∧ trial_outside.f a1 1 6 = some false ∧ trial_outside.f a2 0 12 = some false then (count_f 20 a0 a1 a2 []).bind fun p => some (p.1, 0) else none

theorem count_start (w : World) : MS w.heap.size (w.heap.size + 1) w.heap.size (w.heap.size + 1 + 1) []
    (((w.alloc (.map #[] 0)).alloc (.cells #[.map (some w.heap.size)] 76)).alloc (.cells #[.func (.func 50) #[] #[.pointer (some ⟨w.heap.size + 1, 0, none⟩), .pointer (some ⟨w.heap.size + 1 + 1, 0, none⟩)]] 77)) := by
  refine ⟨?_, ?_, ?_, fun x hx => absurd hx List.not_mem_nil, Nat.le_refl _⟩
  · refine ((below_alloc (Below.refl ((w.alloc (.map #[] 0)).alloc (.cells #[.map (some w.heap.size)] 76)).heap.size _) _).block (w.heap.size + 1) (by simp)).trans ?_
    have := heap_alloc_new (w.alloc (.map #[] 0)) (.cells #[.map (some w.heap.size)] 76)
    simpa using this
  · have := heap_alloc_new ((w.alloc (.map #[] 0)).alloc (.cells #[.map (some w.heap.size)] 76)) (.cells #[.func (.func 50) #[] #[.pointer (some ⟨w.heap.size + 1, 0, none⟩), .pointer (some ⟨w.heap.size + 1 + 1, 0, none⟩)]] 77)
    simpa using this
  · exact ((World.ownsMap_made w Tryz.prog 78 (plainElem Tryz.prog 3)).alloc _).alloc _

set_option maxHeartbeats 4000000 in
set_option maxRecDepth 100000 in
theorem trial_Count.calls (a0 : Int) (a1 : Int) (a2 : Int) (r1 : Int) (r2 : Int) (w : World) (h : trial_Count.f a0 a1 a2 = some (r1, r2)) :
    Calls Tryz.prog 17 #[.int .i64 a0, .int .i64 a1, .int .i64 a2] w fun e w' => e = .returned (.tuple #[.int .i64 r1, .int .i64 r2]) ∧ Below w.heap.size w w' := by
  unfold trial_Count.f at h
  by_cases c : trial_outside.f a0 0 12 = some false ∧ trial_outside.f a1 1 6 = some false ∧ trial_outside.f a2 0 12 = some false
  case neg => rw [if_neg c] at h; cases h
  rw [if_pos c] at h
  have HC := Aside0.mk c
  clear c
  obtain ⟨p, hp, h⟩ := Option.bind_eq_some_iff.mp h
  have HP := Aside0.mk hp
  simp only [Option.some.injEq, Prod.mk.injEq] at h
  obtain ⟨rfl, rfl⟩ := h
  clear hp
  have hmm := @run_makeMap Tryz.prog
  go_enter Tryz.func17, Tryz.ntmps17
  go_wp2_with fail
  refine (trial_outside.calls _ _ _ false _ HC.out.1).mono ?_
  rintro e w1 ⟨rfl, ⟨n1, rfl⟩⟩
  go_wp2_with fail
  refine (trial_outside.calls _ _ _ false _ HC.out.2.1).mono ?_
  rintro e w1 ⟨rfl, ⟨n2, rfl⟩⟩
  go_wp2_with fail
  refine (trial_outside.calls _ _ _ false _ HC.out.2.2).mono ?_
  rintro e w1 ⟨rfl, ⟨n3, rfl⟩⟩
  go_wp2_with fail
  refine (count1_calls w.heap.size (w.heap.size + 1) w.heap.size (w.heap.size + 1 + 1) 20 a0 a1 a2 [] p _ (count_start (w.drewN (n1 + n2 + n3))) HP.out).mono ?_
  rintro e w2 ⟨rfl, h1, h2⟩
  have HB := Aside0.mk (show Below w.heap.size w w2 from Below.grown (by repeat (first | exact Below.refl _ _ | apply pw_below_drewN | apply below_drew1 | apply below_alloc)) h2 (by simp; omega) (fun k hk => by injection hk with hk; omega))
  clear h1 h2
  go_wp2
  go_ret2
  exact ⟨rfl, HB.out⟩
end Go.Proofs.YtengjaojkcokcaaGreatDoor.T
