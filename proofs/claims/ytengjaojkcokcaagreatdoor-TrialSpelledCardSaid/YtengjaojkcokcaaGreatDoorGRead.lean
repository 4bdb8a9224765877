/- Words are checked: the walk of trial.read, with its map from beginnings to the letters that continue them. -/
import Derived.Test.YtengjaojkcokcaaGreatDoorTA
import Derived.Test.YtengjaojkcokcaaGreatDoorGShelf
import Derived.Maps.OwnSet
import Derived.Maps.StringElems
import Derived.Lib.OthersKept
import Derived.StillTailTactics
namespace Go.Proofs.YtengjaojkcokcaaGreatDoor.T
open Go.RowKit Go.Maps Go.WideMaps Go.Proofs.YtengjaojkcokcaaGreatDoorW.PrintWords Go.Proofs.YtengjaojkcokcaaGreatDoorW.PrintLast Go.Proofs.YtengjaojkcokcaaGreatDoorW.PrintMore

abbrev St2 := List (List UInt8 × List UInt8)
def sGet : St2 → List UInt8 → List UInt8
  | [], _ => []
  | (k, v) :: s, key => if k = key then v else sGet s key
def sHas : St2 → List UInt8 → Bool
  | [], _ => false
  | (k, _) :: s, key => if k = key then true else sHas s key
def bsOf (l : List UInt8) : ByteArray := ⟨l.toArray⟩
theorem bsOf_list (l : List UInt8) : (bsOf l).data.toList = l := by simp [bsOf]
theorem bsOf_eq {b : ByteArray} {l : List UInt8} (h : b.data.toList = l) : b = bsOf l := by
  subst h; cases b; simp [bsOf]

theorem lit_inj {a b : List UInt8} (h : (DataW.lit (.string a) : DataW Unit) = .lit (.string b)) : a = b := by
  cases h; rfl
theorem key9 (l : List UInt8) : WideAt.IsKeyLit (.string l) := trivial
theorem law9 : Keyed Tryz.prog 9 := string_keyed Tryz.underlying9
/-- Block bm is a map that reads as st. -/
def MR (bm : Nat) (st : St2) (w : World) : Prop :=
  ∃ D : DataW Unit, w.ownsMap Tryz.prog 9 (plainElem Tryz.prog 9) bm st.length D ∧ ∀ key, Maps.has D (.string key) = sHas st key ∧ (sHas st key = true → ∀ z, D.atKey (.string key) z = .lit (.string (sGet st key)))
theorem MR.lt {bm : Nat} {st : St2} {w : World} (h : MR bm st w) : bm < w.heap.size := by obtain ⟨D, h, _⟩ := h; exact h.lt
theorem MR.kept {bm : Nat} {st : St2} {w w' : World} (h : MR bm st w) {row : Option Nat} (hg : w.grownBy w' row) (hne : some bm ≠ row) : MR bm st w' := by
  obtain ⟨D, h1, h2⟩ := h
  exact ⟨D, h1.kept hg hne, h2⟩
theorem MR.below {bm : Nat} {st : St2} {w w' : World} (h : MR bm st w) (hB : Below w.heap.size w w') : MR bm st w' := h.kept (grown_of_below hB none) (by simp)
theorem MR.made (w : World) : MR w.heap.size [] (w.alloc (.map #[] 0)) :=
  ⟨.map [], World.ownsMap_made w Tryz.prog 9 (plainElem Tryz.prog 9), fun _ => ⟨rfl, fun h => by cases h⟩⟩
theorem sGet_none : ∀ (s : St2) (key : List UInt8), sHas s key = false → sGet s key = []
  | [], _, _ => rfl
  | (k, v) :: s, key, h => by
    simp only [sHas] at h
    by_cases c : k = key
    · rw [if_pos c] at h; cases h
    · rw [if_neg c] at h
      simp only [sGet, if_neg c]
      exact sGet_none s key h
theorem MR.look {bm : Nat} {st : St2} {w : World} (h : MR bm st w) (key : ByteArray) (hk : key.size ≤ maxLen) :
    (Instr.lookup 73 (.map (some bm)) (.string key) false).run Tryz.prog w = .ok (.string (bsOf (sGet st key.data.toList))) w := by
  obtain ⟨D, h1, h2⟩ := h
  obtain ⟨v, ps, hrun, hv⟩ := h1.lookup law9 Tryz.underlying73 (z := .string ⟨#[]⟩) (Tryz.zeroValue9 w) (zd := .lit (.string [])) (zp := []) (plainElem_string Tryz.underlying9 (Nat.zero_le _)) (keyOf_string_mk Tryz.underlying9 hk)
  obtain ⟨s, rfl, hz, _⟩ := plainElem_string_inv Tryz.underlying9 hv
  simp only [Prod.mk.injEq] at hz
  have hs : s.data.toList = sGet st key.data.toList := by
    cases hh : sHas st key.data.toList with
    | true =>
      have q := (h2 key.data.toList).2 hh (.lit (.string []))
      exact lit_inj (hz.1.symm.trans q)
    | false =>
      have q := atKey_of_not_has (show Maps.has D (.string key.data.toList) = false by rw [(h2 _).1]; exact hh) (.lit (.string []))
      rw [lit_inj (hz.1.symm.trans q), sGet_none st _ hh]
  rw [hrun, bsOf_eq hs]
theorem MR.put {bm : Nat} {st : St2} {w w' : World} {D : DataW Unit} (h1 : w.ownsMap Tryz.prog 9 (plainElem Tryz.prog 9) bm st.length D) (h2 : ∀ key, Maps.has D (.string key) = sHas st key ∧ (sHas st key = true → ∀ z, D.atKey (.string key) z = .lit (.string (sGet st key))))
    (key val : List UInt8) (h3 : w'.ownsMap Tryz.prog 9 (plainElem Tryz.prog 9) bm (st.length + 1) (D.put (.string key) (.lit (.string val)))) : MR bm ((key, val) :: st) w' := by
  refine ⟨_, h3, fun k => ?_⟩
  have hM : IsMap D := h1.isMap
  by_cases c : key = k
  · subst c
    refine ⟨?_, fun _ z => ?_⟩
    · rw [has_put_same hM (key9 _)]; simp [sHas]
    · rw [atKey_put_same hM (key9 _)]; simp [sGet]
  · have hne : (Lit.string k) ≠ .string key := fun e => c (by injection e with e; exact e.symm)
    refine ⟨?_, fun hh z => ?_⟩
    · rw [has_put_other hne]; simp only [sHas, if_neg c]; exact (h2 k).1
    · rw [atKey_put_other hne]; simp only [sHas, if_neg c] at hh; simp only [sGet, if_neg c]; exact (h2 k).2 hh z

def geB (a b : ByteArray) : Bool := !(Op.bytesLess a.toList b.toList)
def read_o : Nat → List ByteArray → List ByteArray → Int → Option Bool
  | 0, _, _, _ => none
  | k + 1, l, l', i =>
    if i < (l'.length : Int) then if 0 ≤ i then if i < (l.length : Int) then
      if geB (rdOf ByteArray.empty l i) (rdOf ByteArray.empty l' i) = true then some true else read_o k l l' (wrap64 (i + 1))
    else none else none else some false
def read_p : Nat → List ByteArray → List ByteArray → Int → Option Bool
  | 0, _, _, _ => none
  | k + 1, l, l', i =>
    if i < (l'.length : Int) then if 0 ≤ i then if i < (l.length : Int) then
      (strings_HasPrefix.f (rdOf ByteArray.empty l' i) (rdOf ByteArray.empty l i)).bind fun b => if b = true then some true else read_p k l l' (wrap64 (i + 1))
    else none else none else some false
def rd_step (st : St2) (bs : List UInt8) (pos : Nat) : St2 :=
  if 0 ≤ Lib.indexByte (sGet st (bs.take pos)) (bs.getD pos 0) then st else (bs.take pos, sGet st (bs.take pos) ++ [bs.getD pos 0]) :: st
def read_k : Nat → List UInt8 → St2 → Nat → Option St2
  | 0, _, _, _ => none
  | k + 1, bs, st, pos =>
    if pos < bs.length then
      if (bs.getD pos 0).toNat < 128 ∧ bs.length < 1000 ∧ st.length < 1000 ∧ (sGet st (bs.take pos)).length < 1000 then read_k k bs (rd_step st bs pos) (pos + 1) else none
    else some st
def read_w : Nat → List ByteArray → St2 → Int → Option St2
  | 0, _, _, _ => none
  | k + 1, l, st, i =>
    if i < (l.length : Int) then if 0 ≤ i then (read_k 100 (rdOf ByteArray.empty l i).data.toList st 0).bind fun st' => read_w k l st' (wrap64 (i + 1)) else none
    else some st
def good (w : ByteArray) : Bool := decide (w.size ≤ 12) && decide (Lib.trimS w.data.toList [98, 115] = [])
def read_e (st : St2) : Int := if st.any (fun e => decide ((sGet st e.1).length < 2)) = true then 21 else 0
def trial_read.f (l : List ByteArray) : Option Int :=
  if l.length = 0 then some 4 else if l.length ≤ 13 ∧ l.all good = true then
    (read_o 100 l (l.drop 1) 0).bind fun o => if o = true then some 7 else
      (read_p 100 l (l.drop 1) 0).bind fun p => if p = true then some 13 else
        (read_w 100 l [] 0).bind fun st => some (read_e st)
  else none

theorem cut1 (A : Option Addr) (c : Nat) (l : List ByteArray) (hl : 1 ≤ l.length) (hc : l.length ≤ c) : ∃ A' c', (∀ W : World, (Instr.slice 23 (.slice A l.length c) (some (.int .i64 1)) none none).run Tryz.prog W = .ok (.slice A' (l.drop 1).length c') W) ∧
    (∀ w, Kd.C Kd.string w A l.length l → Kd.C Kd.string w A' (l.drop 1).length (l.drop 1)) ∧ (l.drop 1).length ≤ c' := by
  obtain ⟨i, hi, hz⟩ := Option.map_eq_some_iff.1 info9
  simp only [Prod.mk.injEq] at hz
  refine ⟨if c = 1 then A else A.map (·.add 1), c - 1, fun W => ?_, fun w h => ?_, by rw [List.length_drop]; omega⟩
  · have := cut_from (P := Tryz.prog) 23 9 .i64 Tryz.underlying23 hi 1 hz.2.1 A l.length c 1 (by omega) (by omega) W
    rw [List.length_drop]
    simpa using this
  · have := Kd.C_drop (k := Kd.string) (c := c) h hl hc
    simpa [show (Kd.string).sz = 1 from rfl] using this

theorem good_spec {l : List ByteArray} (h : l.all good = true) {i : Int} (h0 : 0 ≤ i) (h1 : i < (l.length : Int)) : (rdOf ByteArray.empty l i).size ≤ 12 ∧ Lib.trimS (rdOf ByteArray.empty l i).data.toList [98, 115] = [] := by
  have hlt : i.toNat < l.length := by omega
  have hm : rdOf ByteArray.empty l i ∈ l := by
    unfold rdOf
    rw [List.getD_eq_getElem?_getD, List.getElem?_eq_getElem hlt]
    exact List.getElem_mem hlt
  have := List.all_eq_true.mp h _ hm
  simpa [good] using this

theorem trim_calls (s : ByteArray) (w : World) (h1 : s.size ≤ 12) (h2 : Lib.trimS s.data.toList [98, 115] = []) :
    Calls Tryz.prog 45 #[.string s, .string ⟨#[98, 115]⟩] w fun e w' => e = .returned (.string ⟨#[]⟩) ∧ Below w.heap.size w w' := by
  refine (Tryz.strings_Trim_laid s ⟨#[98, 115]⟩ w (by omega) (by decide) ?_).mono fun e w' ⟨he, hb⟩ => ⟨?_, hb⟩
  · intro j b hj
    match j, hj with
    | 0, hj => simp at hj; subst hj; decide
    | 1, hj => simp at hj; subst hj; decide
    | j + 2, hj => simp at hj
  · rw [he]
    have : Lib.trimS s.data.toList (⟨#[98, 115]⟩ : ByteArray).data.toList = [] := h2
    rw [this]

theorem geq_run (s t : ByteArray) (W : World) : (Go.binOp .geq 9 (.string s) (.string t)).run Tryz.prog W = Result.ok (.bool (geB s t)) W := by
  simp [Go.binOp, Op.stringOp, geB]

theorem keyOf9 {key : Value} {kl : Lit} (h : keyOf Tryz.prog 9 key = some kl) : ∃ x : ByteArray, key = .string x ∧ kl = .string x.data.toList := by
  cases key <;> simp [keyOf, Tryz.underlying9, mapKey] at h
  exact ⟨_, rfl, h.2.symm⟩
theorem sHas_mem : ∀ (st : St2) (key : List UInt8), sHas st key = true → ∃ e ∈ st, e.1 = key
  | [], _, h => by cases h
  | (k, v) :: st, key, h => by
    simp only [sHas] at h
    by_cases c : k = key
    · exact ⟨(k, v), List.mem_cons_self .., c⟩
    · rw [if_neg c] at h
      obtain ⟨e, h1, h2⟩ := sHas_mem st key h
      exact ⟨e, List.mem_cons_of_mem _ h1, h2⟩
theorem mem_sHas : ∀ (st : St2) (e : List UInt8 × List UInt8), e ∈ st → sHas st e.1 = true
  | [], _, h => by cases h
  | (k, v) :: st, e, h => by
    simp only [sHas]
    by_cases c : k = e.1
    · rw [if_pos c]
    · rw [if_neg c]
      rcases List.mem_cons.mp h with rfl | h
      · exact absurd rfl c
      · exact mem_sHas st e h
theorem iter_grown (w : World) (k : Nat) (s : ByteArray) (pos : Nat) : w.grownBy (w.iterAt k s pos) (some k) :=
  ⟨rfl, rfl, rfl, by rw [Lib.iterAt_size]; exact Nat.le_refl _, fun i _ hi => Lib.iterAt_other w k i s pos (fun e => hi (by rw [e]))⟩

theorem extract_one (s : ByteArray) (pos : Nat) (h : pos < s.size) : s.extract pos (pos + 1) = ⟨#[s[pos]'h]⟩ := by
  apply ByteArray.ext
  apply Array.ext'
  have hl : pos < s.data.toList.length := by simpa using h
  have : s.data.toList.drop pos = s.data.toList[pos] :: s.data.toList.drop (pos + 1) := List.drop_eq_getElem_cons hl
  simp [Array.toList_extract, this]
  rfl

def IsInt (n : Int) (w : World) (e : Ending) (w' : World) : Prop := e = .returned (.int .i64 n) ∧ Below w.heap.size w w'

set_option maxHeartbeats 8000000 in
set_option maxRecDepth 100000 in
theorem trial_read.calls (A0 : Option Addr) (c0 : Nat) (l : List ByteArray) (r : Int) (w : World) (hr0 : Kd.C Kd.string w A0 l.length l) (hc0 : l.length ≤ c0) (h : trial_read.f l = some r) :
    Calls Tryz.prog 12 #[.slice A0 l.length c0] w (IsInt r w) := by
  unfold trial_read.f at h
  have HR := Aside0.mk hr0
  have HC := Aside0.mk hc0
  clear hr0 hc0
  have hmm := @run_makeMap Tryz.prog
  by_cases c : l.length = 0
  · rw [if_pos c] at h
    obtain rfl := Option.some.inj h
    have cb : ((l.length : Int) == 0) = true := beq_iff_eq.mpr (by omega)
    clear c h
    go_enter Tryz.func12, Tryz.ntmps12
    go_wp2
    go_ret
    exact ⟨rfl, Below.refl _ _⟩
  · rw [if_neg c] at h
    have cb : ((l.length : Int) == 0) = false := beq_eq_false_iff_ne.mpr (by omega)
    have H0 := Aside0.mk c
    clear c
    by_cases cg : l.length ≤ 13 ∧ l.all good = true
    case neg => rw [if_neg cg] at h; cases h
    rw [if_pos cg] at h
    have cb1 : decide ((13 : Int) < (l.length : Int)) = false := decide_eq_false (by have := cg.1; omega)
    have HL := Aside0.mk cg.1
    have HG := Aside0.mk cg.2
    clear cg
    have H := Aside0.mk h
    clear h
    obtain ⟨A1, c1, hcut, hcut2, hcut3⟩ := cut1 A0 c0 l (by have := H0.out; omega) HC.out
    have HCUT2 := Aside0.mk hcut2
    have HCUT3 := Aside0.mk hcut3
    clear hcut2 hcut3
    obtain ⟨l', hl'⟩ : ∃ l', l' = l.drop 1 := ⟨_, rfl⟩
    rw [← hl'] at hcut HCUT2 HCUT3 H
    have HL' := Aside0.mk hl'
    clear hl'
    go_enter Tryz.func12, Tryz.ntmps12
    go_wp2
    go_loopg [25] 20 (fun kq v25 w' => ∃ (i : Int), v25 = .int .i64 i ∧ Aside0 (0 ≤ i ∧ i ≤ l.length ∧ (l.length : Int) - i < kq) ∧ Aside0 (Below w.heap.size w w'))
    case atStart => exact ⟨0, rfl, ⟨by have := HL.out; omega⟩, ⟨Below.refl _ _⟩⟩
    case round =>
      obtain ⟨i, rfl, HI, HB⟩ := hrel
      have hi0 : (0 ≤ i) = True := eq_true HI.out.1
      by_cases d : i < (l.length : Int)
      · have db : decide (i < (l.length : Int)) = true := decide_eq_true d
        obtain ⟨ad, ea, hx⟩ := Kd.at_string (Kd.C_below HR.out HB.out) i HI.out.1 d
        cases ea
        have hgd := good_spec HG.out HI.out.1 d
        obtain ⟨s, hs⟩ : ∃ s, s = rdOf ByteArray.empty l i := ⟨_, rfl⟩
        rw [← hs] at hx hgd
        clear hs
        have hsz : decide ((12 : Int) < (s.size : Int)) = false := decide_eq_false (by have := hgd.1; omega)
        have HGD := Aside0.mk hgd
        have HD := Aside0.mk d
        replace d := eq_true d
        clear hgd
        go_wp2_with fail
        refine (trim_calls s _ HGD.out.1 HGD.out.2).mono ?_
        rintro e w1 ⟨rfl, h1⟩
        have HB1 := Aside0.mk (below_step HB.out h1)
        clear h1 HB
        go_wp2
        have hw : wrap64 (i + 1) = i + 1 := by have := HI.out; have := HL.out; unfold wrap64; omega
        go_roundg (gk - 1)
        case measure => have := HI.out; have := HD.out; omega
        case rel => exact ⟨i + 1, by rw [hw], ⟨by have := HI.out; have := HD.out; omega⟩, HB1⟩
      · have db : decide (i < (l.length : Int)) = false := decide_eq_false d
        clear d hi0
        go_wp2
        obtain ⟨o, ho, h⟩ := Option.bind_eq_some_iff.mp H.out
        have HO := Aside0.mk ho
        clear H
        have H := Aside0.mk h
        clear ho h
        go_loopg [41] 100 (fun kq v41 w' => ∃ (i : Int), v41 = .int .i64 i ∧ Aside0 (read_o kq l l' i = some o) ∧ Aside0 (kq ≤ 100) ∧ Aside0 (Below w.heap.size w w'))
        case atStart => exact ⟨0, rfl, HO, ⟨Nat.le_refl _⟩, HB⟩
        case round =>
          clear HO HB HI
          obtain ⟨i, rfl, HA, HK1, HB⟩ := hrel
          cases gk with
          | zero => exact absurd HA.out (by simp [read_o])
          | succ k1 =>
            have HA1 := HA.out
            clear HA
            simp only [read_o] at HA1
            by_cases c3 : i < (l'.length : Int)
            · rw [if_pos c3] at HA1
              have c3b0 : decide (i < (l'.length : Int)) = true := decide_eq_true c3
              by_cases c4 : 0 ≤ i
              · rw [if_pos c4] at HA1
                by_cases c5 : i < (l.length : Int)
                · rw [if_pos c5] at HA1
                  obtain ⟨ad, ea, hx⟩ := Kd.at_string (Kd.C_below HR.out HB.out) i c4 c5
                  cases ea
                  obtain ⟨ad1, ea1, hx1⟩ := Kd.at_string (Kd.C_below (HCUT2.out _ HR.out) HB.out) i c4 c3
                  cases ea1
                  obtain ⟨s, hs⟩ : ∃ s, s = rdOf ByteArray.empty l i := ⟨_, rfl⟩
                  obtain ⟨s1, hs1⟩ : ∃ s1, s1 = rdOf ByteArray.empty l' i := ⟨_, rfl⟩
                  rw [← hs, ← hs1] at HA1
                  rw [← hs] at hx
                  rw [← hs1] at hx1
                  clear hs hs1
                  have c4b0 : decide (0 ≤ i) = true := decide_eq_true c4
                  have c5b0 : decide (i < (l.length : Int)) = true := decide_eq_true c5
                  replace c3 := eq_true c3
                  replace c4 := eq_true c4
                  replace c5 := eq_true c5
                  cases cge : geB s s1 with
                  | true =>
                    rw [cge, if_pos rfl] at HA1
                    obtain rfl := Option.some.inj HA1
                    clear HA1
                    have hr := H.out
                    rw [if_pos rfl] at hr
                    obtain rfl := Option.some.inj hr
                    clear H hr
                    have hge := fun W => (geq_run s s1 W).trans (by rw [cge])
                    clear cge
                    go_wp2
                    go_ret
                    exact ⟨rfl, HB.out⟩
                  | false =>
                    rw [cge, if_neg (by decide)] at HA1
                    have H' := Aside0.mk HA1
                    clear HA1
                    have hge := fun W => (geq_run s s1 W).trans (by rw [cge])
                    clear cge
                    go_wp2
                    go_roundg k1
                    case measure => have := HK1.out; omega
                    case rel => exact ⟨_, rfl, H', ⟨by have := HK1.out; omega⟩, HB⟩
                · rw [if_neg c5] at HA1; exact absurd HA1 (by simp)
              · rw [if_neg c4] at HA1; exact absurd HA1 (by simp)
            · rw [if_neg c3] at HA1
              have c3b0 : decide (i < (l'.length : Int)) = false := decide_eq_false c3
              clear c3
              obtain rfl := Option.some.inj HA1
              clear HA1
              have hr := H.out
              rw [if_neg (by decide)] at hr
              clear H
              obtain ⟨p, hp, h⟩ := Option.bind_eq_some_iff.mp hr
              have HP := Aside0.mk hp
              have H := Aside0.mk h
              clear hp h hr
              go_wp2
              go_loopg [56] 100 (fun kq v56 w' => ∃ (i : Int), v56 = .int .i64 i ∧ Aside0 (read_p kq l l' i = some p) ∧ Aside0 (kq ≤ 100) ∧ Aside0 (Below w.heap.size w w'))
              case atStart => exact ⟨0, rfl, HP, ⟨Nat.le_refl _⟩, HB⟩
              case round =>
                clear HP HB HK1
                obtain ⟨i, rfl, HA, HK1, HB⟩ := hrel
                cases gk with
                | zero => exact absurd HA.out (by simp [read_p])
                | succ k1 =>
                  have HA1 := HA.out
                  clear HA
                  simp only [read_p] at HA1
                  by_cases c3 : i < (l'.length : Int)
                  · rw [if_pos c3] at HA1
                    have c3b0 : decide (i < (l'.length : Int)) = true := decide_eq_true c3
                    by_cases c4 : 0 ≤ i
                    · rw [if_pos c4] at HA1
                      by_cases c5 : i < (l.length : Int)
                      · rw [if_pos c5] at HA1
                        obtain ⟨b, hb, HA2⟩ := Option.bind_eq_some_iff.mp HA1
                        have HT := Aside0.mk hb
                        clear hb HA1
                        obtain ⟨ad, ea, hx⟩ := Kd.at_string (Kd.C_below HR.out HB.out) i c4 c5
                        cases ea
                        obtain ⟨ad1, ea1, hx1⟩ := Kd.at_string (Kd.C_below (HCUT2.out _ HR.out) HB.out) i c4 c3
                        cases ea1
                        have c4b0 : decide (0 ≤ i) = true := decide_eq_true c4
                        have c5b0 : decide (i < (l.length : Int)) = true := decide_eq_true c5
                        replace c3 := eq_true c3
                        replace c4 := eq_true c4
                        replace c5 := eq_true c5
                        cases b with
                        | true =>
                          rw [if_pos rfl] at HA2
                          obtain rfl := Option.some.inj HA2
                          clear HA2
                          have hr := H.out
                          rw [if_pos rfl] at hr
                          obtain rfl := Option.some.inj hr
                          clear H hr
                          go_wp2_with fail
                          refine (strings_HasPrefix.calls _ _ true _ HT.out).mono ?_
                          rintro e w1 ⟨rfl, ⟨n, rfl⟩⟩
                          go_wp2
                          go_ret
                          exact ⟨rfl, by repeat (first | exact HB.out | apply below_alloc | apply pw_below_drewN | apply below_drew1)⟩
                        | false =>
                          rw [if_neg (by decide)] at HA2
                          have H' := Aside0.mk HA2
                          clear HA2
                          go_wp2_with fail
                          refine (strings_HasPrefix.calls _ _ false _ HT.out).mono ?_
                          rintro e w1 ⟨rfl, ⟨n, rfl⟩⟩
                          go_wp2
                          go_roundg k1
                          case measure => have := HK1.out; omega
                          case rel => exact ⟨_, rfl, H', ⟨by have := HK1.out; omega⟩, ⟨by repeat (first | exact HB.out | apply below_alloc | apply pw_below_drewN | apply below_drew1)⟩⟩
                      · rw [if_neg c5] at HA1; exact absurd HA1 (by simp)
                    · rw [if_neg c4] at HA1; exact absurd HA1 (by simp)
                  · rw [if_neg c3] at HA1
                    have c3b0 : decide (i < (l'.length : Int)) = false := decide_eq_false c3
                    clear c3
                    obtain rfl := Option.some.inj HA1
                    clear HA1
                    have hr := H.out
                    rw [if_neg (by decide)] at hr
                    clear H
                    obtain ⟨st, hst, h⟩ := Option.bind_eq_some_iff.mp hr
                    obtain rfl := Option.some.inj h
                    have HST := Aside0.mk hst
                    clear hst h hr
                    go_wp2
                    have HM := Aside0.mk (MR.made wr)
                    have HBm := Aside0.mk (show Below w.heap.size w (wr.alloc (.map #[] 0)) by repeat (first | exact HB.out | apply below_alloc))
                    obtain ⟨bm, hbm⟩ : ∃ bm, bm = wr.heap.size := ⟨_, rfl⟩
                    have HBS := Aside0.mk (show w.heap.size ≤ bm by have := HB.out.size; omega)
                    rw [← hbm] at HM
                    rw [← hbm]
                    go_loopg [71] 100 (fun kq v71 w' => ∃ (i : Int) (st1 : St2), v71 = .int .i64 i ∧ Aside0 (read_w kq l st1 i = some st) ∧ Aside0 (kq ≤ 100) ∧ Aside0 (Below w.heap.size w w') ∧ Aside0 (MR bm st1 w'))
                    case atStart => exact ⟨0, [], rfl, HST, ⟨Nat.le_refl _⟩, HBm, HM⟩
                    case round =>
                      clear HST HB HK1 HBm HM hbm
                      obtain ⟨i, st1, rfl, HA, HK1, HB, HM⟩ := hrel
                      cases gk with
                      | zero => exact absurd HA.out (by simp [read_w])
                      | succ k1 =>
                        have HA1 := HA.out
                        clear HA
                        simp only [read_w] at HA1
                        by_cases c3 : i < (l.length : Int)
                        · rw [if_pos c3] at HA1
                          have c3b0 : decide (i < (l.length : Int)) = true := decide_eq_true c3
                          by_cases c4 : 0 ≤ i
                          · rw [if_pos c4] at HA1
                            obtain ⟨st2, h2, HA2⟩ := Option.bind_eq_some_iff.mp HA1
                            clear HA1
                            obtain ⟨ad, ea, hx⟩ := Kd.at_string (Kd.C_below HR.out HB.out) i c4 c3
                            cases ea
                            obtain ⟨s, hs⟩ : ∃ s, s = rdOf ByteArray.empty l i := ⟨_, rfl⟩
                            have HSZ := Aside0.mk (show s.size ≤ 12 from hs ▸ (good_spec HG.out c4 c3).1)
                            rw [← hs] at h2 hx
                            have HRK := Aside0.mk h2
                            have H' := Aside0.mk HA2
                            clear hs h2 HA2
                            have c4b0 : decide (0 ≤ i) = true := decide_eq_true c4
                            replace c3 := eq_true c3
                            replace c4 := eq_true c4
                            go_wp2_with (first | fail)
                            obtain ⟨bi, hbi⟩ : ∃ bi, bi = wr.heap.size := ⟨_, rfl⟩
                            have HNE := Aside0.mk (show bm < bi by have := HM.out.lt; omega)
                            have HBI := Aside0.mk (show w.heap.size ≤ bi by have := HB.out.size; omega)
                            have HIT := Aside0.mk (World.iter_heap wr s 0)
                            have HB1 := Aside0.mk (show Below w.heap.size w (wr.iter s 0) from below_alloc HB.out _)
                            have HM1 := Aside0.mk (show MR bm st1 (wr.iter s 0) from HM.out.below (below_alloc (Below.refl _ _) _))
                            rw [← hbi] at HIT
                            rw [← hbi]
                            go_loopg [] 100 (fun kq w' => ∃ (pos : Nat) (st1 : St2), Aside0 (read_k kq s.data.toList st1 pos = some st2) ∧ Aside0 (kq ≤ 100) ∧ Aside0 (Below w.heap.size w w') ∧ Aside0 (MR bm st1 w') ∧ Aside0 (w'.heap[bi]? = some (.stringIter s pos)))
                            case atStart => exact ⟨0, st1, HRK, ⟨Nat.le_refl _⟩, HB1, HM1, HIT⟩
                            case round =>
                              clear HRK HB HM hbi HIT HB1 HM1
                              obtain ⟨pos, st3, HA, HK2, HB, HM, HIT⟩ := hrel
                              cases gk with
                              | zero => exact absurd HA.out (by simp [read_k])
                              | succ k2 =>
                                have G := HA.out
                                clear HA
                                simp only [read_k] at G
                                by_cases d : pos < s.data.toList.length
                                · rw [if_pos d] at G
                                  by_cases d2 : (s.data.toList.getD pos 0).toNat < 128 ∧ s.data.toList.length < 1000 ∧ st3.length < 1000 ∧ (sGet st3 (s.data.toList.take pos)).length < 1000
                                  case neg => rw [if_neg d2] at G; cases G
                                  rw [if_pos d2] at G
                                  have dsz : pos < s.size := by simpa using d
                                  have HD2 := Aside0.mk d2
                                  obtain ⟨c, hc⟩ : ∃ c, c = s.data.toList.getD pos 0 := ⟨_, rfl⟩
                                  have hsc : s[pos]'dsz = c := by
                                    rw [hc, List.getD_eq_getElem?_getD, List.getElem?_eq_getElem d]
                                    rfl
                                  obtain ⟨key, hkey⟩ : ∃ key : ByteArray, key = s.extract 0 pos := ⟨_, rfl⟩
                                  have hkl : key.data.toList = s.data.toList.take pos := by rw [hkey]; simp
                                  obtain ⟨g, hg⟩ : ∃ g, g = sGet st3 key.data.toList := ⟨_, rfl⟩
                                  have HSTP := Aside0.mk (show rd_step st3 s.data.toList pos = (if 0 ≤ Lib.indexByte g c then st3 else (key.data.toList, g ++ [c]) :: st3) by unfold rd_step; rw [hg, hkl, hc])
                                  have HGL := Aside0.mk (show g.length < 1000 by rw [hg, hkl]; exact d2.2.2.2)
                                  have HSL := Aside0.mk (show st3.length < 1000 from d2.2.2.1)
                                  have HKS := Aside0.mk (show key.size ≤ maxLen by have := HSZ.out; rw [hkey]; simp; unfold maxLen; omega)
                                  obtain ⟨p, hp⟩ : ∃ p : Int, p = (pos : Int) := ⟨_, rfl⟩
                                  obtain ⟨p1, hp1⟩ : ∃ p1 : Int, p1 = ((pos + 1 : Nat) : Int) := ⟨_, rfl⟩
                                  obtain ⟨cI, hcI⟩ : ∃ cI : Int, cI = (c.toNat : Int) := ⟨_, rfl⟩
                                  obtain ⟨W1, hW1⟩ : ∃ W1, W1 = wr.iterAt bi s (pos + 1) := ⟨_, rfl⟩
                                  have hnx : ∀ ty, (Instr.next (.pointer (some ⟨bi, 0, none⟩)) true ty).run Tryz.prog wr = .ok (.tuple #[.bool true, .int .i64 p, .int .i32 cI]) W1 := fun ty => by
                                    rw [Lib.run_next_ascii_at wr bi s pos ty HIT.out dsz (by rw [hsc, hc]; exact d2.1), hp, hcI, hW1, hsc]
                                  have HB1 := Aside0.mk (show Below w.heap.size w W1 from hW1 ▸ Lib.below_iterAt HB.out HBI.out s (pos + 1))
                                  have HM1 := Aside0.mk (show MR bm st3 W1 from hW1 ▸ HM.out.kept (iter_grown wr bi s (pos + 1)) (by have := HNE.out; simp; omega))
                                  have HIT1 := Aside0.mk (show W1.heap[bi]? = some (.stringIter s (pos + 1)) from hW1 ▸ Lib.iterAt_heap wr bi s pos (pos + 1) HIT.out)
                                  have hs1 : ∀ W : World, (Instr.slice 9 (.string s) none (some (.int .i64 p)) none).run Tryz.prog W = .ok (.string key) W := fun W => by
                                    rw [run_slice_string_h W 9 s Tryz.underlying9 .i64 p (by omega) (by omega), hkey, hp]; simp
                                  have hs2 : ∀ W : World, (Instr.slice 9 (.string s) (some (.int .i64 p)) (some (.int .i64 p1)) none).run Tryz.prog W = .ok (.string ⟨#[c]⟩) W := fun W => by
                                    rw [run_slice_string W 9 s .i64 .i64 p p1 Tryz.underlying9 (by omega) (by omega) (by omega), ← hsc, ← extract_one s pos dsz, hp, hp1]; rfl
                                  have hadd : IntKind.i64.wrap (p + 1) = p1 := by rw [i64_w]; unfold wrap64; have := HSZ.out; omega
                                  have hlk : ∀ n, (Instr.lookup 73 (.map (some bm)) (.string key) false).run Tryz.prog (W1.drewN n) = .ok (.string (bsOf g)) (W1.drewN n) := fun n => by
                                    rw [hg]; exact (HM1.out.below (pw_below_drewN (Below.refl _ _) n)).look key HKS.out
                                  have G' := Aside0.mk G
                                  clear G hsc hcI hp hp1 hkl hkey hg hW1 hc d d2 dsz HB HM HIT
                                  go_wp2
                                  by_cases ci : 0 ≤ Lib.indexByte g c
                                  · have hcon : ∀ W : World, Calls Tryz.prog 46 #[.string (bsOf g), .string ⟨#[c]⟩] W fun e w' => e = .returned (.bool true) ∧ w' = W := fun W => (Tryz.strings_Contains_one (bsOf g) c W).mono fun e w' h => ⟨by rw [h.1, bsOf_list, decide_eq_true ci], h.2⟩
                                    have HCI := Aside0.mk ci
                                    clear ci
                                    go_quiet ((go_at_call 46; exact Calls.quiet_of_same (hcon _)))
                                    go_wp2
                                    go_roundg k2
                                    case measure => have := HK2.out; omega
                                    case rel =>
                                      refine ⟨pos + 1, st3, ⟨?_⟩, ⟨by have := HK2.out; omega⟩, ⟨pw_below_drewN HB1.out _⟩, ⟨HM1.out.below (pw_below_drewN (Below.refl _ _) _)⟩, ⟨HIT1.out⟩⟩
                                      have q := G'.out
                                      rw [HSTP.out, if_pos HCI.out] at q
                                      exact q
                                  · have hcon : ∀ W : World, Calls Tryz.prog 46 #[.string (bsOf g), .string ⟨#[c]⟩] W fun e w' => e = .returned (.bool false) ∧ w' = W := fun W => (Tryz.strings_Contains_one (bsOf g) c W).mono fun e w' h => ⟨by rw [h.1, bsOf_list, decide_eq_false ci], h.2⟩
                                    have HCI := Aside0.mk ci
                                    clear ci
                                    go_quiet ((go_at_call 46; exact Calls.quiet_of_same (hcon _)))
                                    clear hcon
                                    have hcs : (9223372036854775807 < (bsOf g).size + 1) = False := eq_false (by have := HGL.out; simp [bsOf, ByteArray.size]; omega)
                                    go_wp2
                                    obtain ⟨Wq, hWq⟩ : ∃ Wq, Wq = W1.drewN nq := ⟨_, rfl⟩
                                    have hWq1 : ({ Wq with drawn := Wq.drawn + 1 } : World) = W1.drewN (nq + 1) := by rw [hWq]; rfl
                                    have HLK2 := Aside0.mk (hlk (nq + 1))
                                    rw [← hWq]
                                    clear hlk hWq
                                    have HWQ := Aside0.mk hWq1
                                    clear hWq1
                                    refine wp_region_still_tail 11 (by kernel_rfl) (by kernel_rfl) ?_
                                    obtain ⟨W2, hW2⟩ : ∃ W2, W2 = { Wq with drawn := Wq.drawn + 1 } := ⟨_, rfl⟩
                                    have hW2' : W2 = W1.drewN (nq + 1) := hW2.trans HWQ.out
                                    have hlk2 : (Instr.lookup 73 (.map (some bm)) (.string key) false).run Tryz.prog W2 = .ok (.string (bsOf g)) W2 := by rw [hW2']; exact HLK2.out
                                    have HB2 := Aside0.mk (show Below w.heap.size w W2 from hW2' ▸ pw_below_drewN HB1.out _)
                                    have HM2 := Aside0.mk (show MR bm st3 W2 from hW2' ▸ HM1.out.below (pw_below_drewN (Below.refl _ _) _))
                                    have HIT2 := Aside0.mk (show W2.heap[bi]? = some (.stringIter s (pos + 1)) from hW2' ▸ HIT1.out)
                                    obtain ⟨D, hD1, hD2⟩ := HM2.out
                                    have HD1 := Aside0.mk hD1
                                    have HD2 := Aside0.mk hD2
                                    clear hD1 hD2
                                    rw [← hW2]
                                    clear hW2 hW2'
                                    simp only [List.take_succ_cons, List.take_zero, List.drop_succ_cons, List.drop_zero]
                                    repeat still_step
                                    refine wpStill_nil ?_
                                    refine wpList_mapUpdate_own _ rfl _ _ _ 73 rfl 9 9 law9 Tryz.underlying73 _ bm st3.length D rfl HD1.out (by have := HSL.out; unfold maxLen; omega) (.string key) (.string (bsOf g ++ ⟨#[c]⟩)) (.string key.data.toList) rfl rfl (keyOf_string_mk Tryz.underlying9 HKS.out) (.lit (.string (g ++ [c]))) [] ?_ ?_
                                    · rw [show bsOf g ++ ⟨#[c]⟩ = bsOf (g ++ [c]) from bsOf_eq (by simp [bsOf]), plainElem_string Tryz.underlying9 (by have := HGL.out; simp [bsOf, ByteArray.size]; unfold maxLen; omega), bsOf_list]
                                    intro w3 hown3 hg3
                                    have HM3 := Aside0.mk (MR.put HD1.out HD2.out key.data.toList (g ++ [c]) hown3)
                                    have HG3 := Aside0.mk hg3
                                    clear hown3 hg3
                                    go_wp2
                                    go_roundg k2
                                    case measure => have := HK2.out; omega
                                    case rel =>
                                      refine ⟨pos + 1, (key.data.toList, g ++ [c]) :: st3, ⟨?_⟩, ⟨by have := HK2.out; omega⟩, ⟨Below.grown HB2.out HG3.out (by have := HB2.out.size; omega) (fun k hk => by injection hk with hk; have := HBS.out; omega)⟩, HM3, ⟨(HG3.out.block bi (Array.getElem?_eq_some_iff.1 HIT2.out).1 (by have := HNE.out; simp; omega)).trans HIT2.out⟩⟩
                                      have q := G'.out
                                      rw [HSTP.out, if_neg (Int.not_le.mpr HCI.out)] at q
                                      exact q
                                · rw [if_neg d] at G
                                  obtain rfl := Option.some.inj G
                                  clear G
                                  have dsz : ¬ pos < s.size := by simpa using d
                                  have hnx : ∀ ty, (Instr.next (.pointer (some ⟨bi, 0, none⟩)) true ty).run Tryz.prog wr = .ok (.tuple #[.bool false]) wr := fun ty => Lib.run_next_end_at wr bi s pos ty HIT.out dsz
                                  clear d dsz
                                  go_wp2
                                  go_roundg k1
                                  case measure => have := HK1.out; omega
                                  case rel => exact ⟨_, st3, rfl, H', ⟨by have := HK1.out; omega⟩, HB, HM⟩
                          · rw [if_neg c4] at HA1; exact absurd HA1 (by simp)
                        · rw [if_neg c3] at HA1
                          have c3b0 : decide (i < (l.length : Int)) = false := decide_eq_false c3
                          clear c3
                          obtain rfl := Option.some.inj HA1
                          clear HA1
                          have HM0 := Aside0.mk HM.out
                          obtain ⟨D, hD1, hD2⟩ := HM.out
                          have HD1 := Aside0.mk hD1
                          have HD2 := Aside0.mk hD2
                          clear hD1 hD2 HM
                          go_wp2_with (first | (at_range; refine wpList_range_own _ rfl _ 73 rfl 9 9 law9 Tryz.underlying73 _ bm _ D rfl HD1.out ?_; intro w0 hrg0 hg0 hs0; have HRG := Aside0.mk hrg0; have HG0 := Aside0.mk hg0; clear hrg0 hg0 hs0) | fail)
                          go_frame
                          obtain ⟨ri, hri⟩ : ∃ ri, ri = wr.heap.size := ⟨_, rfl⟩
                          have HRI := Aside0.mk (show w.heap.size ≤ ri by have := HB.out.size; omega)
                          have HB0 := Aside0.mk (show Below w.heap.size w w0 from Below.grown HB.out HG0.out (by have := HB.out.size; omega) (fun k hk => by cases hk))
                          rw [← hri] at HRG
                          rw [← hri]
                          clear hri HG0 HB
                          go_loopw [] (fun wx => ∃ (left : Lit → Bool) (cnt : Nat), Aside0 (wx.ranges Tryz.prog 9 (plainElem Tryz.prog 9) bm ri st1.length D left cnt) ∧ Aside0 (Below w.heap.size w wx) ∧ Aside0 (∀ key, Maps.has D (.string key) = true → left (.string key) = false → 2 ≤ (sGet st1 key).length)) (fun wx => wx.rangeLeft bm ri)
                          case atStart => exact ⟨_, _, HRG, HB0, ⟨fun key h1 h2 => by rw [h1] at h2; cases h2⟩⟩
                          case round =>
                            clear HRG HB0
                            obtain ⟨left, cnt, HRG, HB, HLK⟩ := hrel
                            go_wp2_with (first | (at_next; refine wpList_next_ranges _ rfl _ rfl 9 law9 (plainElem Tryz.prog 9) Value.string Value.string (fun key kl hk => by obtain ⟨x, hx, _⟩ := keyOf9 hk; exact ⟨x, hx⟩) (fun v y hv => by obtain ⟨c, hc, _⟩ := plainElem_string_inv Tryz.underlying9 hv; exact ⟨c, hc⟩) bm ri st1.length D left cnt rfl HRG.out ?_ ?_) | fail)
                            · intro hc0 hl0
                              have he : read_e st1 = 0 := if_neg (fun h => by
                                obtain ⟨e, hm, hd⟩ := List.any_eq_true.mp h
                                have h1 := mem_sHas st1 e hm
                                have := HLK.out e.1 ((HD2.out e.1).1.trans h1) (hl0 _)
                                simp at hd
                                omega)
                              have HE := Aside0.mk he
                              clear he hc0 hl0
                              go_wp2
                              go_ret
                              exact ⟨by rw [HE.out]; rfl, HB.out⟩
                            · intro x c kl y1 y2 w1 cnt1 hkx hlk hv hat hrg1 hlt hg1 hs1 hen
                              obtain ⟨x', ex, rfl⟩ := keyOf9 hkx
                              obtain rfl : x = x' := by injection ex
                              obtain ⟨c', ec, ey, _⟩ := plainElem_string_inv Tryz.underlying9 hv
                              cases ey
                              obtain rfl : c = c' := by injection ec
                              have hhas := has_true_of_atKey hat
                              have hsh : sHas st1 x.data.toList = true := (HD2.out _).1.symm.trans hhas
                              have hcg : c.data.toList = sGet st1 x.data.toList := lit_inj ((hat (.lit (.string []))).symm.trans ((HD2.out _).2 hsh _))
                              have hcl : c.size = (sGet st1 x.data.toList).length := by rw [← hcg]; simp
                              have HB1 := Aside0.mk (show Below w.heap.size w w1 from Below.grown HB.out hg1 (by have := HB.out.size; omega) (fun k hk => by injection hk with hk; have := HRI.out; omega))
                              have HRG1 := Aside0.mk hrg1
                              have HLT := Aside0.mk hlt
                              clear hrg1 hg1 hlt hs1 hkx ex ec hv hat hlk hhas
                              by_cases cs : c.size < 2
                              · have csb : decide ((c.size : Int) < 2) = true := decide_eq_true (by omega)
                                have he : read_e st1 = 21 := if_pos (by
                                  obtain ⟨e, h1, h2⟩ := sHas_mem st1 _ hsh
                                  exact List.any_eq_true.mpr ⟨e, h1, decide_eq_true (by rw [h2]; omega)⟩)
                                have HE := Aside0.mk he
                                clear he hcl hcg hsh cs
                                go_wp2
                                go_ret
                                exact ⟨by rw [HE.out]; rfl, HB1.out⟩
                              · have csb : decide ((c.size : Int) < 2) = false := decide_eq_false (by omega)
                                have HG2 := Aside0.mk (show 2 ≤ (sGet st1 x.data.toList).length by omega)
                                clear hcl hcg hsh cs
                                go_wp2
                                go_roundw
                                case measure => rw [HRG1.out.left_eq, HRG.out.left_eq]; have := HLT.out; omega
                                case rel =>
                                  refine ⟨_, _, HRG1, HB1, ⟨fun key h1 h2 => ?_⟩⟩
                                  cases hl : left (.string key) with
                                  | false => exact HLK.out key h1 hl
                                  | true =>
                                    rw [hl] at h2
                                    have q : key = x.data.toList := by simpa [Lit.sameKey] using h2
                                    rw [q]; exact HG2.out
end Go.Proofs.YtengjaojkcokcaaGreatDoor.T
