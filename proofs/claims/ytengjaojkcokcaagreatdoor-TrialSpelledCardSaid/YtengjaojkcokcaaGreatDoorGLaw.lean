/- The walk of the law itself. -/
import Derived.Test.YtengjaojkcokcaaGreatDoorGPlain
import Derived.Test.YtengjaojkcokcaaGreatDoorGWorks
import Derived.Deep.DeepCutAuto
namespace Go.Proofs.YtengjaojkcokcaaGreatDoor.T
open Go.RowKit Go.Proofs.YtengjaojkcokcaaGreatDoorW.PrintWords Go.Proofs.YtengjaojkcokcaaGreatDoorW.PrintLast Go.Proofs.YtengjaojkcokcaaGreatDoorW.PrintMore

theorem bits_one (s : Int) : bits .and .u8 s 1 = 0 ∨ bits .and .u8 s 1 = 1 := by
  have h : (BitVec.ofInt 8 s &&& BitVec.ofInt 8 1).toNat = (BitVec.ofInt 8 s).toNat % 2 := by
    rw [BitVec.toNat_and]
    exact Nat.and_one_is_mod _
  show IntKind.u8.wrap ((BitVec.ofInt 8 s &&& BitVec.ofInt 8 1).toNat : Int) = 0 ∨ IntKind.u8.wrap ((BitVec.ofInt 8 s &&& BitVec.ofInt 8 1).toNat : Int) = 1
  rw [h]
  rcases Nat.mod_two_eq_zero_or_one (BitVec.ofInt 8 s).toNat with h0 | h0 <;> rw [h0]
  · exact .inl rfl
  · exact .inr rfl

/-- Block b holds six bytes. -/
def Six (b : Nat) (w : World) : Prop := ∃ x0 x1 x2 x3 x4 x5 : Int, w.heap[b]? = some (.cells #[.int .u8 x0, .int .u8 x1, .int .u8 x2, .int .u8 x3, .int .u8 x4, .int .u8 x5] 22 (0, 0)) ∧ ∀ x ∈ [x0, x1, x2, x3, x4, x5], 0 ≤ x ∧ x < 256
theorem Six.at {b : Nat} {w : World} (h : Six b w) (i : Int) (h0 : 0 ≤ i) (h1 : i < 6) : ∃ x : Int, w.cell? ⟨b, i.toNat, none⟩ = some (.int .u8 x) ∧ 0 ≤ x ∧ x < 256 := by
  obtain ⟨x0, x1, x2, x3, x4, x5, hb, hx⟩ := h
  obtain ⟨n, rfl⟩ : ∃ n : Nat, i = n := ⟨i.toNat, by omega⟩
  have hn : n < 6 := by omega
  rw [cell_of_blk' hb]
  simp only [Int.toNat_natCast]
  match n, hn with
  | 0, _ => exact ⟨x0, rfl, hx _ (by simp)⟩
  | 1, _ => exact ⟨x1, rfl, hx _ (by simp)⟩
  | 2, _ => exact ⟨x2, rfl, hx _ (by simp)⟩
  | 3, _ => exact ⟨x3, rfl, hx _ (by simp)⟩
  | 4, _ => exact ⟨x4, rfl, hx _ (by simp)⟩
  | 5, _ => exact ⟨x5, rfl, hx _ (by simp)⟩
  | n + 6, h => exact absurd h (by omega)
theorem Six.below {b : Nat} {w w' : World} (h : Six b w) (hb : Below w.heap.size w w') : Six b w' := by
  obtain ⟨x0, x1, x2, x3, x4, x5, h1, hx⟩ := h
  exact ⟨x0, x1, x2, x3, x4, x5, (hb.block _ (lt_of_blk h1)).trans h1, hx⟩
theorem size_more (w : ByteArray) (c : UInt8) : (w ++ (⟨#[c]⟩ : ByteArray)).size = w.size + 1 := by rw [ByteArray.size_append]; rfl
def Letters (w : ByteArray) : Prop := ∀ c ∈ w.data.toList, c = 98 ∨ c = 115
theorem Letters.more {w : ByteArray} (h : Letters w) (c : UInt8) (hc : c = 98 ∨ c = 115) : Letters (w ++ ⟨#[c]⟩) := by
  intro x hx
  have : (w ++ (⟨#[c]⟩ : ByteArray)).data.toList = w.data.toList ++ [c] := by simp
  rw [this] at hx
  rcases List.mem_append.mp hx with hx | hx
  · exact h x hx
  · rw [List.mem_singleton.mp hx]; exact hc

theorem shr8_run (n : Nat) : Op.shift .shr .i64 8 .i64 (n : Int) = pure (.int .i64 (shr8 n)) := by
  have h : ¬ ((n : Int) < 0) := by omega
  simp [Op.shift, h, shr8, IntKind.bits]

set_option maxHeartbeats 8000000 in
set_option maxRecDepth 100000 in
theorem law_walk (m s0 s1 s2 s3 s4 s5 b0 b1 b2 b3 b4 b5 : Int) (w : World) (hm : 0 ≤ m ∧ m < 256) (hs : ∀ x ∈ [s0, s1, s2, s3, s4, s5], 0 ≤ x ∧ x < 256) (hb : ∀ x ∈ [b0, b1, b2, b3, b4, b5], 0 ≤ x ∧ x < 256) :
    Calls Tryz.prog 3 #[.int .u8 m, .agg #[.int .u8 s0, .int .u8 s1, .int .u8 s2, .int .u8 s3, .int .u8 s4, .int .u8 s5], .agg #[.int .u8 b0, .int .u8 b1, .int .u8 b2, .int .u8 b3, .int .u8 b4, .int .u8 b5]] w fun e w' => e = .returned (.bool true) ∧ Below w.heap.size w w' := by
  obtain ⟨w2, hw2⟩ : ∃ w2, w2 = (w.alloc (.cells #[.int .u8 s0, .int .u8 s1, .int .u8 s2, .int .u8 s3, .int .u8 s4, .int .u8 s5] 22)).alloc (.cells #[.int .u8 b0, .int .u8 b1, .int .u8 b2, .int .u8 b3, .int .u8 b4, .int .u8 b5] 22) := ⟨_, rfl⟩
  obtain ⟨n, hn⟩ : ∃ n, n = m % 7 := ⟨_, rfl⟩
  obtain ⟨ba, hba⟩ : ∃ b, b = w.heap.size := ⟨_, rfl⟩
  obtain ⟨bb, hbb⟩ : ∃ b, b = w.heap.size + 1 := ⟨_, rfl⟩
  have HBW := Aside0.mk (show Below w.heap.size w w2 from hw2 ▸ below_alloc (below_alloc (Below.refl _ _) _) _)
  have HA := Aside0.mk (show Six ba w2 from ⟨s0, s1, s2, s3, s4, s5, by
    rw [hw2, hba]
    exact ((Below.refl (w.alloc (.cells #[.int .u8 s0, .int .u8 s1, .int .u8 s2, .int .u8 s3, .int .u8 s4, .int .u8 s5] 22)).heap.size _).alloc (Nat.le_refl _) _).block w.heap.size (by simp) |>.trans (heap_alloc_new w _), hs⟩)
  have HBB := Aside0.mk (show Six bb w2 from ⟨b0, b1, b2, b3, b4, b5, by
    rw [hw2, hbb]
    have := heap_alloc_new (w.alloc (.cells #[.int .u8 s0, .int .u8 s1, .int .u8 s2, .int .u8 s3, .int .u8 s4, .int .u8 s5] 22)) (.cells #[.int .u8 b0, .int .u8 b1, .int .u8 b2, .int .u8 b3, .int .u8 b4, .int .u8 b5] 22)
    simpa using this, hb⟩)
  have HN := Aside0.mk (show 0 ≤ n ∧ n ≤ 6 by omega)
  have HM := Aside0.mk hm
  go_enter Tryz.func3, Tryz.ntmps3
  go_wp2
  rw [← hn, ← hw2, ← hbb, ← hba]
  clear hs hb hw2 hn hbb hba hm
  go_loopg [26, 7] 10 (fun kq v26 v7 w' => ∃ (i : Int) (l : List ByteArray), v26 = .int .i64 i ∧ Aside0 (Kd.R Kd.string 9 w' w2.heap.size (fun _ => True) v7 l) ∧ Aside0 ((l.length : Int) = i ∧ i ≤ n ∧ n - i < kq) ∧ Aside0 (∀ x ∈ l, x ∈ U) ∧ Aside0 (Below w2.heap.size w2 w'))
  case atStart => exact ⟨0, [], rfl, ⟨Kd.R_nil _ _ _ _ _⟩, ⟨by have := HN.out; simp; omega⟩, ⟨fun x hx => by cases hx⟩, ⟨Below.refl _ _⟩⟩
  case round =>
    obtain ⟨i, l, rfl, HR, HI, HU, HB⟩ := hrel
    by_cases c : i < n
    · have cb : decide (i < n) = true := decide_eq_true c
      have hi0 : (0 ≤ i) = True := eq_true (by have := HI.out; omega)
      have hi6 : (i < 6) = True := eq_true (by have := HN.out; omega)
      obtain ⟨x, hx, hx1⟩ := (HA.out.below HB.out).at i (by have := HI.out; omega) (by have := HN.out; omega)
      obtain ⟨y, hy, hy1⟩ := (HBB.out.below HB.out).at i (by have := HI.out; omega) (by have := HN.out; omega)
      obtain ⟨q, hq⟩ : ∃ q, q = x % 4 := ⟨_, rfl⟩
      have HQ := Aside0.mk (show 0 ≤ q ∧ q ≤ 3 by omega)
      have HC := Aside0.mk c
      clear c
      go_wp2
      rw [← hq]
      clear hq hx hx1
      obtain ⟨gO, hgO⟩ : ∃ g : Nat, g = gk := ⟨_, rfl⟩
      have HGO := Aside0.mk hgO
      clear hgO
      go_loopg [34, 9] 10 (fun kq v34 v9 w' => ∃ (j : Int) (wd : ByteArray), v34 = .int .i64 j ∧ v9 = .string wd ∧ Aside0 ((wd.size : Int) = j ∧ j ≤ q ∧ q - j < kq) ∧ Aside0 (Letters wd) ∧ Aside0 (Kd.R Kd.string 9 w' w2.heap.size (fun _ => True) u7 l) ∧ Aside0 (Below w2.heap.size w2 w') ∧ Aside0 (w'.cell? ⟨bb, i.toNat, none⟩ = some (.int .u8 y)))
      case atStart => exact ⟨0, ⟨#[]⟩, rfl, rfl, ⟨by have := HQ.out; refine ⟨rfl, by omega, by omega⟩⟩, ⟨fun c hc => by cases hc⟩, HR, HB, ⟨hy⟩⟩
      case round =>
        clear HR HB hy
        obtain ⟨j, wd, rfl, rfl, HJ, HL, HR, HB, HY⟩ := hrel
        by_cases d : j < q
        · have db : decide (j < q) = true := decide_eq_true d
          have hj0 : (j < 0) = False := eq_false (by have := HJ.out; omega)
          have HD := Aside0.mk d
          have hy := HY.out
          clear d
          obtain ⟨s, hs⟩ : ∃ s, Op.shift .shr .u8 y .i64 j = pure (.int .u8 s) := ⟨_, shift_shr_u8 .i64 y j (by have := HJ.out; omega) (by have := HJ.out; have := HQ.out; omega)⟩
          have hcs : (9223372036854775807 < wd.size + 1) = False := eq_false (by have := HJ.out; have := HQ.out; omega)
          rcases bits_one s with hx | hx
          · go_wp2
            go_quiet (fail)
            go_wp2
            have hw : wrap64 (j + 1) = j + 1 := by have := HJ.out; have := HQ.out; unfold wrap64; omega
            go_roundg (gk - 1)
            case measure => have := HJ.out; have := HD.out; omega
            case rel =>
              refine ⟨j + 1, wd ++ ⟨#[98]⟩, by rw [hw], rfl, ⟨?_⟩, ⟨HL.out.more 98 (by decide)⟩, ⟨Kd.R_below HR.out (by repeat (first | exact Below.refl _ _ | apply pw_below_drewN | apply below_drew1))⟩, ⟨by repeat (first | exact HB.out | apply pw_below_drewN | apply below_drew1)⟩, ⟨HY.out⟩⟩
              have := HJ.out
              have := HD.out
              have := size_more wd 98
              omega
          · go_wp2
            go_quiet (fail)
            go_wp2
            have hw : wrap64 (j + 1) = j + 1 := by have := HJ.out; have := HQ.out; unfold wrap64; omega
            go_roundg (gk - 1)
            case measure => have := HJ.out; have := HD.out; omega
            case rel =>
              refine ⟨j + 1, wd ++ ⟨#[115]⟩, by rw [hw], rfl, ⟨?_⟩, ⟨HL.out.more 115 (by decide)⟩, ⟨Kd.R_below HR.out (by repeat (first | exact Below.refl _ _ | apply pw_below_drewN | apply below_drew1))⟩, ⟨by repeat (first | exact HB.out | apply pw_below_drewN | apply below_drew1)⟩, ⟨HY.out⟩⟩
              have := HJ.out
              have := HD.out
              have := size_more wd 115
              omega
        · have db : decide (j < q) = false := decide_eq_false d
          have HSZ := Aside0.mk (show wd ∈ U from mem_U wd (by have := HJ.out; have := HQ.out; omega) HL.out)
          clear d
          have hw : wrap64 (i + 1) = i + 1 := by have := HI.out; have := HN.out; unfold wrap64; omega
          go_wp2_with (first | ((with_reducible refine gate_builtin (b := .append) (xs := #[.tmp 54, .tmp 56]) rfl ?_); at_builtin; refine Kd.R_append Kd.string (w0 := w2) w2.heap.size rfl (.tmp 54) (.tmp 56) 23 9 (.string ⟨#[]⟩) 16 rfl Tryz.underlying23 info9 rfl (by decide) (by omega) u7 l wd [.string wd] (fun _ => True) (fun _ => False) rfl rfl ?aP (fun _ hk => hk.elim) ?aF ?aO ?aB ?aS ?aL ?_; (case aP => exact rfl); (case aB => exact HB.out); (case aF => exact (fun _ _ => trivial)); (case aO => exact HR.out); (case aS => exact HB.out.size); (case aL => have := HI.out; have := HN.out; omega); intro v1 w3 hoo hbb hg hat; have HR3 := Aside0.mk hoo; have HB3 := Aside0.mk hbb; clear hoo hbb hg hat) | fail)
          go_roundg (gO - 1)
          case measure => have := HI.out; have := HC.out; have := HGO.out; omega
          case rel =>
            refine ⟨i + 1, l ++ [wd], by rw [hw], HR3, ⟨?_⟩, ⟨fun x hx => ?_⟩, HB3⟩
            · have := HI.out
              have := HC.out
              have := HGO.out
              simp
              omega
            · rcases List.mem_append.mp hx with hx | hx
              · exact HU.out x hx
              · rw [List.mem_singleton.mp hx]; exact HSZ.out
    · have cb : decide (i < n) = false := decide_eq_false c
      clear c
      have HL6 := Aside0.mk (show l.length ≤ 6 by have := HI.out; have := HN.out; omega)
      go_upto_if 62 with (fail)
      obtain ⟨t, ht⟩ : ∃ t, t = (m.tdiv 8 % 2 == 1) := ⟨_, rfl⟩
      rw [← ht]
      clear ht
      go_cut [7] (fun v7 w' => ∃ (A : Option Addr) (c : Nat) (l : List ByteArray), v7 = .slice A l.length c ∧ Aside0 (Kd.C Kd.string w' A l.length l) ∧ Aside0 (l.length ≤ c) ∧ Aside0 (∀ x ∈ l, x ∈ U) ∧ Aside0 (l.length ≤ 6) ∧ Aside0 (Below w2.heap.size w2 w'))
      case first =>
        obtain ⟨A, c, rfl⟩ := Kd.R_slice HR.out
        cases t with
        | true =>
          obtain ⟨r, hr1, hr2, hr3⟩ := sort_some l HU.out HL6.out
          have HR1 := Aside0.mk hr1
          have HR2 := Aside0.mk hr2
          have HR3 := Aside0.mk hr3
          clear hr1 hr2 hr3
          go_wp2_with fail
          refine (slices_Sort.calls _ A c l r w2 _ HB.out HR.out HR1.out).mono ?_
          rintro e w3 ⟨rfl, h1, h2, h3⟩
          have HX := Aside0.mk h1
          have HB3 := Aside0.mk h2
          clear h1 h2 h3
          go_wp2
          go_meet
          case rel =>
            have := Kd.R_reads' HX.out
            exact ⟨A, c, r, by rw [HR3.out], ⟨this.2.2⟩, ⟨by rw [← this.1]; exact this.2.1⟩, HR2, ⟨by rw [HR3.out]; exact HL6.out⟩, HB3⟩
        | false =>
          go_wp2
          go_meet
          case rel =>
            have := Kd.R_reads' HR.out
            exact ⟨A, c, l, rfl, ⟨this.2.2⟩, ⟨this.2.1⟩, HU, HL6, HB⟩
      case rest =>
        clear HR HI HU HB HL6
        obtain ⟨A, cl, l, rfl, HC, HCL, HU, HL6, HB⟩ := hcut
        obtain ⟨want, p, hF⟩ := plain_law l HU.out HL6.out
        have HF := Aside0.mk hF
        clear hF
        go_wp2_with fail
        refine (trial_Plan.calls A cl l p want _ HC.out HCL.out HF.out.2.1).mono ?_
        rintro e w3 ⟨vp, rfl, hvp, hb⟩
        have HVP := Aside0.mk hvp
        have HC3 := Aside0.mk (Kd.C_below HC.out hb)
        have HB3 := Aside0.mk (below_step HB.out hb)
        clear hvp hb HC HB
        obtain ⟨Ap, cp, rfl⟩ := Kd.R_slice HVP.out
        have HP := Aside0.mk (Kd.R_reads' HVP.out)
        have HLF := Aside0.mk HF.out.1
        have HVR := Aside0.mk (RI.of HVP.out)
        clear HVP
        obtain ⟨cs, ho, h⟩ := Option.bind_eq_some_iff.mp HLF.out
        have HO := Aside0.mk ho
        clear ho HLF
        obtain ⟨cp_, hp, h⟩ := Option.bind_eq_some_iff.mp h
        have HPP := Aside0.mk hp
        clear hp
        obtain ⟨sm, hs, h⟩ := Option.bind_eq_some_iff.mp h
        have HS := Aside0.mk hs
        have HWANT := Aside0.mk (Option.some.inj h)
        clear h hs
        go_upto_if 72 with (fail)
        go_cut [13] (fun v13 w' => v13 = .int .i64 (if l.length = 0 then 4 else 0) ∧ w' = w3)
        case first =>
          by_cases c0 : l.length = 0
          · have c0b : ((l.length : Int) == 0) = true := beq_iff_eq.mpr (by omega)
            have C0 := Aside0.mk c0
            clear c0
            go_wp2
            go_meet
            case rel => exact ⟨by rw [if_pos C0.out], rfl⟩
          · have c0b : ((l.length : Int) == 0) = false := beq_eq_false_iff_ne.mpr (by omega)
            have C0 := Aside0.mk c0
            clear c0
            go_wp2
            go_meet
            case rel => exact ⟨by rw [if_neg C0.out], rfl⟩
        case rest =>
          obtain ⟨rfl, rfl⟩ := hcut
          obtain ⟨cstart, hcstart⟩ : ∃ c : Int, c = (if l.length = 0 then 4 else 0) := ⟨_, rfl⟩
          rw [← hcstart] at HO
          rw [← hcstart]
          clear hcstart
          go_wp2
          go_loopg [14, 13] 100 (fun kq v14 v13 w' => ∃ (i c : Int), v14 = .int .i64 i ∧ v13 = .int .i64 c ∧ Aside0 (law_o kq l i c = some cs) ∧ Aside0 (kq ≤ 100) ∧ Aside0 (Kd.C Kd.string w' A l.length l) ∧ Aside0 (Below w2.heap.size w2 w') ∧ Aside0 (RI w' (.slice Ap p.length cp) p))
          case atStart => exact ⟨1, cstart, rfl, rfl, HO, ⟨Nat.le_refl _⟩, HC3, HB3, HVR⟩
          case round =>
            clear HO HC3 HB3 HVR
            obtain ⟨i, c, rfl, rfl, HA1, HK1, HC3, HB3, HVR⟩ := hrel
            cases gk with
            | zero => exact absurd HA1.out (by simp [law_o])
            | succ k1 =>
              have G := HA1.out
              clear HA1
              simp only [law_o] at G
              by_cases d : i < (l.length : Int)
              · rw [if_pos d] at G
                have db : decide (i < (l.length : Int)) = true := decide_eq_true d
                by_cases e : c = 0
                · rw [if_pos e] at G
                  subst e
                  obtain ⟨i1, hi1⟩ : ∃ j : Int, wrap64 (i - 1) = j := ⟨_, rfl⟩
                  rw [hi1] at G
                  have hi1w : IntKind.i64.wrap (i - 1) = i1 := (i64_w _).trans hi1
                  clear hi1
                  by_cases d1 : 0 ≤ i1
                  case neg => rw [if_neg d1] at G; cases G
                  rw [if_pos d1] at G
                  by_cases d2 : i1 < (l.length : Int)
                  case neg => rw [if_neg d2] at G; cases G
                  rw [if_pos d2] at G
                  by_cases d3 : 0 ≤ i
                  case neg => rw [if_neg d3] at G; cases G
                  rw [if_pos d3] at G
                  obtain ⟨ad, ea, hx1⟩ := Kd.at_string HC3.out i1 d1 d2
                  cases ea
                  obtain ⟨ad1, ea1, hx2⟩ := Kd.at_string HC3.out i d3 d
                  obtain rfl : ad = ad1 := (by injection ea1)
                  clear ea1
                  obtain ⟨x1, hx1e⟩ : ∃ s, s = rdOf ByteArray.empty l i1 := ⟨_, rfl⟩
                  obtain ⟨x2, hx2e⟩ : ∃ s, s = rdOf ByteArray.empty l i := ⟨_, rfl⟩
                  rw [← hx1e, ← hx2e] at G
                  rw [← hx1e] at hx1
                  rw [← hx2e] at hx2
                  clear hx1e hx2e
                  have d1b : decide (0 ≤ i1) = true := decide_eq_true d1
                  have d2b : decide (i1 < (l.length : Int)) = true := decide_eq_true d2
                  have d3b : decide (0 ≤ i) = true := decide_eq_true d3
                  replace d1 := eq_true d1
                  replace d2 := eq_true d2
                  replace d3 := eq_true d3
                  replace d := eq_true d
                  cases cge : geB x1 x2 with
                  | true =>
                    rw [cge, if_pos rfl] at G
                    have G' := Aside0.mk G
                    clear G
                    have hge := fun W => (geq_run x1 x2 W).trans (by rw [cge])
                    clear cge
                    go_wp2
                    go_quiet (fail)
                    go_wp2
                    go_roundg k1
                    case measure => have := HK1.out; omega
                    case rel => exact ⟨_, _, rfl, rfl, G', ⟨by have := HK1.out; omega⟩, ⟨Kd.C_drewN HC3.out _⟩, ⟨pw_below_drewN HB3.out _⟩, ⟨HVR.out.below (pw_below_drewN (Below.refl _ _) _)⟩⟩
                  | false =>
                    rw [cge, if_neg (by decide)] at G
                    have G' := Aside0.mk G
                    clear G
                    have hge := fun W => (geq_run x1 x2 W).trans (by rw [cge])
                    clear cge
                    go_wp2
                    go_quiet (fail)
                    go_wp2
                    go_roundg k1
                    case measure => have := HK1.out; omega
                    case rel => exact ⟨_, _, rfl, rfl, G', ⟨by have := HK1.out; omega⟩, ⟨Kd.C_drewN HC3.out _⟩, ⟨pw_below_drewN HB3.out _⟩, ⟨HVR.out.below (pw_below_drewN (Below.refl _ _) _)⟩⟩
                · rw [if_neg e] at G
                  have eb : (c == 0) = false := beq_eq_false_iff_ne.mpr e
                  have G' := Aside0.mk G
                  clear G e d
                  go_wp2
                  go_quiet (fail)
                  go_wp2
                  go_roundg k1
                  case measure => have := HK1.out; omega
                  case rel => exact ⟨_, _, rfl, rfl, G', ⟨by have := HK1.out; omega⟩, ⟨Kd.C_drewN HC3.out _⟩, ⟨pw_below_drewN HB3.out _⟩, ⟨HVR.out.below (pw_below_drewN (Below.refl _ _) _)⟩⟩
              · rw [if_neg d] at G
                have db : decide (i < (l.length : Int)) = false := decide_eq_false d
                clear d
                obtain rfl := Option.some.inj G
                clear G
                go_wp2
                go_loopg [95, 13] 100 (fun kq v95 v13 w' => ∃ (i c : Int), v95 = .int .i64 i ∧ v13 = .int .i64 c ∧ Aside0 (law_p kq l i c = some cp_) ∧ Aside0 (kq ≤ 100) ∧ Aside0 (Kd.C Kd.string w' A l.length l) ∧ Aside0 (Below w2.heap.size w2 w') ∧ Aside0 (RI w' (.slice Ap p.length cp) p))
                case atStart => exact ⟨0, c, rfl, rfl, HPP, ⟨Nat.le_refl _⟩, HC3, HB3, HVR⟩
                case round =>
                  clear HPP HC3 HB3 HVR HK1
                  obtain ⟨i, c, rfl, rfl, HA1, HK1, HC3, HB3, HVR⟩ := hrel
                  cases gk with
                  | zero => exact absurd HA1.out (by simp [law_p])
                  | succ k1 =>
                    have G := HA1.out
                    clear HA1
                    simp only [law_p] at G
                    by_cases d : i < (l.length : Int)
                    · rw [if_pos d] at G
                      have db : decide (i < (l.length : Int)) = true := decide_eq_true d
                      by_cases d1 : 0 ≤ i
                      case neg => rw [if_neg d1] at G; cases G
                      rw [if_pos d1] at G
                      obtain ⟨c', hq, G⟩ := Option.bind_eq_some_iff.mp G
                      have HQ := Aside0.mk hq
                      have G' := Aside0.mk G
                      clear hq G
                      obtain ⟨ad, ea, hx1⟩ := Kd.at_string HC3.out i d1 d
                      cases ea
                      obtain ⟨x1, hx1e⟩ : ∃ s, s = rdOf ByteArray.empty l i := ⟨_, rfl⟩
                      rw [← hx1e] at hx1
                      have HX1 := Aside0.mk hx1e
                      clear hx1e
                      have d1b : decide (0 ≤ i) = true := decide_eq_true d1
                      replace d1 := eq_true d1
                      replace d := eq_true d
                      go_wp2
                      go_loopg [102, 13] 100 (fun kq v102 v13 w' => ∃ (j c : Int), v102 = .int .i64 j ∧ v13 = .int .i64 c ∧ Aside0 (law_q kq l i j c = some c') ∧ Aside0 (kq ≤ 100) ∧ Aside0 (Kd.C Kd.string w' (some ad) l.length l) ∧ Aside0 (Below w2.heap.size w2 w') ∧ Aside0 (RI w' (.slice Ap p.length cp) p))
                      case atStart => exact ⟨0, c, rfl, rfl, HQ, ⟨Nat.le_refl _⟩, HC3, HB3, HVR⟩
                      case round =>
                        clear HQ HC3 HB3 HVR hx1 d1 d d1b db
                        obtain ⟨j, c, rfl, rfl, HA1, HK2, HC3, HB3, HVR⟩ := hrel
                        cases gk with
                        | zero => exact absurd HA1.out (by simp [law_q])
                        | succ k2 =>
                          have G := HA1.out
                          clear HA1
                          simp only [law_q] at G
                          by_cases d : j < (l.length : Int)
                          · rw [if_pos d] at G
                            have db : decide (j < (l.length : Int)) = true := decide_eq_true d
                            by_cases d1 : 0 ≤ j
                            case neg => rw [if_neg d1] at G; cases G
                            rw [if_pos d1] at G
                            obtain ⟨ad1, ea1, hx2⟩ := Kd.at_string HC3.out j d1 d
                            obtain rfl : ad = ad1 := (by injection ea1)
                            clear ea1
                            obtain ⟨x2, hx2e⟩ : ∃ s, s = rdOf ByteArray.empty l j := ⟨_, rfl⟩
                            rw [← hx2e, ← HX1.out] at G
                            rw [← hx2e] at hx2
                            clear hx2e
                            have d1b : decide (0 ≤ j) = true := decide_eq_true d1
                            replace d1 := eq_true d1
                            replace d := eq_true d
                            by_cases e : c = 0
                            · rw [if_pos e] at G
                              subst e
                              by_cases e1 : i = j
                              · rw [if_pos e1] at G
                                have e1b : (i == j) = true := beq_iff_eq.mpr e1
                                have e1c : (i != j) = false := bne_eq_false_iff_eq.mpr e1
                                have G2 := Aside0.mk G
                                clear G e1
                                go_wp2
                                go_roundg k2
                                case measure => have := HK2.out; omega
                                case rel => exact ⟨_, _, rfl, rfl, G2, ⟨by have := HK2.out; omega⟩, HC3, HB3, HVR⟩
                              · rw [if_neg e1] at G
                                have e1b : (i == j) = false := beq_eq_false_iff_ne.mpr e1
                                have e1c : (i != j) = true := bne_iff_ne.mpr e1
                                clear e1
                                obtain ⟨b, hb, G⟩ := Option.bind_eq_some_iff.mp G
                                have HT := Aside0.mk hb
                                clear hb
                                cases b with
                                | true =>
                                  rw [if_pos rfl] at G
                                  have G2 := Aside0.mk G
                                  clear G
                                  go_wp2_with fail
                                  refine (strings_HasPrefix.calls _ _ true _ HT.out).mono ?_
                                  rintro e w4 ⟨rfl, ⟨nd, rfl⟩⟩
                                  go_wp2
                                  go_roundg k2
                                  case measure => have := HK2.out; omega
                                  case rel => exact ⟨_, _, rfl, rfl, G2, ⟨by have := HK2.out; omega⟩, ⟨Kd.C_drewN HC3.out _⟩, ⟨pw_below_drewN HB3.out _⟩, ⟨HVR.out.below (pw_below_drewN (Below.refl _ _) _)⟩⟩
                                | false =>
                                  rw [if_neg (by decide)] at G
                                  have G2 := Aside0.mk G
                                  clear G
                                  go_wp2_with fail
                                  refine (strings_HasPrefix.calls _ _ false _ HT.out).mono ?_
                                  rintro e w4 ⟨rfl, ⟨nd, rfl⟩⟩
                                  go_wp2
                                  go_roundg k2
                                  case measure => have := HK2.out; omega
                                  case rel => exact ⟨_, _, rfl, rfl, G2, ⟨by have := HK2.out; omega⟩, ⟨Kd.C_drewN HC3.out _⟩, ⟨pw_below_drewN HB3.out _⟩, ⟨HVR.out.below (pw_below_drewN (Below.refl _ _) _)⟩⟩
                            · rw [if_neg e] at G
                              have eb : (c == 0) = false := beq_eq_false_iff_ne.mpr e
                              have G2 := Aside0.mk G
                              clear G e
                              go_wp2
                              go_roundg k2
                              case measure => have := HK2.out; omega
                              case rel => exact ⟨_, _, rfl, rfl, G2, ⟨by have := HK2.out; omega⟩, HC3, HB3, HVR⟩
                          · rw [if_neg d] at G
                            have db : decide (j < (l.length : Int)) = false := decide_eq_false d
                            clear d
                            obtain rfl := Option.some.inj G
                            clear G
                            go_wp2
                            go_roundg k1
                            case measure => have := HK1.out; omega
                            case rel => exact ⟨_, _, rfl, rfl, G', ⟨by have := HK1.out; omega⟩, HC3, HB3, HVR⟩
                    · rw [if_neg d] at G
                      have db : decide (i < (l.length : Int)) = false := decide_eq_false d
                      clear d
                      obtain rfl := Option.some.inj G
                      clear G
                      go_wp2
                      go_loopg [123, 19] 100 (fun kq v123 v19 w' => ∃ (i s : Int), v123 = .int .i64 i ∧ v19 = .int .i64 s ∧ Aside0 (law_s kq l i s = some sm) ∧ Aside0 (kq ≤ 100) ∧ Aside0 (Kd.C Kd.string w' A l.length l) ∧ Aside0 (Below w2.heap.size w2 w') ∧ Aside0 (RI w' (.slice Ap p.length cp) p))
                      case atStart => exact ⟨0, 0, rfl, rfl, HS, ⟨Nat.le_refl _⟩, HC3, HB3, HVR⟩
                      case round =>
                        clear HS HC3 HB3 HVR HK1
                        obtain ⟨i, s, rfl, rfl, HA1, HK1, HC3, HB3, HVR⟩ := hrel
                        cases gk with
                        | zero => exact absurd HA1.out (by simp [law_s])
                        | succ k1 =>
                          have G := HA1.out
                          clear HA1
                          simp only [law_s] at G
                          by_cases d : i < (l.length : Int)
                          · rw [if_pos d] at G
                            have db : decide (i < (l.length : Int)) = true := decide_eq_true d
                            by_cases d1 : 0 ≤ i
                            case neg => rw [if_neg d1] at G; cases G
                            rw [if_pos d1] at G
                            have G' := Aside0.mk G
                            clear G
                            obtain ⟨ad, ea, hx1⟩ := Kd.at_string HC3.out i d1 d
                            cases ea
                            have hsh := shr8_run (rdOf ByteArray.empty l i).size
                            have d1b : decide (0 ≤ i) = true := decide_eq_true d1
                            replace d1 := eq_true d1
                            replace d := eq_true d
                            go_wp2
                            go_roundg k1
                            case measure => have := HK1.out; omega
                            case rel => exact ⟨_, _, rfl, rfl, G', ⟨by have := HK1.out; omega⟩, HC3, HB3, HVR⟩
                          · rw [if_neg d] at G
                            have db : decide (i < (l.length : Int)) = false := decide_eq_false d
                            clear d
                            obtain rfl := Option.some.inj G
                            clear G
                            by_cases e : c = 0
                            · subst e
                              by_cases e8 : s < 8
                              · obtain rfl : (21 : Int) = want := by have := HWANT.out; rw [if_pos ⟨rfl, e8⟩] at this; exact this
                                have e8b : decide (s < 8) = true := decide_eq_true e8
                                clear e8
                                obtain rfl : p = [] := HF.out.2.2.1 (by decide)
                                go_wp2_with fail
                                refine (works_calls _).mono ?_
                                rintro e w5 ⟨rfl, hb⟩
                                have HB5 := Aside0.mk (below_step HB3.out hb)
                                clear hb
                                go_wp2
                                go_ret
                                exact ⟨rfl, HBW.out.trans (HB5.out.mono HBW.out.size)⟩
                              · obtain rfl : (0 : Int) = want := by have := HWANT.out; rw [if_neg (fun h => e8 h.2)] at this; exact this
                                have e8b : decide (s < 8) = false := decide_eq_false e8
                                clear e8
                                obtain ⟨hp1, hp2, hp3⟩ := HF.out.2.2.2 rfl
                                have HP2 := Aside0.mk hp2
                                have HP3 := Aside0.mk hp3
                                have hsub : wrap64 ((l.length : Int) - 1) = (p.length : Int) := by have := HL6.out; unfold wrap64; omega
                                have hsub1 : IntKind.i64.wrap ((l.length : Int) - 1) = (p.length : Int) := (i64_w _).trans hsub
                                clear hp1 hp2 hp3
                                go_wp2_with fail
                                refine (c_words HVR.out HP2.out).mono ?_
                                rintro e w5 ⟨vb, rfl, hv, hb⟩
                                have HVB := Aside0.mk hv
                                have HB5 := Aside0.mk (below_step HB3.out hb)
                                have HC5 := Aside0.mk (Kd.C_below HC3.out hb)
                                clear hb hv
                                go_wp2_with fail
                                refine (c_equal HVB.out ⟨A, cl, rfl, HCL.out, HC5.out⟩ HP3.out).mono ?_
                                rintro e w6 ⟨rfl, hb⟩
                                have HB6 := Aside0.mk (below_step HB5.out hb)
                                clear hb
                                go_wp2_with fail
                                refine (works_calls _).mono ?_
                                rintro e w7 ⟨rfl, hb⟩
                                have HB7 := Aside0.mk (below_step HB6.out hb)
                                clear hb
                                go_wp2
                                go_ret
                                exact ⟨rfl, HBW.out.trans (HB7.out.mono HBW.out.size)⟩
                            · obtain rfl : c = want := by have := HWANT.out; rw [if_neg (fun h => e h.1)] at this; exact this
                              have eb : (c == 0) = false := beq_eq_false_iff_ne.mpr e
                              have eb1 : (c != 0) = true := bne_iff_ne.mpr e
                              obtain rfl : p = [] := HF.out.2.2.1 e
                              clear e
                              go_wp2_with fail
                              refine (works_calls _).mono ?_
                              rintro e w5 ⟨rfl, hb⟩
                              have HB5 := Aside0.mk (below_step HB3.out hb)
                              clear hb
                              go_wp2
                              go_ret
                              exact ⟨rfl, HBW.out.trans (HB5.out.mono HBW.out.size)⟩
end Go.Proofs.YtengjaojkcokcaaGreatDoor.T
