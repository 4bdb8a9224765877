/- For every input the law novaculitelaw04.TrialSpelled answers true, and what it was handed reads behind the call as it read before. The conditions: when the call begins, unicode/utf8.acceptRanges reads as the program's own text lays it, and unicode/utf8.first reads as Go's own table (both tied to the program's text by the card); nothing else. -/
import Derived.Test.YtengjaojkcokcaaGreatDoorCards
import Derived.Test.YtengjaojkcokcaaGreatDoorTie
import Derived.Test.YtengjaojkcokcaaGreatDoorGRow
namespace Go.Proofs.YtengjaojkcokcaaGreatDoor
open Go

set_option maxRecDepth 100000 in
theorem trialSpelled_holds : Rows.TrialSpelledSaid :=
  OpenClaim.holds_of_wide 3 Tryz.f3 rfl rfl rfl rfl rfl rfl rfl ⟨rfl, rfl, rfl, rfl, rfl⟩ rfl rfl rfl rfl rfl (by kernel_rfl) Tryz.func3 (by kernel_rfl)
    (of_decide_eq_true (by kernel_rfl)) (by unfold Func.isWrapper; rw [if_neg (of_decide_eq_false (by kernel_rfl))]; exact ⟨rfl, rfl⟩)
    (fun os started H enc _ => T.lifted os started H enc)

theorem trialSpelled_card_holds : Rows.TrialSpelledCardSaid :=
  Claim7.holds_tied_plain_at .later [] [.data, .pinned] true (true, "4c407dfefe293a4af6fb016d36fe8a8f6cdb15a3fa7072f5abca596e7fb57cbe") false
    trialSpelled_holds (fun _ h => by cases h) (by kernel_rfl) (fun _ h => by cases h) trialSpelled_row_tie rfl ⟨rfl, rfl⟩ (by kernel_rfl) rfl
    (fun f fn hf hfn => by
      obtain rfl : f = 3 := Option.some.inj ((show Tryz.prog.funcNamed "novaculite/novaculitelaw04.TrialSpelled" = some 3 by kernel_rfl).symm.trans hf) |>.symm
      obtain rfl : fn = Tryz.f3 := (Option.some.inj (Tryz.func3.symm.trans hfn)).symm
      exact ⟨by kernel_rfl, fun j t ht => by
        rw [Tryz.params3] at ht
        have hm : t ∈ [5, 22, 22] := by simpa using Array.mem_of_getElem? ht
        have hall : ([5, 22, 22].all fun u => !Tryz.prog.wantsStandIn u) = true := by kernel_rfl
        exact (show Tryz.prog.wantsStandIn t = false by simpa using List.all_eq_true.1 hall t hm)⟩)
    (by kernel_rfl)
#print axioms trialSpelled_card_holds
end Go.Proofs.YtengjaojkcokcaaGreatDoor
