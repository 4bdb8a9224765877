/- What the steps of works answer at the arguments that it hands them. -/
import Derived.Test.YtengjaojkcokcaaGreatDoorT6
import Derived.Test.YtengjaojkcokcaaGreatDoorGFirst
import Derived.Test.YtengjaojkcokcaaGreatDoorGCount
import Derived.Test.YtengjaojkcokcaaGreatDoorGPlan
namespace Go.Proofs.YtengjaojkcokcaaGreatDoor.T
open Go.RowKit Go.Proofs.YtengjaojkcokcaaGreatDoorW.PrintWords Go.Proofs.YtengjaojkcokcaaGreatDoorW.PrintLast Go.Proofs.YtengjaojkcokcaaGreatDoorW.PrintMore
def wbb : ByteArray := ⟨#[98, 98]⟩
def wbs : ByteArray := ⟨#[98, 115]⟩
def wsb : ByteArray := ⟨#[115, 98]⟩
def wss : ByteArray := ⟨#[115, 115]⟩
def w4 : List ByteArray := [wbb, wbs, wsb, wss]
theorem ev_reach : trial_Reach.f 100 2 3 = some (6, 0) := by kernel_rfl
theorem ev_trials : trial_Trials.f 100 6 2 = some (3, 0) := by kernel_rfl
theorem ev_count : trial_Count.f 3 2 3 = some (4, 0) := by kernel_rfl
theorem ev_first : trial_First.f 6 2 = some ([3, 1, 2, 5, 4, 6], 0) := by kernel_rfl
theorem ev_choices : trial_Choices.f 100 4 2 = some ([1, 2, 3], 0) := by kernel_rfl
theorem ev_words : trial_Words.f 100 [2, 1, 3] = some (w4, 0) := by kernel_rfl
theorem ev_plan : trial_Plan.f w4 = some ([2, 1, 3], 0) := by kernel_rfl
theorem ev_A : novaculitelaw04_A.f = some [3, 1, 2, 5, 4, 6] := by kernel_rfl
theorem ev_worst : trial_Worst.f 100 [3, 1, 2, 5, 4, 6] = some (3, 2, 0) := by kernel_rfl
theorem ev_sum : trial_Sum.f 100 [3, 1, 2, 5, 4, 6] = some (20, 0) := by kernel_rfl
theorem ev_known : trial_Known.f 100 6 [⟨4, true⟩, ⟨2, false⟩] = some (2, 3, 0) := by kernel_rfl
theorem ev_known2 : trial_Known.f 100 6 [⟨2, true⟩, ⟨3, false⟩] = some (0, 0, 12) := by kernel_rfl
theorem ev_price : trial_Price.f 100 3 1 1 = some (4, 0) := by kernel_rfl
theorem ev_cheap : trial_Cheap.f 3 1 1 = some ([1, 2, 3], 0) := by kernel_rfl
theorem ev_plan2 : trial_Plan.f [⟨#[98]⟩] = some ([], 21) := by kernel_rfl
theorem ev_check : trial_Check.f 100 [2, 3, 1] = some 7 := by kernel_rfl
theorem ev_proves : trial_Proves.f 100 [3, 1, 2, 5, 4, 6] 2 = some 0 := by kernel_rfl
theorem ev_proves2 : trial_Proves.f 100 [1, 2, 3] 2 = some 14 := by kernel_rfl
theorem ev_same1 : novaculitelaw04_same.f 100 [3, 1, 2, 5, 4, 6] [3, 1, 2, 5, 4, 6] = some true := by kernel_rfl
theorem ev_same2 : novaculitelaw04_same.f 100 [1, 2, 3] [1, 2, 3] = some true := by kernel_rfl
theorem ev_same3 : novaculitelaw04_same.f 100 [2, 1, 3] [2, 1, 3] = some true := by kernel_rfl
theorem ev_equal : novaculitelaw04_equal.f 100 w4 w4 = some true := by kernel_rfl
end Go.Proofs.YtengjaojkcokcaaGreatDoor.T
