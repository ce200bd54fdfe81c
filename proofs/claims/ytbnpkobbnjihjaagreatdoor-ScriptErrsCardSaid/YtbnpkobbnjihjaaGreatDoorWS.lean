/- Which ops, and runs, there are not. The row. N -/
import Derived.Test.YtbnpkobbnjihjaaGreatDoorWC
import Derived.Test.YtbnpkobbnjihjaaGreatDoorWE
namespace Go.Proofs.YtbnpkobbnjihjaaGreatDoor.scriptErrs
open Go Go.RowKit Go.ChangeShapes Go.WideShapes Go.ChangeAt Go.Proofs.YtbnpkobbnjihjaaGreatDoor
theorem zhA:Rows.ScriptErrsSaid:=
 OpenClaim.holds_of_cond 3 Tryz.f3 rfl rfl rfl rfl rfl rfl rfl ⟨rfl,rfl,rfl,rfl,rfl⟩ rfl rfl rfl rfl rfl kR Tryz.func3 Av
  (of_decide_eq_true kR) (by unfold Func.isWrapper;first|(rw[if_pos (by decide+kernel)];kernel_rfl)|(rw[if_neg (by decide+kernel)];exact⟨rfl,rfl⟩))
  (fun os b j enc _ k=>by rw[OpenClaim.pre_eq_preRow];exact lifted os b j enc k)
end Go.Proofs.YtbnpkobbnjihjaaGreatDoor.scriptErrs
