/- Ticks turn nothing that is read: a script with -/
import Derived.Test.YtpejdgiccaijfaaGreatDoorWC
import Derived.Test.YtpejdgiccaijfaaGreatDoorWE
namespace Go.Proofs.YtpejdgiccaijfaaGreatDoor.scriptTicks
open Go Go.RowKit Go.ChangeShapes Go.WideShapes Go.ChangeAt Go.Proofs.YtpejdgiccaijfaaGreatDoor
theorem zhg:Rows.ScriptTicksSaid:=
 OpenClaim.holds_of_cond 3 Tryz.f3 rfl rfl rfl rfl rfl rfl rfl ⟨rfl,rfl,rfl,rfl,rfl⟩ rfl rfl rfl rfl rfl kR Tryz.func3 Ae
  (of_decide_eq_true kR) (by unfold Func.isWrapper;first|(rw[if_pos (by decide+kernel)];kernel_rfl)|(rw[if_neg (by decide+kernel)];exact⟨rfl,rfl⟩))
  (fun os a b enc _ j=>by rw[OpenClaim.pre_eq_preRow];exact lifted os a b enc j)
end Go.Proofs.YtpejdgiccaijfaaGreatDoor.scriptTicks
