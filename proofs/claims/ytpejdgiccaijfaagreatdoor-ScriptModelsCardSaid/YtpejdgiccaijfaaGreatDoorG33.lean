/- The chapter's example of layer 14. -/
import Derived.Test.YtpejdgiccaijfaaGreatDoorG26
import Derived.Test.YtpejdgiccaijfaaGreatDoorG27
namespace Go.Proofs.YtpejdgiccaijfaaGreatDoor
open Go Go.RowKit Tryz
theorem SG(bl sl jo:Nat)(h1:1<=bl)(h2:bl<=12)(h3:1<=sl)(h4:sl<=8)(h5:4<=jo)(h6:jo<=12):(smN bl sl jo).Ok:=by
 have hp:(sl-1)/4<=1:=oM;constructor<;>simp only[smN,CaN.size]<;>omega
end Go.Proofs.YtpejdgiccaijfaaGreatDoor
