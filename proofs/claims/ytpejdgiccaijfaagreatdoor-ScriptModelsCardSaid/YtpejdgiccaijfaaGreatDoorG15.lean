/- Superblocks: the superblock of numbers; a supe -/
import Derived.Test.YtpejdgiccaijfaaGreatDoorG10
set_option maxRecDepth 100000
set_option maxHeartbeats 1000000
namespace Go.Proofs.YtpejdgiccaijfaaGreatDoor
open Go Go.RowKit Tryz
def dsS(xs:List Int):List Value:=[.int .i64 (xs.getD 0 0),.int .i64 (xs.getD 1 0),.int .i64 (xs.getD 2 0),.int .i64 (xs.getD 3 0),.int .i64 (xs.getD 4 0),.int .i64 (xs.getD 5 0),.int .i64 (xs.getD 6 0)]
theorem qc(xs:List Int):(dsS xs).length=7:=rfl
theorem qd(xs:List Int):∀v∈dsS xs,v.oneCell'=true:=by
 intro v hv;simp only[dsS,qzm,qzy,qYt]at hv;rcases hv with rfl|rfl|rfl|rfl|rfl|rfl|rfl<;>rfl
theorem zaA{w:World}{gl ol cl:Nat}(xs:List Int)(hxl:xs.length=7)(hx:w.rangeAt gl ol (ints xs)):
  Calls prog 127 (#[.slice (some ⟨gl,ol,none⟩) 7 cl]++ #[]) w fun e w'=>e=.returned (.agg (dsS xs).toArray)/\Below w.heap.size w w':=by
 have x0:=yt hx 0 oM;have x1:=yt hx 1 oM;have x2:=yt hx 2 oM;have x3:=yt hx 3 oM;have x4:=yt hx 4 oM;have x5:=yt hx 5 oM;have x6:=yt hx 6 oM;rw[qXm]at x0;have hlt:gl<w.heap.size:=qYg w _ x0;have hds:Hid (dsS xs=[.int .i64 (xs.getD 0 0),.int .i64 (xs.getD 1 0),.int .i64 (xs.getD 2 0),.int .i64 (xs.getD 3 0),.int .i64 (xs.getD 4 0),.int .i64 (xs.getD 5 0),.int .i64 (xs.getD 6 0)]):=rfl;generalize xs.getD 0 0=y0 at*;generalize xs.getD 1 0=y1 at*;generalize xs.getD 2 0=y2 at*;generalize xs.getD 3 0=y3 at*;generalize xs.getD 4 0=y4 at*;generalize xs.getD 5 0=y5 at*;generalize xs.getD 6 0=y6 at*;clear hx hxl;go_enter func127,ntmps127
 go_wp2
 go_region
 go_wp2
 exact qYp (zv rfl _ _ w.heap.size 0 [.int .i64 y0,.int .i64 y1,.int .i64 y2,.int .i64 y3,.int .i64 y4,.int .i64 y5,.int .i64 y6] _ rfl ((qYj ..).2 (zg (zc w _ rfl))) underlying44 rfl yp) rfl
  ⟨by rw[hds.out],zQ ((qxl _ w).alloc (qXo _) _) 1⟩
theorem zcG(y0 y1 y2 y3 y4 y5 y6:Int)(w:World):Calls prog 125 #[.agg #[.int .i64 y0,.int .i64 y1,.int .i64 y2,.int .i64 y3,.int .i64 y4,.int .i64 y5,.int .i64 y6]] w (zR w 7 [y0,y1,y2,y3,y4,y5,y6]):=by
 go_enter func125,ntmps125
 go_wp2
 go_ret
 exact⟨w.heap.size+1,7,rfl,qXo _,by unfold maxLen;omega,zg (zc _ _ oe),((qxl _ w).alloc (qXo _) _).alloc oe _⟩
end Go.Proofs.YtpejdgiccaijfaaGreatDoor
