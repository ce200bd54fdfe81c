/- Contracts of t -/
import Derived.Shelf.SlSortCmp.WholeK
import Derived.Shelf.SlicesG.Cmp
import Derived.Shelf.Small.Bits
import Derived.Test.YtpejdgiccaijfaaGreatDoorG01
set_option maxRecDepth 100000
namespace Go.Proofs.YtpejdgiccaijfaaGreatDoor
open Go Go.Shelf Tryz
def qH:Go.Shelf.Ren:=⟨fun|6=>205|15=>278|14=>277|28=>360|29=>361|20=>352|21=>353|22=>354|23=>355|24=>356|25=>357|26=>358|27=>359|46=>412|47=>413|48=>414|49=>415|50=>416|57=>440|n=>n,fun|22=>215|24=>307|25=>312|3=>3|39=>379|0=>0|53=>457|55=>459|4=>4|46=>451|45=>450|50=>264|5=>5|9=>9|66=>497|70=>501|76=>514|77=>515|n=>n,fun|n=>n⟩
theorem TC:SlLaysF0.n6 prog qH:={
 mixed:=kR
 f6:=⟨Tryz.f205.name,de,func205.trans (congrArg some kR)⟩
 f14:=⟨Tryz.f277.name,de,func277.trans (congrArg some kR)⟩
 f15:=func278.trans (congrArg some kR)
 f20:=⟨Tryz.f352.name,de,func352.trans (congrArg some kR)⟩
 f21:=⟨Tryz.f353.name,de,func353.trans (congrArg some kR)⟩
 f22:=⟨Tryz.f354.name,de,func354.trans (congrArg some kR)⟩
 f23:=⟨Tryz.f355.name,de,func355.trans (congrArg some kR)⟩
 f24:=⟨Tryz.f356.name,de,func356.trans (congrArg some kR)⟩
 f25:=⟨Tryz.f357.name,de,func357.trans (congrArg some kR)⟩
 f26:=⟨Tryz.f358.name,de,func358.trans (congrArg some kR)⟩
 f27:=⟨Tryz.f359.name,de,func359.trans (congrArg some kR)⟩
 f28:=func360.trans (congrArg some kR)
 f29:=func361.trans (congrArg some kR)
 f46:=⟨Tryz.f412.name,de,func412.trans (congrArg some kR)⟩
 f47:=func413.trans (congrArg some kR)
 f48:=func414.trans (congrArg some kR)
 f49:=⟨Tryz.f415.name,de,func415.trans (congrArg some kR)⟩
 f50:=⟨Tryz.f416.name,de,func416.trans (congrArg some kR)⟩
 f57:=⟨Tryz.f440.name,de,func440.trans (congrArg some kR)⟩
 t0:=underlying0
 a0:=Tryz.isAgg0
 z0:=Tryz.sizeOf0
 v0:=Tryz.zeroValue0
 t3:=underlying3
 a3:=Tryz.isAgg3
 z3:=Tryz.sizeOf3
 v3:=Tryz.zeroValue3
 t4:=underlying4
 a4:=Tryz.isAgg4
 z4:=Tryz.sizeOf4
 v4:=Tryz.zeroValue4
 t5:=underlying5
 a5:=Tryz.isAgg5
 z5:=Tryz.sizeOf5
 v5:=Tryz.zeroValue5
 t9:=underlying9
 a9:=Tryz.isAgg9
 z9:=Tryz.sizeOf9
 v9:=Tryz.zeroValue9
 t22:=underlying215
 a22:=Tryz.isAgg215
 z22:=Tryz.sizeOf215
 v22:=Tryz.zeroValue215
 t25:=underlying312
 a25:=Tryz.isAgg312
 z25:=Tryz.sizeOf312
 v25:=Tryz.zeroValue312
 t39:=underlying379
 a39:=Tryz.isAgg379
 z39:=Tryz.sizeOf379
 v39:=Tryz.zeroValue379
 t45:=underlying450
 a45:=Tryz.isAgg450
 z45:=Tryz.sizeOf450
 v45:=Tryz.zeroValue450
 t46:=underlying451
 a46:=Tryz.isAgg451
 z46:=Tryz.sizeOf451
 v46:=Tryz.zeroValue451
 t50:=underlying264
 a50:=Tryz.isAgg264
 z50:=Tryz.sizeOf264
 v50:=Tryz.zeroValue264
 t53:=underlying457
 a53:=Tryz.isAgg457
 z53:=Tryz.sizeOf457
 v53:=Tryz.zeroValue457
 t55:=underlying459
 a55:=Tryz.isAgg459
 z55:=Tryz.sizeOf459
 v55:=Tryz.zeroValue459
 t66:=underlying497
 a66:=Tryz.isAgg497
 z66:=Tryz.sizeOf497
 v66:=Tryz.zeroValue497
 t70:=underlying501
 a70:=Tryz.isAgg501
 z70:=Tryz.sizeOf501
 v70:=Tryz.zeroValue501
 t76:=underlying514
 a76:=Tryz.isAgg514
 z76:=Tryz.sizeOf514
 v76:=Tryz.zeroValue514
 t77:=underlying515
 a77:=Tryz.isAgg515
 z77:=Tryz.sizeOf515
 v77:=Tryz.zeroValue515}
def qI:Go.Shelf.Ren:=⟨fun|6=>208|15=>278|14=>280|28=>360|29=>361|20=>362|21=>363|22=>364|23=>365|24=>366|25=>367|26=>368|27=>369|46=>417|47=>413|48=>414|49=>418|50=>419|57=>441|n=>n,fun|22=>146|24=>155|25=>316|3=>3|39=>379|0=>0|53=>457|55=>459|4=>4|46=>451|45=>450|50=>264|5=>5|9=>9|66=>497|70=>501|76=>514|77=>515|n=>n,fun|n=>n⟩
theorem TD:SlLaysF0.n6 prog qI:={
 mixed:=kR
 f6:=⟨Tryz.f208.name,de,func208.trans (congrArg some kR)⟩
 f14:=⟨Tryz.f280.name,de,func280.trans (congrArg some kR)⟩
 f15:=func278.trans (congrArg some kR)
 f20:=⟨Tryz.f362.name,de,func362.trans (congrArg some kR)⟩
 f21:=⟨Tryz.f363.name,de,func363.trans (congrArg some kR)⟩
 f22:=⟨Tryz.f364.name,de,func364.trans (congrArg some kR)⟩
 f23:=⟨Tryz.f365.name,de,func365.trans (congrArg some kR)⟩
 f24:=⟨Tryz.f366.name,de,func366.trans (congrArg some kR)⟩
 f25:=⟨Tryz.f367.name,de,func367.trans (congrArg some kR)⟩
 f26:=⟨Tryz.f368.name,de,func368.trans (congrArg some kR)⟩
 f27:=⟨Tryz.f369.name,de,func369.trans (congrArg some kR)⟩
 f28:=func360.trans (congrArg some kR)
 f29:=func361.trans (congrArg some kR)
 f46:=⟨Tryz.f417.name,de,func417.trans (congrArg some kR)⟩
 f47:=func413.trans (congrArg some kR)
 f48:=func414.trans (congrArg some kR)
 f49:=⟨Tryz.f418.name,de,func418.trans (congrArg some kR)⟩
 f50:=⟨Tryz.f419.name,de,func419.trans (congrArg some kR)⟩
 f57:=⟨Tryz.f441.name,de,func441.trans (congrArg some kR)⟩
 t0:=underlying0
 a0:=Tryz.isAgg0
 z0:=Tryz.sizeOf0
 v0:=Tryz.zeroValue0
 t3:=underlying3
 a3:=Tryz.isAgg3
 z3:=Tryz.sizeOf3
 v3:=Tryz.zeroValue3
 t4:=underlying4
 a4:=Tryz.isAgg4
 z4:=Tryz.sizeOf4
 v4:=Tryz.zeroValue4
 t5:=underlying5
 a5:=Tryz.isAgg5
 z5:=Tryz.sizeOf5
 v5:=Tryz.zeroValue5
 t9:=underlying9
 a9:=Tryz.isAgg9
 z9:=Tryz.sizeOf9
 v9:=Tryz.zeroValue9
 t22:=underlying146
 a22:=Tryz.isAgg146
 z22:=Tryz.sizeOf146
 v22:=Tryz.zeroValue146
 t25:=underlying316
 a25:=Tryz.isAgg316
 z25:=Tryz.sizeOf316
 v25:=Tryz.zeroValue316
 t39:=underlying379
 a39:=Tryz.isAgg379
 z39:=Tryz.sizeOf379
 v39:=Tryz.zeroValue379
 t45:=underlying450
 a45:=Tryz.isAgg450
 z45:=Tryz.sizeOf450
 v45:=Tryz.zeroValue450
 t46:=underlying451
 a46:=Tryz.isAgg451
 z46:=Tryz.sizeOf451
 v46:=Tryz.zeroValue451
 t50:=underlying264
 a50:=Tryz.isAgg264
 z50:=Tryz.sizeOf264
 v50:=Tryz.zeroValue264
 t53:=underlying457
 a53:=Tryz.isAgg457
 z53:=Tryz.sizeOf457
 v53:=Tryz.zeroValue457
 t55:=underlying459
 a55:=Tryz.isAgg459
 z55:=Tryz.sizeOf459
 v55:=Tryz.zeroValue459
 t66:=underlying497
 a66:=Tryz.isAgg497
 z66:=Tryz.sizeOf497
 v66:=Tryz.zeroValue497
 t70:=underlying501
 a70:=Tryz.isAgg501
 z70:=Tryz.sizeOf501
 v70:=Tryz.zeroValue501
 t76:=underlying514
 a76:=Tryz.isAgg514
 z76:=Tryz.sizeOf514
 v76:=Tryz.zeroValue514
 t77:=underlying515
 a77:=Tryz.isAgg515
 z77:=Tryz.sizeOf515
 v77:=Tryz.zeroValue515}
def VZ:Go.Shelf.Ren:=⟨fun|5=>207|7=>279|n=>n,fun|22=>3|3=>3|4=>4|n=>n,fun|n=>n⟩
theorem Ec:SlLaysC2.n5 prog VZ:={
 mixed:=kR
 f5:=⟨Tryz.f207.name,de,func207.trans (congrArg some kR)⟩
 f7:=⟨Tryz.f279.name,de,func279.trans (congrArg some kR)⟩
 t3:=underlying3
 a3:=Tryz.isAgg3
 z3:=Tryz.sizeOf3
 v3:=Tryz.zeroValue3
 t4:=underlying4
 a4:=Tryz.isAgg4
 z4:=Tryz.sizeOf4
 v4:=Tryz.zeroValue4
 t22:=underlying3
 a22:=Tryz.isAgg3
 z22:=Tryz.sizeOf3
 v22:=Tryz.zeroValue3}
section
open Go.RowKit
theorem Zcg20{P:Prop}(h:P:=by
  go_wp2
  go_loopg[8] 0 (fun g b wr=>b=.int .i64 1/\wr=w)
  case atStart=>exact⟨rfl,rfl⟩
  case round=>
   obtain⟨rfl,rfl⟩:=hrel;go_wp2
   go_end0
   exact⟨rfl,rfl⟩):P:=h
theorem Ed(c:Value)(w:World):Calls prog 352 #[.slice none 0 0,.int .i64 0,.int .i64 0,c] w fun e a=>e=.returned (.tuple #[])/\a=w:=by
 go_enter func352,ntmps352
 exact Zcg20
theorem Ee(c:Value)(l:Int)(w:World):Calls prog 277 #[.slice none 0 0,.int .i64 0,.int .i64 0,.int .i64 l,c] w fun e a=>e=.returned (.tuple #[])/\a=w:=by
 go_enter func277,ntmps277
 go_wp2
 go_loopg[1,2,3,10,11] 0 (fun g b h j k n wr=>b=.int .i64 0/\h=.int .i64 0/\wr=w)
 case atStart=>exact⟨rfl,rfl,rfl⟩
 case round=>
  obtain⟨rfl,rfl,rfl⟩:=hrel;go_wp2_with (first|(go_at_call 352;refine(Ed c _).mono ?_;rintro e a ⟨rfl,rfl⟩)|fail)
  exact qYq (qYv rfl _ _ _) rfl ⟨rfl,rfl⟩
theorem Rl(c:Value)(w:World):Calls prog 205 #[.slice none 0 0,c] w fun e a=>e=.returned (.tuple #[])/\a=w:=by
 have b:Calls prog 278 #[.int .u64 0] w fun e a=>e=.returned (.int .i64 (Lib.bitLen 0:Nat))/\a=w:=Any.bits_Len (SlLaysF0.n15.bits (P:=prog) (ρ:=qH) {TC with}) 0 w oM oM;go_enter func205,ntmps205
 go_wp2_with (first
  |(go_at_call 278;refine b.mono ?_;rintro e a ⟨rfl,rfl⟩)
  |(go_at_call 277;refine(Ee c _ _).mono ?_;rintro e a ⟨rfl,rfl⟩)
  |fail)
 go_end0
 exact⟨rfl,rfl⟩
theorem Ef(c:Value)(w:World):Calls prog 362 #[.slice none 0 0,.int .i64 0,.int .i64 0,c] w fun e a=>e=.returned (.tuple #[])/\a=w:=by
 go_enter func362,ntmps362
 exact Zcg20
theorem Eg(c:Value)(l:Int)(w:World):Calls prog 280 #[.slice none 0 0,.int .i64 0,.int .i64 0,.int .i64 l,c] w fun e a=>e=.returned (.tuple #[])/\a=w:=by
 go_enter func280,ntmps280
 go_wp2
 go_loopg[1,2,3,10,11] 0 (fun g b h j k n wr=>b=.int .i64 0/\h=.int .i64 0/\wr=w)
 case atStart=>exact⟨rfl,rfl,rfl⟩
 case round=>
  obtain⟨rfl,rfl,rfl⟩:=hrel;go_wp2_with (first|(go_at_call 362;refine(Ef c _).mono ?_;rintro e a ⟨rfl,rfl⟩)|fail)
  exact qYq (qYv rfl _ _ _) rfl ⟨rfl,rfl⟩
theorem Rm(c:Value)(w:World):Calls prog 208 #[.slice none 0 0,c] w fun e a=>e=.returned (.tuple #[])/\a=w:=by
 have b:Calls prog 278 #[.int .u64 0] w fun e a=>e=.returned (.int .i64 (Lib.bitLen 0:Nat))/\a=w:=Any.bits_Len (SlLaysF0.n15.bits (P:=prog) (ρ:=qI) {TD with}) 0 w oM oM;go_enter func208,ntmps208
 go_wp2_with (first
  |(go_at_call 278;refine b.mono ?_;rintro e a ⟨rfl,rfl⟩)
  |(go_at_call 280;refine(Eg c _ _).mono ?_;rintro e a ⟨rfl,rfl⟩)
  |fail)
 go_end0
 exact⟨rfl,rfl⟩
end
end Go.Proofs.YtpejdgiccaijfaaGreatDoor
