/- Contracts of the library, laid at this program -/
import Derived.Shelf.SlicesG.Cmp
import Derived.Shelf.Small.Bits
import Derived.Test.YtfhfbpmlnjdfoaaGreatDoorG40
set_option maxRecDepth 100000
set_option maxHeartbeats 2000000
namespace Go.Proofs.YtfhfbpmlnjdfoaaGreatDoor
open Go Go.Shelf
def tm:Go.Shelf.Ren:=⟨fun|6=>108|15=>118|14=>179|28=>189|29=>190|20=>254|21=>255|22=>256|23=>257|24=>258|25=>259|26=>260|27=>261|46=>312|47=>264|48=>265|49=>313|50=>314|57=>336|n=>n,fun|22=>23|24=>101|25=>199|3=>3|39=>209|0=>0|53=>310|55=>312|4=>4|46=>303|45=>302|50=>307|5=>5|9=>9|66=>389|70=>393|76=>424|77=>425|n=>n,fun|n=>n⟩
theorem WX:SlLaysF0.n6 Tryz.prog tm:={
 mixed:=by kernel_rfl
 f6:=⟨Tryz.f108.name,by decide,Tryz.func108.trans (congrArg some (by kernel_rfl))⟩
 f14:=⟨Tryz.f179.name,by decide,Tryz.func179.trans (congrArg some (by kernel_rfl))⟩
 f15:=Tryz.func118.trans (congrArg some (by kernel_rfl))
 f20:=⟨Tryz.f254.name,by decide,Tryz.func254.trans (congrArg some (by kernel_rfl))⟩
 f21:=⟨Tryz.f255.name,by decide,Tryz.func255.trans (congrArg some (by kernel_rfl))⟩
 f22:=⟨Tryz.f256.name,by decide,Tryz.func256.trans (congrArg some (by kernel_rfl))⟩
 f23:=⟨Tryz.f257.name,by decide,Tryz.func257.trans (congrArg some (by kernel_rfl))⟩
 f24:=⟨Tryz.f258.name,by decide,Tryz.func258.trans (congrArg some (by kernel_rfl))⟩
 f25:=⟨Tryz.f259.name,by decide,Tryz.func259.trans (congrArg some (by kernel_rfl))⟩
 f26:=⟨Tryz.f260.name,by decide,Tryz.func260.trans (congrArg some (by kernel_rfl))⟩
 f27:=⟨Tryz.f261.name,by decide,Tryz.func261.trans (congrArg some (by kernel_rfl))⟩
 f28:=Tryz.func189.trans (congrArg some (by kernel_rfl))
 f29:=Tryz.func190.trans (congrArg some (by kernel_rfl))
 f46:=⟨Tryz.f312.name,by decide,Tryz.func312.trans (congrArg some (by kernel_rfl))⟩
 f47:=Tryz.func264.trans (congrArg some (by kernel_rfl))
 f48:=Tryz.func265.trans (congrArg some (by kernel_rfl))
 f49:=⟨Tryz.f313.name,by decide,Tryz.func313.trans (congrArg some (by kernel_rfl))⟩
 f50:=⟨Tryz.f314.name,by decide,Tryz.func314.trans (congrArg some (by kernel_rfl))⟩
 f57:=⟨Tryz.f336.name,by decide,Tryz.func336.trans (congrArg some (by kernel_rfl))⟩
 t0:=Tryz.underlying0
 a0:=Tryz.isAgg0
 z0:=Tryz.sizeOf0
 v0:=Tryz.zeroValue0
 t3:=Tryz.underlying3
 a3:=Tryz.isAgg3
 z3:=Tryz.sizeOf3
 v3:=Tryz.zeroValue3
 t4:=Tryz.underlying4
 a4:=Tryz.isAgg4
 z4:=Tryz.sizeOf4
 v4:=Tryz.zeroValue4
 t5:=Tryz.underlying5
 a5:=Tryz.isAgg5
 z5:=Tryz.sizeOf5
 v5:=Tryz.zeroValue5
 t9:=Tryz.underlying9
 a9:=Tryz.isAgg9
 z9:=Tryz.sizeOf9
 v9:=Tryz.zeroValue9
 t22:=Tryz.underlying23
 a22:=Tryz.isAgg23
 z22:=Tryz.sizeOf23
 v22:=Tryz.zeroValue23
 t25:=Tryz.underlying199
 a25:=Tryz.isAgg199
 z25:=Tryz.sizeOf199
 v25:=Tryz.zeroValue199
 t39:=Tryz.underlying209
 a39:=Tryz.isAgg209
 z39:=Tryz.sizeOf209
 v39:=Tryz.zeroValue209
 t45:=Tryz.underlying302
 a45:=Tryz.isAgg302
 z45:=Tryz.sizeOf302
 v45:=Tryz.zeroValue302
 t46:=Tryz.underlying303
 a46:=Tryz.isAgg303
 z46:=Tryz.sizeOf303
 v46:=Tryz.zeroValue303
 t50:=Tryz.underlying307
 a50:=Tryz.isAgg307
 z50:=Tryz.sizeOf307
 v50:=Tryz.zeroValue307
 t53:=Tryz.underlying310
 a53:=Tryz.isAgg310
 z53:=Tryz.sizeOf310
 v53:=Tryz.zeroValue310
 t55:=Tryz.underlying312
 a55:=Tryz.isAgg312
 z55:=Tryz.sizeOf312
 v55:=Tryz.zeroValue312
 t66:=Tryz.underlying389
 a66:=Tryz.isAgg389
 z66:=Tryz.sizeOf389
 v66:=Tryz.zeroValue389
 t70:=Tryz.underlying393
 a70:=Tryz.isAgg393
 z70:=Tryz.sizeOf393
 v70:=Tryz.zeroValue393
 t76:=Tryz.underlying424
 a76:=Tryz.isAgg424
 z76:=Tryz.sizeOf424
 v76:=Tryz.zeroValue424
 t77:=Tryz.underlying425
 a77:=Tryz.isAgg425
 z77:=Tryz.sizeOf425
 v77:=Tryz.zeroValue425}
def tn:Go.Shelf.Ren:=⟨fun|6=>50|15=>118|14=>117|28=>189|29=>190|20=>181|21=>182|22=>183|23=>184|24=>185|25=>186|26=>187|27=>188|46=>263|47=>264|48=>265|49=>266|50=>267|57=>315|n=>n,fun|22=>22|24=>37|25=>119|3=>3|39=>209|0=>0|53=>310|55=>312|4=>4|46=>303|45=>302|50=>307|5=>5|9=>9|66=>389|70=>393|76=>424|77=>425|n=>n,fun|n=>n⟩
theorem WY:SlLaysF0.n6 Tryz.prog tn:={
 mixed:=by kernel_rfl
 f6:=⟨Tryz.f50.name,by decide,Tryz.func50.trans (congrArg some (by kernel_rfl))⟩
 f14:=⟨Tryz.f117.name,by decide,Tryz.func117.trans (congrArg some (by kernel_rfl))⟩
 f15:=Tryz.func118.trans (congrArg some (by kernel_rfl))
 f20:=⟨Tryz.f181.name,by decide,Tryz.func181.trans (congrArg some (by kernel_rfl))⟩
 f21:=⟨Tryz.f182.name,by decide,Tryz.func182.trans (congrArg some (by kernel_rfl))⟩
 f22:=⟨Tryz.f183.name,by decide,Tryz.func183.trans (congrArg some (by kernel_rfl))⟩
 f23:=⟨Tryz.f184.name,by decide,Tryz.func184.trans (congrArg some (by kernel_rfl))⟩
 f24:=⟨Tryz.f185.name,by decide,Tryz.func185.trans (congrArg some (by kernel_rfl))⟩
 f25:=⟨Tryz.f186.name,by decide,Tryz.func186.trans (congrArg some (by kernel_rfl))⟩
 f26:=⟨Tryz.f187.name,by decide,Tryz.func187.trans (congrArg some (by kernel_rfl))⟩
 f27:=⟨Tryz.f188.name,by decide,Tryz.func188.trans (congrArg some (by kernel_rfl))⟩
 f28:=Tryz.func189.trans (congrArg some (by kernel_rfl))
 f29:=Tryz.func190.trans (congrArg some (by kernel_rfl))
 f46:=⟨Tryz.f263.name,by decide,Tryz.func263.trans (congrArg some (by kernel_rfl))⟩
 f47:=Tryz.func264.trans (congrArg some (by kernel_rfl))
 f48:=Tryz.func265.trans (congrArg some (by kernel_rfl))
 f49:=⟨Tryz.f266.name,by decide,Tryz.func266.trans (congrArg some (by kernel_rfl))⟩
 f50:=⟨Tryz.f267.name,by decide,Tryz.func267.trans (congrArg some (by kernel_rfl))⟩
 f57:=⟨Tryz.f315.name,by decide,Tryz.func315.trans (congrArg some (by kernel_rfl))⟩
 t0:=Tryz.underlying0
 a0:=Tryz.isAgg0
 z0:=Tryz.sizeOf0
 v0:=Tryz.zeroValue0
 t3:=Tryz.underlying3
 a3:=Tryz.isAgg3
 z3:=Tryz.sizeOf3
 v3:=Tryz.zeroValue3
 t4:=Tryz.underlying4
 a4:=Tryz.isAgg4
 z4:=Tryz.sizeOf4
 v4:=Tryz.zeroValue4
 t5:=Tryz.underlying5
 a5:=Tryz.isAgg5
 z5:=Tryz.sizeOf5
 v5:=Tryz.zeroValue5
 t9:=Tryz.underlying9
 a9:=Tryz.isAgg9
 z9:=Tryz.sizeOf9
 v9:=Tryz.zeroValue9
 t22:=Tryz.underlying22
 a22:=Tryz.isAgg22
 z22:=Tryz.sizeOf22
 v22:=Tryz.zeroValue22
 t25:=Tryz.underlying119
 a25:=Tryz.isAgg119
 z25:=Tryz.sizeOf119
 v25:=Tryz.zeroValue119
 t39:=Tryz.underlying209
 a39:=Tryz.isAgg209
 z39:=Tryz.sizeOf209
 v39:=Tryz.zeroValue209
 t45:=Tryz.underlying302
 a45:=Tryz.isAgg302
 z45:=Tryz.sizeOf302
 v45:=Tryz.zeroValue302
 t46:=Tryz.underlying303
 a46:=Tryz.isAgg303
 z46:=Tryz.sizeOf303
 v46:=Tryz.zeroValue303
 t50:=Tryz.underlying307
 a50:=Tryz.isAgg307
 z50:=Tryz.sizeOf307
 v50:=Tryz.zeroValue307
 t53:=Tryz.underlying310
 a53:=Tryz.isAgg310
 z53:=Tryz.sizeOf310
 v53:=Tryz.zeroValue310
 t55:=Tryz.underlying312
 a55:=Tryz.isAgg312
 z55:=Tryz.sizeOf312
 v55:=Tryz.zeroValue312
 t66:=Tryz.underlying389
 a66:=Tryz.isAgg389
 z66:=Tryz.sizeOf389
 v66:=Tryz.zeroValue389
 t70:=Tryz.underlying393
 a70:=Tryz.isAgg393
 z70:=Tryz.sizeOf393
 v70:=Tryz.zeroValue393
 t76:=Tryz.underlying424
 a76:=Tryz.isAgg424
 z76:=Tryz.sizeOf424
 v76:=Tryz.zeroValue424
 t77:=Tryz.underlying425
 a77:=Tryz.isAgg425
 z77:=Tryz.sizeOf425
 v77:=Tryz.zeroValue425}
def XX:Go.Shelf.Ren:=⟨fun|5=>52|7=>119|n=>n,fun|22=>3|3=>3|4=>4|n=>n,fun|n=>n⟩
theorem QW:SlLaysC2.n5 Tryz.prog XX:={
 mixed:=by kernel_rfl
 f5:=⟨Tryz.f52.name,by decide,Tryz.func52.trans (congrArg some (by kernel_rfl))⟩
 f7:=⟨Tryz.f119.name,by decide,Tryz.func119.trans (congrArg some (by kernel_rfl))⟩
 t3:=Tryz.underlying3
 a3:=Tryz.isAgg3
 z3:=Tryz.sizeOf3
 v3:=Tryz.zeroValue3
 t4:=Tryz.underlying4
 a4:=Tryz.isAgg4
 z4:=Tryz.sizeOf4
 v4:=Tryz.zeroValue4
 t22:=Tryz.underlying3
 a22:=Tryz.isAgg3
 z22:=Tryz.sizeOf3
 v22:=Tryz.zeroValue3}
end Go.Proofs.YtfhfbpmlnjdfoaaGreatDoor
namespace Go.Proofs.YtfhfbpmlnjdfoaaGreatDoor
open Go Go.RowKit Go.Shelf
theorem QX(c:Value)(w:World):Calls Tryz.prog 254 #[.slice none 0 0,.int .i64 0,.int .i64 0,c] w fun e w'=>e=.returned (.tuple #[])/\w'=w:=by
 go_enter Tryz.func254,Tryz.ntmps254
 go_wp2
 go_loopg[8] 0 (fun g s8 wr=>s8=.int .i64 1/\wr=w)
 case atStart=>exact⟨rfl,rfl⟩
 case round=>
  obtain⟨rfl,rfl⟩:=hrel;go_wp2
  go_end0
  exact⟨rfl,rfl⟩
theorem QY(c:Value)(l:Int)(w:World):Calls Tryz.prog 179 #[.slice none 0 0,.int .i64 0,.int .i64 0,.int .i64 l,c] w fun e w'=>e=.returned (.tuple #[])/\w'=w:=by
 go_enter Tryz.func179,Tryz.ntmps179
 go_wp2
 go_loopg[1,2,3,10,11] 0 (fun g s1 s2 s3 s10 s11 wr=>s1=.int .i64 0/\s2=.int .i64 0/\wr=w)
 case atStart=>exact⟨rfl,rfl,rfl⟩
 case round=>
  obtain⟨rfl,rfl,rfl⟩:=hrel;go_wp2_with (first|(go_at_call 254;refine(QX c _).mono ?_;rintro e w' ⟨rfl,rfl⟩)|fail)
  exact qYw (qZc rfl _ _ _) rfl ⟨rfl,rfl⟩
theorem Uu(c:Value)(w:World):Calls Tryz.prog 108 #[.slice none 0 0,c] w fun e w'=>e=.returned (.tuple #[])/\w'=w:=by
 have hl:Calls Tryz.prog 118 #[.int .u64 0] w fun e w'=>e=.returned (.int .i64 (Lib.bitLen 0:Nat))/\w'=w:=Any.bits_Len (SlLaysF0.n15.bits (P:=Tryz.prog) (ρ:=tm) {WX with}) 0 w (by omega) (by omega);go_enter Tryz.func108,Tryz.ntmps108
 go_wp2_with (first
  |(go_at_call 118;refine hl.mono ?_;rintro e w' ⟨rfl,rfl⟩)
  |(go_at_call 179;refine(QY c _ _).mono ?_;rintro e w' ⟨rfl,rfl⟩)
  |fail)
 go_end0
 exact⟨rfl,rfl⟩
theorem QZ(c:Value)(w:World):Calls Tryz.prog 181 #[.slice none 0 0,.int .i64 0,.int .i64 0,c] w fun e w'=>e=.returned (.tuple #[])/\w'=w:=by
 go_enter Tryz.func181,Tryz.ntmps181
 go_wp2
 go_loopg[8] 0 (fun g s8 wr=>s8=.int .i64 1/\wr=w)
 case atStart=>exact⟨rfl,rfl⟩
 case round=>
  obtain⟨rfl,rfl⟩:=hrel;go_wp2
  go_end0
  exact⟨rfl,rfl⟩
theorem Ra(c:Value)(l:Int)(w:World):Calls Tryz.prog 117 #[.slice none 0 0,.int .i64 0,.int .i64 0,.int .i64 l,c] w fun e w'=>e=.returned (.tuple #[])/\w'=w:=by
 go_enter Tryz.func117,Tryz.ntmps117
 go_wp2
 go_loopg[1,2,3,10,11] 0 (fun g s1 s2 s3 s10 s11 wr=>s1=.int .i64 0/\s2=.int .i64 0/\wr=w)
 case atStart=>exact⟨rfl,rfl,rfl⟩
 case round=>
  obtain⟨rfl,rfl,rfl⟩:=hrel;go_wp2_with (first|(go_at_call 181;refine(QZ c _).mono ?_;rintro e w' ⟨rfl,rfl⟩)|fail)
  exact qYw (qZc rfl _ _ _) rfl ⟨rfl,rfl⟩
theorem Uv(c:Value)(w:World):Calls Tryz.prog 50 #[.slice none 0 0,c] w fun e w'=>e=.returned (.tuple #[])/\w'=w:=by
 have hl:Calls Tryz.prog 118 #[.int .u64 0] w fun e w'=>e=.returned (.int .i64 (Lib.bitLen 0:Nat))/\w'=w:=Any.bits_Len (SlLaysF0.n15.bits (P:=Tryz.prog) (ρ:=tn) {WY with}) 0 w (by omega) (by omega);go_enter Tryz.func50,Tryz.ntmps50
 go_wp2_with (first
  |(go_at_call 118;refine hl.mono ?_;rintro e w' ⟨rfl,rfl⟩)
  |(go_at_call 117;refine(Ra c _ _).mono ?_;rintro e w' ⟨rfl,rfl⟩)
  |fail)
 go_end0
 exact⟨rfl,rfl⟩
end Go.Proofs.YtfhfbpmlnjdfoaaGreatDoor
namespace Go.Proofs.YtfhfbpmlnjdfoaaGreatDoor
open Go Go.RowKit Go.Shelf Go.Lib Go.Sort
def XY(x y:List Nat):Int:=Lib.compareInt (rseq x:Nat) (rseq y:Nat)
theorem ltR(x y:List Nat):ltOf XY x y=decide (rseq x<rseq y):=by
 unfold ltOf XY Lib.compareInt;by_cases h1:rseq x<rseq y
 .simp [h1]
 .by_cases h2:rseq y<rseq x<;>simp[h1,h2]
theorem zaB:SWO (ltOf XY)where
 irrefl x:=by rw[ltR];simp
 trans x y z h1 h2:=by rw[ltR]at*;simp at*;omega
 ntrans x y z h1 h2:=by rw[ltR]at*;simp at*;omega
theorem AV(x y:List Nat)(W:World):Calls Tryz.prog 109 #[.agg (recCs x).toArray,.agg (recCs y).toArray] W fun e w'=>e=.returned (.int .i64 (XY x y))/\∃q os',w'=Go.Sort.grow (W.drewN q) os':=by
 have hcon:=fun W'=>AnyG.cmp_Compare_int QW (rseq x:Nat) (rseq y:Nat) W'
 change∀W',Calls Tryz.prog 52 _ _ _ at hcon
 have hx:recCs x=[.int .i64 (rseq x:Nat),.int .i64 ((natsI x).getD 1 0),.int .i64 ((natsI x).getD 2 0),.int .i64 ((natsI x).getD 3 0),.int .i64 ((natsI x).getD 4 0),.bool ((natsI x).getD 5 0==1),.int .i64 ((natsI x).getD 6 0)]:=by
  unfold recCs dsR;rw[yi x 0];rfl
 have hy:recCs y=[.int .i64 (rseq y:Nat),.int .i64 ((natsI y).getD 1 0),.int .i64 ((natsI y).getD 2 0),.int .i64 ((natsI y).getD 3 0),.int .i64 ((natsI y).getD 4 0),.bool ((natsI y).getD 5 0==1),.int .i64 ((natsI y).getD 6 0)]:=by
  unfold recCs dsR;rw[yi y 0];rfl
 rw[hx,hy];unfold XY;generalize Lib.compareInt (rseq x:Nat) (rseq y:Nat)=r at hcon⊢;clear hx hy;go_enter Tryz.func109,Tryz.ntmps109
 go_wp2_with (go_at_call 52;refine(hcon _).mono ?_;rintro e w' ⟨rfl,rfl⟩)
 go_ret
 exact⟨rfl,0,_,by rw[alloc_eq_grow,alloc_eq_grow,grow_grow];rfl⟩
theorem EB(w:World):(isAgg 101).run Tryz.prog w=.ok true w:=by kernel_rfl
theorem SW(w:World):(Go.sizeOf 101).run Tryz.prog w=.ok 7 w:=by kernel_rfl
def Rb(w:World)(v:Value)(L:List (List Nat))(e:Ending)(w':World):Prop:=
 e=.returned (.tuple #[])/\∃L':List (List Nat),L'.Perm L/\L'.Pairwise (fun x y=>rseq x<=rseq y)/\Sl w' 101 7 v L.length (L'.flatMap recCs)/\Upd (ownS v) w w'
theorem YR{L:List (List Nat)}{d:Array (List Nat)}(hp:PermIn 0 L.length L.toArray d)(hs:SortedIn (ltOf XY) 0 L.length d):d.size=L.length/\d.toList.Perm L/\d.toList.Pairwise (fun x y=>rseq x<=rseq y):=by
 obtain⟨h1,-,h3⟩:=hp;have h1':d.size=L.length:=by simpa using h1
 refine⟨h1',?_,?_⟩
 .have e1:d.extract 0 L.length=d:=by rw[<-h1',Array.extract_size]
  have e2:L.toArray.extract 0 L.length=L.toArray:=by rw[show L.length=L.toArray.size from by simp,Array.extract_size]
  rw[e1,e2]at h3;exact h3
 .rw [qXe];intro i j hi hj hij;simp only[qxh]at hi hj;have:=hs i j (qYf _) hij (by omega);rw[ltR,getElem!_pos d i hi,getElem!_pos d j hj]at this;simp only[Array.getElem_toList];exact Nat.le_of_not_lt (of_decide_eq_false this)
theorem Uw{w:World}{v:Value}{L:List (List Nat)}(h:Sl w 101 7 v L.length (L.flatMap recCs))(hl:L.length<=1024):
  Calls Tryz.prog 108 #[v,.func (.func 109) #[] #[]] w (Rb w v L):=by
 have eg:∀args w,(callFunc 109 args).run Tryz.prog w=.ok (.enter 109 args) w:=enters_of Tryz.func109 (by kernel_rfl) rfl;have h0:=h;obtain⟨-,⟨rfl,hL⟩|⟨g,off,cap,cur,rfl,hg,-⟩⟩:=h0
 .obtain rfl:=qyd hL;refine(Uu _ w).mono ?_;rintro e w' ⟨rfl,rfl⟩;exact⟨rfl,[],List.Perm.refl _,List.Pairwise.nil,Sl.nil _ _ _,uur _ _⟩
 .have hcon:=AnyQ.slices_SortFunc WX 7 EB SW recCs (fun _=>rfl) (fun x=>wU (natsI x)) XY zaB 109 #[] g off cap L.toArray w eg (fun m os dk _ x y=>AV x y _) (YL (enc:=recCs) (k:=7) (fun _=>rfl) (by decide) h) (zd hg) (by simp;omega);simp only[qXm]at hcon
  change Calls Tryz.prog 108 _ _ _ at hcon
  refine hcon.mono ?_;rintro e w' ⟨rfl,d,n,os,hp,hs,rfl⟩;obtain⟨s1,s2,s3⟩:=YR hp hs;obtain⟨t1,t2⟩:=sh (enc:=recCs) (k:=7) (fun _=>rfl) (by decide) h d s1 n os;exact⟨rfl,d.toList,s2,s3,t1,t2.mono (fun j _ e=>e▸rfl)⟩
def SX(S:Nat->Prop)(w:World)(b:Nat)(F:List Bk)(O:List (Nat×Bk))(base n:Nat)(e:Ending)(w':World):Prop:=
 ∃(v:Value) (L:List (List Nat)),e=.returned (.tuple #[v,.int .i64 0])/\L.Perm (scanTo F O base n n)/\L.Pairwise (fun x y=>rseq x<=rseq y)/\Sl w' 101 7 v L.length (L.flatMap recCs)/\From w.heap.size v/\Dv (fun j=>S j/\∀g,v.ownBlock=some g->g≠j) w' b F O []/\Upd S w w'
theorem Ju{S:Nat->Prop}{w:World}{b:Nat}{F:List Bk}{O:List (Nat×Bk)}(hd:Dv S w b F O [])(hn:∀j,w.heap.size<=j->S j)(base n:Nat)(hn1:1<=n)(hn2:n<=1024)(hbn:base+n<=F.length)(hN:Nib w)(hgS:¬S 0):
  Calls Tryz.prog 40 #[.pointer (some ⟨b,0,none⟩),.int .i64 (base:Int),.int .i64 (n:Int)] w (SX S w b F O base n):=by
 have hfl:=hd.good.fl;obtain⟨w1,hw1⟩:=qqe (((w.alloc (.cells #[.pointer (some ⟨b,0,none⟩)] 46)).alloc (.cells #[.int .i64 (base:Int)] 3)).alloc (.cells #[.int .i64 (n:Int)] 3));obtain⟨A,hA⟩:=qqe (w.heap.size);have hu1:Upd (fun _=>False) w w1:=by rw[hw1];exact(((uur _ w).alloc _).alloc _).alloc _
 have z1:w1.heap.size=A+3:=by rw[hw1,hA];simp
 have e0:w1.heap[A]?=some (.cells #[.pointer (some ⟨b,0,none⟩)] 46 (0,0)):=by rw[hw1,hA];exact(qxk _ _ _ (by simp<;>omega)).trans ((qxk _ _ _ (by simp)).trans (zc w _ rfl))
 have e1:w1.heap[A+1]?=some (.cells #[.int .i64 (base:Int)] 3 (0,0)):=by rw[hw1,hA];exact(qxk _ _ _ (by simp)).trans (zc _ _ (by simp))
 have e2:w1.heap[A+2]?=some (.cells #[.int .i64 (n:Int)] 3 (0,0)):=by rw[hw1,hA];exact zc _ _ (by simp)
 obtain⟨w2,hw2⟩:=qqe (w1.alloc (.cells #[.slice none 0 0] 23));have hu2:Upd (fun _=>False) w1 w2:=by rw[hw2];exact(uur _ w1).alloc _
 have z2:w2.heap.size=A+4:=by rw[hw2];simp;omega
 have e3:w2.heap[A+3]?=some (.cells #[.slice none 0 0] 23 (0,0)):=by rw[hw2];exact zc w1 _ z1.symm
 have HM:=qqh (Wk (hd.new hu1) base n hn1 hn2 hbn hfl);have HS:=qqh (Qk base n hn2 (by omega) w2);have c0:=za e0 0;have c1:=za e1 0;have c2:=za e2 0;have hA1:=hA;have HWA:=qqh hA1;have e0':=hu2.blockv e0;have e1':=hu2.blockv e1;have e2':=hu2.blockv e2;have hL0:=xZ F O base n n;have H:=Y12 hd hn hN hgS hu1 hu2 z2 e0' e1' e2' e3 hL0;have k1:(w1.alloc (.cells #[.slice none 0 0] 23)).cell? ⟨A+1,0,none⟩=some (.int .i64 (base:Int)):=by rw[<-hw2];exact za e1' 0
 have k2:(w1.alloc (.cells #[.slice none 0 0] 23)).cell? ⟨A+1+1,0,none⟩=some (.int .i64 (n:Int)):=by rw[<-hw2];exact za e2' 0
 have k3:w1.cell? ⟨A+1,0,none⟩=some (.int .i64 (base:Int)):=za e1 0;have k4:w1.cell? ⟨A+1+1,0,none⟩=some (.int .i64 (n:Int)):=za e2 0;have HW:=Y2 hw1 hw2;have HZ1:=qqh z1;clear hd hn hN hgS hu1 hu2 z2 e0 e1 e2 e0' e1' e2' e3 hw2 hw1 c0 c1 c2 hA hA1 z1 hL0;go_enter Tryz.func40,Tryz.ntmps40
 go_wp2_with fail
 rw[<-HW.o.1,<-HWA.o];refine HM.o.mono ?_;rintro e w' ⟨rfl,rfl⟩;go_wp2_with fail
 rw[<-HW.o.2,HZ1.o];refine HS.o.mono ?_;rintro e w3 ⟨g,rfl,hg,hgl,hb3⟩;have z3:=hb3.size;have hub:=uuo (S:=fun _=>False) hb3;have q0:=hub.blockv (H.o.2.2.2.2.2.2.2.1);have q1:=hub.blockv (H.o.2.2.2.2.2.2.2.2.1);have q2:=hub.blockv (H.o.2.2.2.2.2.2.2.2.2.1);have q3:=hub.blockv (H.o.2.2.2.2.2.2.2.2.2.2.1);have HF:Calls Tryz.prog 104 #[.slice (some ⟨g,0,none⟩) n n,.func (.func 106) #[] #[.pointer (some ⟨A,0,none⟩),.pointer (some ⟨A+2,0,none⟩),.pointer (some ⟨A+1,0,none⟩),.pointer (some ⟨A+3,0,none⟩)]] w3 fun e w'=>
   e=.returned (.int .i64 0)/\ScI (fun j=>(S j/\j<A)\/w3.heap.size<=j) w3 b (A+3) F O (scanTo F O base n n) w':=by
  obtain⟨hd,hn,hN,hgS,hu1,hu2,z2,-⟩:=H.o;have hA:=HWA.o;have hl:=zd hg;have dv3:Dv (fun j=>S j/\j<A) w3 b F O []:=(((hd.shrink (T:=fun j=>S j/\j<A) (fun j h1 h2=>⟨h1,by omega⟩)).new hu1).new hu2).new hub;refine Es ⟨uur _ _,.slice none 0 0,fun j=>S j/\j<A,q3,Sl.nil _ _ _,From.nil _ _ _,dv3,fun j h=> .inl h,fun j h=>by omega,fun g h=>by cases h⟩ (fun j h=> .inr h) ⟨by omega,by intro h;omega⟩ ⟨za q0 0,by intro h;omega,by omega⟩ ⟨za q2 0,by intro h;omega,by omega⟩ ⟨za q1 0,by intro h;omega,by omega⟩ ⟨hg,by intro h;omega,by omega⟩ hn2 hbn (((hN.keep hu1 (fun h=>h)).keep hu2 (fun h=>h)).keep hub (fun h=>h)) ⟨fun h=>?_,?_⟩
  .rcases h with h|h
   .exact hgS h.1
   .have:=hN.lt;omega
  .have:=hN.lt;omega
 have HF:=qqh HF;have HB:=Y3 hub hgl z3;clear q0 q1 q2 q3 hg hub z3 hgl hb3 k1 k2 k3 k4;go_wp2_with fail
 refine HF.o.mono ?_;rintro e w4 ⟨rfl,hi⟩;obtain⟨hu4,v,S1,p4,sl4,f4,dv4,hS1,hS2,hS3⟩:=hi;obtain⟨ao,cap,rfl⟩:=sl4.rd.nil_iff;have c4:=za p4 0;have HSo:=qqh (Uw sl4 (qXx H.o.2.2.2.2.2.2.2.2.2.2.2 hn2));have H4:=Y7 hu4 p4 f4 dv4 hS1 hS2 hS3;clear hu4 p4 sl4 f4 dv4 hS1 hS2 hS3;go_wp2_with fail
 refine HSo.out.mono ?_;rintro e w5 ⟨rfl,L',hp,hs,sl5,hu5⟩;have hfin:(Dv (fun j=>S j/\∀g,(Value.slice ao (scanTo F O base n n).length cap).ownBlock=some g->g≠j) w5 b F O []/\Upd S w w5)/\(From w.heap.size (.slice ao (scanTo F O base n n).length cap)/\w5.cell? ⟨A+3,0,none⟩=some (.slice ao (scanTo F O base n n).length cap)):=by
  obtain⟨hd,hn,hN,hgS,hu1,hu2,z2,-⟩:=H.o;obtain⟨hub,hgl,z3⟩:=HB.o;obtain⟨hu4,p4,f4,dv4,hS1,hS2,hS3⟩:=H4.o;have hA:=HWA.o;refine⟨⟨?_,?_⟩,f4.mono (by omega),?_⟩
  .refine (dv4.keep hu5 (fun j h1 h2=>hS3 j h2 h1)).wide (fun j h=>⟨?_,fun g hg e=>hS3 g hg (e▸h)⟩);rcases hS1 j h with h|h
   .exact h.1
   .exact hn j (by omega)
  .refine ((((hu1.trans hu2).mono (fun _ _ h=>h.elim)).trans (hub.mono (fun _ _ h=>h.elim))).new hu4 (fun j hj h=>?_)).new hu5 (fun j hj h=>?_)
   .rcases h with(h|h)|h
    .exact h.1
    .omega
    .omega
   .have:=f4 j h;omega
  .refine hu5.cellv c4 (fun h=>?_);have:=f4 _ h;omega
 have c5:=hfin.2.2;have HFin:=Y4 hfin hp hs sl5;have hpl:=hp.length_eq;clear hfin hp hs sl5 hu5 c4;go_wp2_with fail
 refine qYw (v:=.tuple #[.slice ao (scanTo F O base n n).length cap,.int .i64 0]) (by simp[results,Tryz.results40,go_sem]) rfl ?_;exact⟨_,L',rfl,HFin.out.2.1,HFin.out.2.2.1,by rw[hpl];have:=HFin.out.2.2.2;exact this,HFin.out.1.2.1,HFin.out.1.1.1,HFin.out.1.1.2⟩
def XZ(x y:EI):Int:=Lib.compareInt x.b y.b
theorem ltE(x y:EI):ltOf XZ x y=decide (x.b<y.b):=by
 unfold ltOf XZ Lib.compareInt;by_cases h1:x.b<y.b
 .simp [h1]
 .by_cases h2:y.b<x.b<;>simp[h1,h2]
theorem zaC:SWO (ltOf XZ)where
 irrefl x:=by rw[ltE];simp
 trans x y z h1 h2:=by rw[ltE]at*;simp at*;omega
 ntrans x y z h1 h2:=by rw[ltE]at*;simp at*;omega
theorem EC(x y:EI)(W:World):Calls Tryz.prog 51 #[.agg x.cs.toArray,.agg y.cs.toArray] W fun e w'=>e=.returned (.int .i64 (XZ x y))/\∃q os',w'=Go.Sort.grow (W.drewN q) os':=by
 have hcon:=fun W'=>AnyG.cmp_Compare_int QW x.b y.b W'
 change∀W',Calls Tryz.prog 52 _ _ _ at hcon
 obtain⟨a,b,c,d⟩:=x;obtain⟨a',b',c',d'⟩:=y;unfold XZ EI.cs;dsimp only at hcon⊢;generalize Lib.compareInt a a'=r at hcon⊢;go_enter Tryz.func51,Tryz.ntmps51
 go_wp2_with (go_at_call 52;refine(hcon _).mono ?_;rintro e w' ⟨rfl,rfl⟩)
 go_ret
 exact⟨rfl,0,_,by rw[alloc_eq_grow,alloc_eq_grow,grow_grow];rfl⟩
theorem ED(w:World):(isAgg 37).run Tryz.prog w=.ok true w:=by kernel_rfl
theorem SY(w:World):(Go.sizeOf 37).run Tryz.prog w=.ok 4 w:=by kernel_rfl
def Rc(w:World)(v:Value)(L:List EI)(e:Ending)(w':World):Prop:=
 e=.returned (.tuple #[])/\∃L':List EI,L'.Perm L/\L'.Pairwise (fun x y=>x.b<=y.b)/\Sl w' 37 4 v L.length (L'.flatMap EI.cs)/\Upd (ownS v) w w'
theorem Zu{L:List EI}{d:Array EI}[Inhabited EI](hp:PermIn 0 L.length L.toArray d)(hs:SortedIn (ltOf XZ) 0 L.length d):d.toList.Perm L/\d.size=L.length/\d.toList.Pairwise (fun x y=>x.b<=y.b):=by
 obtain⟨h1,-,h3⟩:=hp;have h1':d.size=L.length:=by simpa using h1
 refine⟨?_,h1',?_⟩
 .have e1:d.extract 0 L.length=d:=by rw[<-h1',Array.extract_size]
  have e2:L.toArray.extract 0 L.length=L.toArray:=by rw[show L.length=L.toArray.size from by simp,Array.extract_size]
  rw[e1,e2]at h3;exact h3
 .rw [qXe];intro i j hi hj hij;simp only[qxh]at hi hj;have:=hs i j (qYf _) hij (by omega);rw[ltE,getElem!_pos d i hi,getElem!_pos d j hj]at this;simp only[Array.getElem_toList];exact Int.not_lt.1 (of_decide_eq_false this)
instance:Inhabited EI:=⟨EI.zero⟩
theorem Ux{w:World}{v:Value}{L:List EI}(h:Sl w 37 4 v L.length (L.flatMap EI.cs))(hl:L.length<=1048576):
  Calls Tryz.prog 50 #[v,.func (.func 51) #[] #[]] w (Rc w v L):=by
 have eg:∀args w,(callFunc 51 args).run Tryz.prog w=.ok (.enter 51 args) w:=enters_of Tryz.func51 (by kernel_rfl) rfl;have h0:=h;obtain⟨-,⟨rfl,hL⟩|⟨g,off,cap,cur,rfl,hg,-⟩⟩:=h0
 .obtain rfl:=qyd hL;refine(Uv _ w).mono ?_;rintro e w' ⟨rfl,rfl⟩;exact⟨rfl,[],List.Perm.refl _,List.Pairwise.nil,Sl.nil _ _ _,uur _ _⟩
 .have hcon:=AnyQ.slices_SortFunc WY 4 ED SY EI.cs (fun _=>rfl) EI.one XZ zaC 51 #[] g off cap L.toArray w eg (fun m os dk _ x y=>EC x y _) (YL (enc:=EI.cs) (k:=4) (fun _=>rfl) (by decide) h) (zd hg) (by simp;omega);simp only[qXm]at hcon
  change Calls Tryz.prog 50 _ _ _ at hcon
  refine hcon.mono ?_;rintro e w' ⟨rfl,d,n,os,hp,hs,rfl⟩;obtain⟨s2,s1,s3⟩:=Zu hp hs;obtain⟨t1,t2⟩:=sh (enc:=EI.cs) (k:=4) (fun _=>rfl) (by decide) h d s1 n os;exact⟨rfl,d.toList,s2,s3,t1,t2.mono (fun j _ e=>e▸rfl)⟩
end Go.Proofs.YtfhfbpmlnjdfoaaGreatDoor
