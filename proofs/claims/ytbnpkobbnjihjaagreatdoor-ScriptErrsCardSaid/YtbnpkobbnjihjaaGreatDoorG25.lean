/- Contracts of t -/
import Derived.Shelf.SlSortCmp.WholeK
import Derived.Shelf.SlicesG.Cmp
import Derived.Shelf.Small.Bits
import Derived.Test.YtbnpkobbnjihjaaGreatDoorG01
set_option maxRecDepth 100000
namespace Go.Proofs.YtbnpkobbnjihjaaGreatDoor
open Go Go.Shelf Tryz
def qi:Go.Shelf.Ren:=⟨fun|6=>178|15=>241|14=>240|28=>316|29=>317|20=>308|21=>309|22=>310|23=>311|24=>312|25=>313|26=>314|27=>315|46=>376|47=>377|48=>378|49=>379|50=>380|57=>414|n=>n,fun|22=>185|24=>273|25=>278|3=>3|39=>386|0=>0|53=>426|55=>428|4=>4|46=>420|45=>419|50=>350|5=>5|9=>9|66=>470|70=>474|76=>498|77=>499|n=>n,fun|n=>n⟩
theorem To:SlLaysF0.n6 prog qi:={
 mixed:=kR
 f6:=⟨Tryz.f178.name,de,func178.trans (congrArg some kR)⟩
 f14:=⟨Tryz.f240.name,de,func240.trans (congrArg some kR)⟩
 f15:=func241.trans (congrArg some kR)
 f20:=⟨Tryz.f308.name,de,func308.trans (congrArg some kR)⟩
 f21:=⟨Tryz.f309.name,de,func309.trans (congrArg some kR)⟩
 f22:=⟨Tryz.f310.name,de,func310.trans (congrArg some kR)⟩
 f23:=⟨Tryz.f311.name,de,func311.trans (congrArg some kR)⟩
 f24:=⟨Tryz.f312.name,de,func312.trans (congrArg some kR)⟩
 f25:=⟨Tryz.f313.name,de,func313.trans (congrArg some kR)⟩
 f26:=⟨Tryz.f314.name,de,func314.trans (congrArg some kR)⟩
 f27:=⟨Tryz.f315.name,de,func315.trans (congrArg some kR)⟩
 f28:=func316.trans (congrArg some kR)
 f29:=func317.trans (congrArg some kR)
 f46:=⟨Tryz.f376.name,de,func376.trans (congrArg some kR)⟩
 f47:=func377.trans (congrArg some kR)
 f48:=func378.trans (congrArg some kR)
 f49:=⟨Tryz.f379.name,de,func379.trans (congrArg some kR)⟩
 f50:=⟨Tryz.f380.name,de,func380.trans (congrArg some kR)⟩
 f57:=⟨Tryz.f414.name,de,func414.trans (congrArg some kR)⟩
 t0:=underlying0
 a0:=Tryz.isAgg0
 z0:=Tryz.sizeOf0
 v0:=Tryz.zeroValue0
 t3:=underlying3
 a3:=Tryz.isAgg3
 z3:=Tryz.sizeOf3
 v3:=Tryz.zeroValue3
 t4:=underlying4
 a4:=Tryz.isAgg4
 z4:=Tryz.sizeOf4
 v4:=Tryz.zeroValue4
 t5:=underlying5
 a5:=Tryz.isAgg5
 z5:=Tryz.sizeOf5
 v5:=Tryz.zeroValue5
 t9:=underlying9
 a9:=Tryz.isAgg9
 z9:=Tryz.sizeOf9
 v9:=Tryz.zeroValue9
 t22:=underlying185
 a22:=Tryz.isAgg185
 z22:=Tryz.sizeOf185
 v22:=Tryz.zeroValue185
 t25:=underlying278
 a25:=Tryz.isAgg278
 z25:=Tryz.sizeOf278
 v25:=Tryz.zeroValue278
 t39:=underlying386
 a39:=Tryz.isAgg386
 z39:=Tryz.sizeOf386
 v39:=Tryz.zeroValue386
 t45:=underlying419
 a45:=Tryz.isAgg419
 z45:=Tryz.sizeOf419
 v45:=Tryz.zeroValue419
 t46:=underlying420
 a46:=Tryz.isAgg420
 z46:=Tryz.sizeOf420
 v46:=Tryz.zeroValue420
 t50:=underlying350
 a50:=Tryz.isAgg350
 z50:=Tryz.sizeOf350
 v50:=Tryz.zeroValue350
 t53:=underlying426
 a53:=Tryz.isAgg426
 z53:=Tryz.sizeOf426
 v53:=Tryz.zeroValue426
 t55:=underlying428
 a55:=Tryz.isAgg428
 z55:=Tryz.sizeOf428
 v55:=Tryz.zeroValue428
 t66:=underlying470
 a66:=Tryz.isAgg470
 z66:=Tryz.sizeOf470
 v66:=Tryz.zeroValue470
 t70:=underlying474
 a70:=Tryz.isAgg474
 z70:=Tryz.sizeOf474
 v70:=Tryz.zeroValue474
 t76:=underlying498
 a76:=Tryz.isAgg498
 z76:=Tryz.sizeOf498
 v76:=Tryz.zeroValue498
 t77:=underlying499
 a77:=Tryz.isAgg499
 z77:=Tryz.sizeOf499
 v77:=Tryz.zeroValue499}
def qj:Go.Shelf.Ren:=⟨fun|6=>181|15=>241|14=>243|28=>316|29=>317|20=>318|21=>319|22=>320|23=>321|24=>322|25=>323|26=>324|27=>325|46=>381|47=>377|48=>378|49=>382|50=>383|57=>415|n=>n,fun|22=>123|24=>132|25=>282|3=>3|39=>386|0=>0|53=>426|55=>428|4=>4|46=>420|45=>419|50=>350|5=>5|9=>9|66=>470|70=>474|76=>498|77=>499|n=>n,fun|n=>n⟩
theorem Tp:SlLaysF0.n6 prog qj:={
 mixed:=kR
 f6:=⟨Tryz.f181.name,de,func181.trans (congrArg some kR)⟩
 f14:=⟨Tryz.f243.name,de,func243.trans (congrArg some kR)⟩
 f15:=func241.trans (congrArg some kR)
 f20:=⟨Tryz.f318.name,de,func318.trans (congrArg some kR)⟩
 f21:=⟨Tryz.f319.name,de,func319.trans (congrArg some kR)⟩
 f22:=⟨Tryz.f320.name,de,func320.trans (congrArg some kR)⟩
 f23:=⟨Tryz.f321.name,de,func321.trans (congrArg some kR)⟩
 f24:=⟨Tryz.f322.name,de,func322.trans (congrArg some kR)⟩
 f25:=⟨Tryz.f323.name,de,func323.trans (congrArg some kR)⟩
 f26:=⟨Tryz.f324.name,de,func324.trans (congrArg some kR)⟩
 f27:=⟨Tryz.f325.name,de,func325.trans (congrArg some kR)⟩
 f28:=func316.trans (congrArg some kR)
 f29:=func317.trans (congrArg some kR)
 f46:=⟨Tryz.f381.name,de,func381.trans (congrArg some kR)⟩
 f47:=func377.trans (congrArg some kR)
 f48:=func378.trans (congrArg some kR)
 f49:=⟨Tryz.f382.name,de,func382.trans (congrArg some kR)⟩
 f50:=⟨Tryz.f383.name,de,func383.trans (congrArg some kR)⟩
 f57:=⟨Tryz.f415.name,de,func415.trans (congrArg some kR)⟩
 t0:=underlying0
 a0:=Tryz.isAgg0
 z0:=Tryz.sizeOf0
 v0:=Tryz.zeroValue0
 t3:=underlying3
 a3:=Tryz.isAgg3
 z3:=Tryz.sizeOf3
 v3:=Tryz.zeroValue3
 t4:=underlying4
 a4:=Tryz.isAgg4
 z4:=Tryz.sizeOf4
 v4:=Tryz.zeroValue4
 t5:=underlying5
 a5:=Tryz.isAgg5
 z5:=Tryz.sizeOf5
 v5:=Tryz.zeroValue5
 t9:=underlying9
 a9:=Tryz.isAgg9
 z9:=Tryz.sizeOf9
 v9:=Tryz.zeroValue9
 t22:=underlying123
 a22:=Tryz.isAgg123
 z22:=Tryz.sizeOf123
 v22:=Tryz.zeroValue123
 t25:=underlying282
 a25:=Tryz.isAgg282
 z25:=Tryz.sizeOf282
 v25:=Tryz.zeroValue282
 t39:=underlying386
 a39:=Tryz.isAgg386
 z39:=Tryz.sizeOf386
 v39:=Tryz.zeroValue386
 t45:=underlying419
 a45:=Tryz.isAgg419
 z45:=Tryz.sizeOf419
 v45:=Tryz.zeroValue419
 t46:=underlying420
 a46:=Tryz.isAgg420
 z46:=Tryz.sizeOf420
 v46:=Tryz.zeroValue420
 t50:=underlying350
 a50:=Tryz.isAgg350
 z50:=Tryz.sizeOf350
 v50:=Tryz.zeroValue350
 t53:=underlying426
 a53:=Tryz.isAgg426
 z53:=Tryz.sizeOf426
 v53:=Tryz.zeroValue426
 t55:=underlying428
 a55:=Tryz.isAgg428
 z55:=Tryz.sizeOf428
 v55:=Tryz.zeroValue428
 t66:=underlying470
 a66:=Tryz.isAgg470
 z66:=Tryz.sizeOf470
 v66:=Tryz.zeroValue470
 t70:=underlying474
 a70:=Tryz.isAgg474
 z70:=Tryz.sizeOf474
 v70:=Tryz.zeroValue474
 t76:=underlying498
 a76:=Tryz.isAgg498
 z76:=Tryz.sizeOf498
 v76:=Tryz.zeroValue498
 t77:=underlying499
 a77:=Tryz.isAgg499
 z77:=Tryz.sizeOf499
 v77:=Tryz.zeroValue499}
def VN:Go.Shelf.Ren:=⟨fun|5=>180|7=>242|n=>n,fun|22=>3|3=>3|4=>4|n=>n,fun|n=>n⟩
theorem Eh:SlLaysC2.n5 prog VN:={
 mixed:=kR
 f5:=⟨Tryz.f180.name,de,func180.trans (congrArg some kR)⟩
 f7:=⟨Tryz.f242.name,de,func242.trans (congrArg some kR)⟩
 t3:=underlying3
 a3:=Tryz.isAgg3
 z3:=Tryz.sizeOf3
 v3:=Tryz.zeroValue3
 t4:=underlying4
 a4:=Tryz.isAgg4
 z4:=Tryz.sizeOf4
 v4:=Tryz.zeroValue4
 t22:=underlying3
 a22:=Tryz.isAgg3
 z22:=Tryz.sizeOf3
 v22:=Tryz.zeroValue3}
section
open Go.RowKit Go.Lib Go.Sort
variable{α:Type}[Inhabited α]
theorem rZ(enc:α->List Value){k:Nat}(b:∀x,(enc x).length=k)(p:0<k):∀(L:List α) (j:Nat),j<L.length*k->(L.flatMap enc)[j]?=some ((enc L.toArray[j/k]!)[j%k]!)
 |[],j,h=>by simp at h
 |x::L,j,h=>by
  rw[qye];by_cases n:j<k
  .rw [qyg (by rw[b];exact n),Nat.div_eq_of_lt n,qXt n,qyj (by rw[b];exact n)];simp[b,n]
  .rw [qyh (by rw[b];omega),b,rZ enc b p L (j-k) (by simp[Nat.succ_mul]at h;omega)];have q:j/k=(j-k)/k+1:=by rw[<-Nat.add_div_right _ p,Nat.sub_add_cancel oM]
   have s:j%k=(j-k)%k:=by rw[<-Nat.add_mod_right (j-k) k,Nat.sub_add_cancel oM]
   rw[q,s];have:(x::L).toArray[(j-k)/k+1]! =L.toArray[(j-k)/k]!:=oe;rw[this]
theorem Wn{w:World}{e:TypeId}{enc:α->List Value}{k:Nat}(p:∀x,(enc x).length=k)(q:0<k){g off cap:Nat}{L:List α}(h:Sl w e k (.slice (some ⟨g,off,none⟩) L.length cap) L.length (L.flatMap enc)):HoldsK enc k w g off L.toArray:=by
 obtain⟨v,⟨b,-⟩|⟨A,D,E,F,b,j,-,-,-,s⟩⟩:=h
 .cases b
 .cases b;intro n hj;rw[size_flatK]at hj;simp only[qXh]at hj;refine⟨?_,zg j _⟩;rw[za j,get_flatK _ _ _ _ oz];exact s n _ (rZ enc p q L n hj)
theorem Zt{w:World}{e:TypeId}{enc:α->List Value}{k:Nat}(v:∀x,(enc x).length=k)(H:0<k){g off cap:Nat}{L:List α}(h:Sl w e k (.slice (some ⟨g,off,none⟩) L.length cap) L.length (L.flatMap enc))(d:Array α)(j:d.size=L.length)(n:Nat)(os:Array Obj):
  Sl (sortWorldK enc k w g off n d os) e k (.slice (some ⟨g,off,none⟩) L.length cap) L.length (d.toList.flatMap enc)/\Upd (fun b=>b=g) w (sortWorldK enc k w g off n d os):=by
 obtain⟨T,⟨p,-⟩|⟨U,V,W,A,p,D,E,J,K,X⟩⟩:=h
 .cases p
 .cases p;have M:=zd D;have N:g<(w.heap.modify g (onCells (putCells id off (flatK enc k d)))).size:=by simpa using M
  have q:(sortWorldK enc k w g off n d os).heap=w.heap.modify g (onCells (putCells id off (flatK enc k d)))++os:=rfl;have O:(sortWorldK enc k w g off n d os).heap[g]?=some (.cells (putCells id off (flatK enc k d) A) e (0,0)):=by
   rw[q,Array.getElem?_append_left N,Array.getElem?_modify,if_pos rfl,D];rfl
  have F:(d.toList.flatMap enc).length=L.length*k:=by rw[xJ (f:=enc) v,qxh,j]
  refine⟨⟨F,.inr ⟨g,off,cap,_,rfl,O,E,J,by simpa[putCells]using K,fun b u s=>?_⟩⟩,rfl,rfl,rfl,by rw[q];simp,fun i hi Q=>?_⟩
  .have G:b<L.length*k:=by rw[<-F];exact(qyl.1 s).1
   have R:=rZ enc v H d.toList b (by rw[qxh,j];exact G);rw[R]at s;have S:off+b<A.size:=by have:=qXv k E;omega
   simp only[putCells,Array.getElem?_mapIdx,qxe S,Option.map_some];rw[if_pos ⟨oM,by rw[size_flatK,j];omega⟩,Nat.add_sub_cancel_left,get_flatK _ _ _ _ (by rw[j];exact G)];simpa using s
  .rw [q,Array.getElem?_append_left oB,Array.getElem?_modify,if_neg (fun e=>Q e.symm)]
end
section
open Go.RowKit
theorem Zcg25{P:Prop}(h:P:=by
  go_wp2
  go_loopg[8] 0 (fun g h wr=>h=.int .i64 1/\wr=w)
  case atStart=>exact⟨rfl,rfl⟩
  case round=>
   obtain⟨rfl,rfl⟩:=hrel;go_wp2
   go_end0
   exact⟨rfl,rfl⟩):P:=h
theorem Ei(c:Value)(w:World):Calls prog 308 #[.slice none 0 0,.int .i64 0,.int .i64 0,c] w fun e b=>e=.returned (.tuple #[])/\b=w:=by
 go_enter func308,ntmps308
 exact Zcg25
theorem Ej(c:Value)(l:Int)(w:World):Calls prog 240 #[.slice none 0 0,.int .i64 0,.int .i64 0,.int .i64 l,c] w fun e b=>e=.returned (.tuple #[])/\b=w:=by
 go_enter func240,ntmps240
 go_wp2
 go_loopg[1,2,3,10,11] 0 (fun g h j k n p wr=>h=.int .i64 0/\j=.int .i64 0/\wr=w)
 case atStart=>exact⟨rfl,rfl,rfl⟩
 case round=>
  obtain⟨rfl,rfl,rfl⟩:=hrel;go_wp2_with (first|(go_at_call 308;refine(Ei c _).mono ?_;rintro e b ⟨rfl,rfl⟩)|fail)
  exact qYq (qYw rfl _ _ _) rfl ⟨rfl,rfl⟩
theorem QU(c:Value)(w:World):Calls prog 178 #[.slice none 0 0,c] w fun e b=>e=.returned (.tuple #[])/\b=w:=by
 have j:Calls prog 241 #[.int .u64 0] w fun e b=>e=.returned (.int .i64 (Lib.bitLen 0:Nat))/\b=w:=Any.bits_Len (SlLaysF0.n15.bits (P:=prog) (ρ:=qi) {To with}) 0 w oM oM;go_enter func178,ntmps178
 go_wp2_with (first
  |(go_at_call 241;refine j.mono ?_;rintro e b ⟨rfl,rfl⟩)
  |(go_at_call 240;refine(Ej c _ _).mono ?_;rintro e b ⟨rfl,rfl⟩)
  |fail)
 go_end0
 exact⟨rfl,rfl⟩
theorem Ek(c:Value)(w:World):Calls prog 318 #[.slice none 0 0,.int .i64 0,.int .i64 0,c] w fun e b=>e=.returned (.tuple #[])/\b=w:=by
 go_enter func318,ntmps318
 exact Zcg25
theorem El(c:Value)(l:Int)(w:World):Calls prog 243 #[.slice none 0 0,.int .i64 0,.int .i64 0,.int .i64 l,c] w fun e b=>e=.returned (.tuple #[])/\b=w:=by
 go_enter func243,ntmps243
 go_wp2
 go_loopg[1,2,3,10,11] 0 (fun g h j k n p wr=>h=.int .i64 0/\j=.int .i64 0/\wr=w)
 case atStart=>exact⟨rfl,rfl,rfl⟩
 case round=>
  obtain⟨rfl,rfl,rfl⟩:=hrel;go_wp2_with (first|(go_at_call 318;refine(Ek c _).mono ?_;rintro e b ⟨rfl,rfl⟩)|fail)
  exact qYq (qYw rfl _ _ _) rfl ⟨rfl,rfl⟩
theorem QV(c:Value)(w:World):Calls prog 181 #[.slice none 0 0,c] w fun e b=>e=.returned (.tuple #[])/\b=w:=by
 have j:Calls prog 241 #[.int .u64 0] w fun e b=>e=.returned (.int .i64 (Lib.bitLen 0:Nat))/\b=w:=Any.bits_Len (SlLaysF0.n15.bits (P:=prog) (ρ:=qj) {Tp with}) 0 w oM oM;go_enter func181,ntmps181
 go_wp2_with (first
  |(go_at_call 241;refine j.mono ?_;rintro e b ⟨rfl,rfl⟩)
  |(go_at_call 243;refine(El c _ _).mono ?_;rintro e b ⟨rfl,rfl⟩)
  |fail)
 go_end0
 exact⟨rfl,rfl⟩
end
end Go.Proofs.YtbnpkobbnjihjaaGreatDoor
