/- Logs, by one script. See LogG. A log: Put. -/
import Derived.Test.YtfhfbpmlnjdfoaaGreatDoorG18
set_option maxRecDepth 100000
namespace Go.Proofs.YtfhfbpmlnjdfoaaGreatDoor
open Go Go.RowKit Tryz
theorem wN{P:Prop}(h:P:=by
 have hfl:=h.good.fl;have e1:=Wz Au _ _ _ Av;have e2:=Wz Aw _ _ _ Ax;have e3:=Wz Ay _ _ _ Az;have q1:decide ((base:Int)<0)=false:=by simp
 have q2:decide ((n:Int)<1)=false:=by simp;omega
 have q3:decide ((F.length:Int)<(base:Int))=false:=by simp;omega
 have q4:decide ((F.length:Int)-(base:Int)<(n:Int))=false:=by simp;omega
 have H:=qqh h;clear h;go_enter AA,AB
 go_wp2_with (first|(go_at_call 47;refine(vV H.o).mono ?_;rintro e w' ⟨rfl,rfl⟩))
 go_ret2
 exact⟨rfl,⟨zc _ _ rfl⟩,(qxl _ _).alloc (qXv _) _⟩):P:=h
structure LogI(w:World)(l b base n fi:Nat):Prop where
 str:w.heap[l]?=some (.cells #[.pointer (some ⟨b,0,none⟩),.int .i64 (base:Int),.int .i64 (n:Int),.func (.func 138) #[] #[],.func (.func 139) #[] #[],.func (.func fi) #[] #[]] 254 (0,0))
theorem LogI.lt{w:World}{l b base n fi:Nat}(h:LogI w l b base n fi):l<w.heap.size:=zf h.str
theorem LogI.keep{w w':World}{l b base n fi:Nat}(h:LogI w l b base n fi){S:Nat->Prop}(hu:Upd S w w')(hs:¬S l):LogI w' l b base n fi:=⟨(hu.block l h.lt hs).trans h.str⟩
theorem LogI.c{w:World}{l b base n fi:Nat}(h:LogI w l b base n fi):w.cell? ⟨l,0,none⟩=some (.pointer (some ⟨b,0,none⟩))/\w.cell? ⟨l,1,none⟩=some (.int .i64 (base:Int))/\w.cell? ⟨l,2,none⟩=some (.int .i64 (n:Int))/\
  w.cell? ⟨l,3,none⟩=some (.func (.func 138) #[] #[])/\w.cell? ⟨l,4,none⟩=some (.func (.func 139) #[] #[])/\w.cell? ⟨l,5,none⟩=some (.func (.func fi) #[] #[]):=
 ⟨za h.str 0,za h.str 1,za h.str 2,za h.str 3,za h.str 4,za h.str 5⟩
namespace fLogI
end fLogI
namespace fLogI
end fLogI
theorem Wz(T:TypeId)(a b c)(h:prog.underlying T=some (.func a b c))(w:World)(fn:Fn)(xs ys:Array Value):(binOp .eql T (.func fn xs ys) .nilFunc).run prog w=.ok (.bool false) w:=by
 have:∀d,(Op.equalIn (d+1) T (.func fn xs ys) .nilFunc).run prog w=.ok false w:=fun d=>by simp[Op.equalIn,run_underlying h]
 simp only[binOp];simp[Op.equal,Op.maxDepth,this 9999]
namespace fLogI
abbrev Au:Nat:=235
theorem Av:type_of% @underlying235:= @underlying235
abbrev Aw:Nat:=236
theorem Ax:type_of% @underlying236:= @underlying236
abbrev Ay:Nat:=237
theorem Az:type_of% @underlying237:= @underlying237
theorem AA:type_of% @func137:= @func137
theorem AB:type_of% @ntmps137:= @ntmps137
end fLogI
open fLogI in
theorem JA{S:Nat->Prop}{w:World}{b:Nat}{F:List Bk}{O:List (Nat×Bk)}{P:List Int}(h:Dv S w b F O P)(base n:Nat)(hn:1<=n)(hbn:base+n<=F.length)(fi:Nat):
  Calls prog 137 #[.pointer (some ⟨b,0,none⟩),.int .i64 (base:Int),.int .i64 (n:Int),.func (.func 138) #[] #[],.func (.func 139) #[] #[],.func (.func fi) #[] #[]] w
   fun e w'=>e=.returned (.tuple #[.pointer (some ⟨w.heap.size,0,none⟩),.int .i64 0])/\LogI w' w.heap.size b base n fi/\Below w.heap.size w w':=wN
structure LogC(w:World)(l b base n fi:Nat):Prop where
 str:w.heap[l]?=some (.cells #[.pointer (some ⟨b,0,none⟩),.int .i64 (base:Int),.int .i64 (n:Int),.func (.func 142) #[] #[],.func (.func 143) #[] #[],.func (.func fi) #[] #[]] 258 (0,0))
theorem LogC.lt{w:World}{l b base n fi:Nat}(h:LogC w l b base n fi):l<w.heap.size:=zf h.str
theorem LogC.keep{w w':World}{l b base n fi:Nat}(h:LogC w l b base n fi){S:Nat->Prop}(hu:Upd S w w')(hs:¬S l):LogC w' l b base n fi:=⟨(hu.block l h.lt hs).trans h.str⟩
theorem LogC.c{w:World}{l b base n fi:Nat}(h:LogC w l b base n fi):w.cell? ⟨l,0,none⟩=some (.pointer (some ⟨b,0,none⟩))/\w.cell? ⟨l,1,none⟩=some (.int .i64 (base:Int))/\w.cell? ⟨l,2,none⟩=some (.int .i64 (n:Int))/\
  w.cell? ⟨l,3,none⟩=some (.func (.func 142) #[] #[])/\w.cell? ⟨l,4,none⟩=some (.func (.func 143) #[] #[])/\w.cell? ⟨l,5,none⟩=some (.func (.func fi) #[] #[]):=
 ⟨za h.str 0,za h.str 1,za h.str 2,za h.str 3,za h.str 4,za h.str 5⟩
namespace fLogC
end fLogC
namespace fLogC
end fLogC
namespace fLogC
abbrev Au:Nat:=240
theorem Av:type_of% @underlying240:= @underlying240
abbrev Aw:Nat:=241
theorem Ax:type_of% @underlying241:= @underlying241
abbrev Ay:Nat:=242
theorem Az:type_of% @underlying242:= @underlying242
theorem AA:type_of% @func141:= @func141
theorem AB:type_of% @ntmps141:= @ntmps141
end fLogC
open fLogC in
theorem JB{S:Nat->Prop}{w:World}{b:Nat}{F:List Bk}{O:List (Nat×Bk)}{P:List Int}(h:Dv S w b F O P)(base n:Nat)(hn:1<=n)(hbn:base+n<=F.length)(fi:Nat):
  Calls prog 141 #[.pointer (some ⟨b,0,none⟩),.int .i64 (base:Int),.int .i64 (n:Int),.func (.func 142) #[] #[],.func (.func 143) #[] #[],.func (.func fi) #[] #[]] w
   fun e w'=>e=.returned (.tuple #[.pointer (some ⟨w.heap.size,0,none⟩),.int .i64 0])/\LogC w' w.heap.size b base n fi/\Below w.heap.size w w':=wN
structure LogF(w:World)(l b base n fi:Nat):Prop where
 str:w.heap[l]?=some (.cells #[.pointer (some ⟨b,0,none⟩),.int .i64 (base:Int),.int .i64 (n:Int),.func (.func 146) #[] #[],.func (.func 147) #[] #[],.func (.func fi) #[] #[]] 262 (0,0))
theorem LogF.lt{w:World}{l b base n fi:Nat}(h:LogF w l b base n fi):l<w.heap.size:=zf h.str
theorem LogF.keep{w w':World}{l b base n fi:Nat}(h:LogF w l b base n fi){S:Nat->Prop}(hu:Upd S w w')(hs:¬S l):LogF w' l b base n fi:=⟨(hu.block l h.lt hs).trans h.str⟩
theorem LogF.c{w:World}{l b base n fi:Nat}(h:LogF w l b base n fi):w.cell? ⟨l,0,none⟩=some (.pointer (some ⟨b,0,none⟩))/\w.cell? ⟨l,1,none⟩=some (.int .i64 (base:Int))/\w.cell? ⟨l,2,none⟩=some (.int .i64 (n:Int))/\
  w.cell? ⟨l,3,none⟩=some (.func (.func 146) #[] #[])/\w.cell? ⟨l,4,none⟩=some (.func (.func 147) #[] #[])/\w.cell? ⟨l,5,none⟩=some (.func (.func fi) #[] #[]):=
 ⟨za h.str 0,za h.str 1,za h.str 2,za h.str 3,za h.str 4,za h.str 5⟩
namespace fLogF
end fLogF
namespace fLogF
end fLogF
namespace fLogF
abbrev Au:Nat:=245
theorem Av:type_of% @underlying245:= @underlying245
abbrev Aw:Nat:=246
theorem Ax:type_of% @underlying246:= @underlying246
abbrev Ay:Nat:=247
theorem Az:type_of% @underlying247:= @underlying247
theorem AA:type_of% @func145:= @func145
theorem AB:type_of% @ntmps145:= @ntmps145
end fLogF
open fLogF in
theorem JC{S:Nat->Prop}{w:World}{b:Nat}{F:List Bk}{O:List (Nat×Bk)}{P:List Int}(h:Dv S w b F O P)(base n:Nat)(hn:1<=n)(hbn:base+n<=F.length)(fi:Nat):
  Calls prog 145 #[.pointer (some ⟨b,0,none⟩),.int .i64 (base:Int),.int .i64 (n:Int),.func (.func 146) #[] #[],.func (.func 147) #[] #[],.func (.func fi) #[] #[]] w
   fun e w'=>e=.returned (.tuple #[.pointer (some ⟨w.heap.size,0,none⟩),.int .i64 0])/\LogF w' w.heap.size b base n fi/\Below w.heap.size w w':=wN
theorem zO{w:World}{p:Nat}{cs:Array Value}{t:TypeId}(h:w.heap[p]?=some (.cells cs t (0,0))){n:Nat}(hn:n<=cs.size):w.there p 0 n:=fun j hj=>by
 rw[za h,zg h];exact⟨by rw[qYe,qxe (by omega)];rfl,rfl⟩
theorem wO{w:World}{p:Nat}{x y:Bk}{t:TypeId}(h:w.heap[p]?=some (.cells (bkC x).toArray t (0,0)))(hx:x.length=64)(hy:y.length=64):(w.setCells p 0 (bkC y)).heap[p]?=some (.cells (bkC y).toArray t (0,0)):=by
 obtain⟨cur',h2,h3,h4⟩:=zA (bkC y) 0 w p _ t (0,0) h;rw[h2];have:cur'=(bkC y).toArray:=by
  apply qxd
  intro k;have e:(bkC y).toArray[k]?=(bkC y)[k]?:=by simp
  rw[h4 k,e,zn,hy,zo _ hx];by_cases hk:k<64
  .rw [if_pos ⟨by omega,by omega,by omega⟩];rfl
  .rw [if_neg (by omega),qxf (by rw[zo _ hx];omega),qyo (by rw[zn,hy];omega)]
 rw[this]
def QX(T:Nat->Prop)(b:Nat)(F:List Bk)(O:List (Nat×Bk))(P:List Int)(s:Nat)(w2:World)(s8 s6:Value)(wx:World):Prop:=
 ∃q z cd,s8=.pointer (some ⟨q,0,none⟩)/\s6=.int .i64 cd/\wx.heap[q]?=some (.cells (bkC z).toArray 54 (0,0))/\w2.heap.size<=q/\z=(if fate P=1 then zB else curB F O s)/\cd=(if fate P=1 then 19 else 0)/\z.length=64/\
  Dv (fun j=>T j/\j≠q) wx b F O P.tail/\Upd T w2 wx
end Go.Proofs.YtfhfbpmlnjdfoaaGreatDoor
