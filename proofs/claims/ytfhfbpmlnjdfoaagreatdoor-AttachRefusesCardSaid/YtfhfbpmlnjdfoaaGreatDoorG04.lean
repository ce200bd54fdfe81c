/- A row of one t -/
import Derived.Test.YtfhfbpmlnjdfoaaGreatDoorG03
import Derived.Laws.Bits64b
set_option maxRecDepth 100000
set_option maxHeartbeats 1000000
namespace Go.Proofs.YtfhfbpmlnjdfoaaGreatDoor
open Go Go.RowKit Tryz
theorem YD(ts te:TypeId)(k:Nat)(hk:0<k)(hu:prog.underlying ts=some (.slice te))(hinf:∃i z,prog.info? te=some i/\i.zero=some z/\z.cells.size=k/\i.size=k)(v:Value)(hv:v.cells.size=k)(hb:k<=1000)(w:World):
  (Instr.buildSlice ts 1 #[(0,v)]).run prog w=.ok (.slice (some ⟨w.heap.size,0,none⟩) 1 1) (w.alloc (.cells v.cells te)):=by
 obtain⟨i,z,hi,hz,hs,hsz⟩:=hinf;refine run_buildSlice w _ _ 1 _ _ i z hu hi hz (by rw[hsz];omega) (by rw[hsz];omega) ?_;obtain⟨a1,a2⟩:=yP 0 v.cells ((Array.range (1*i.size)).map (z.cells[·%z.cells.size]!));rw[show(#[(0,v)]:Array (Nat×Value)).toList=[(0,v)]from rfl];rw[xr _ _ 0 0 k v _ jL hv jL];show some _=_
 congr 1
 apply qxd
 intro j;rw[a2 j];by_cases hj:j<k
 .rw [if_pos ⟨oM,oM,by simp[hsz];omega⟩];rfl
 .rw [if_neg oM,qxf kf,qxf oM]
theorem xB{ops:Array Oper}{rest:List Oper}{op:Oper}{a:Act}{w:World}{Q:Exit->Act->World->Prop}(hgd:op.guard=none)(ts te:TypeId)(p:Operand)(ho:op.op=.buildSlice ts 1 #[(0,p)])(k:Nat)(hk:0<k)
  (hu:prog.underlying ts=some (.slice te)) (hinf:∃i z,prog.info? te=some i/\i.zero=some z/\z.cells.size=k/\i.size=k) (hb:k<=1000) (cs:List Value) (hp:a.eval p=.agg cs.toArray) (hc:cs.length=k)
  (h:wpList prog ops Q rest (a.put op.dst (.slice (some ⟨w.heap.size,0,none⟩) 1 1)) (w.alloc (.cells cs.toArray te))):wpList prog ops Q (op::rest) a w:=by
 refine qZh hgd fun K' hK'=>?_;unfold Oper.wp;have hrun:=YD ts te k hk hu hinf (.agg cs.toArray) (by simpa[Value.cells]using hc) hb w;simp only[execOp,ho,qzp,qzm,qzo,hp,qYm,hrun,qYl];exact hK' _ _ h
theorem zY{ops:Array Oper}{rest:List Oper}{o:Oper}{a:Act}{w:World}{Q:Exit->Act->World->Prop}(hg:o.guard=none)(t:TypeId)(ho:o.op=.alloc t)(cs:Array Value)
  (hrun:∀w:World,(Instr.alloc t true (.tuple #[])).run prog w=.ok (.pointer (some ⟨w.heap.size,0,none⟩)) (w.alloc (.cells cs t)))
  (h:wpList prog ops Q rest (a.put o.dst (.pointer (some ⟨w.heap.size,0,none⟩))) (w.alloc (.cells cs t))):wpList prog ops Q (o::rest) a w:=by
 refine qZh hg fun K' hK'=>?_;unfold Oper.wp;simp only[execOp,ho,qYm,hrun,qYl];exact hK' _ _ h
theorem wj(Z:Bk)(hZ:Z=zB):∀w:World,(Instr.build 54 #[]).run prog w=.ok (.agg (bkC Z).toArray) w:=by
 intro w;subst hZ;kernel_rfl
theorem yg{ops:Array Oper}{rest:List Oper}{op:Oper}{a:Act}{w:World}{Q:Exit->Act->World->Prop}(hgd:op.guard=none)(ho:op.op=.build 54 #[]){Z:Bk}
  (hrun:∀w:World,(Instr.build 54 #[]).run prog w=.ok (.agg (bkC Z).toArray) w)
  (h:wpList prog ops Q rest (a.put op.dst (.agg (bkC Z).toArray)) w):wpList prog ops Q (op::rest) a w:=by
 refine qZh hgd fun K' hK'=>?_;unfold Oper.wp;simp only[execOp,ho,qzp,qzo,qYm,hrun,qYl];exact hK' _ _ h
theorem wk(Z:Bk)(hZ:Z=zB):∀w:World,(Instr.alloc 54 true (.tuple #[])).run prog w=.ok (.pointer (some ⟨w.heap.size,0,none⟩)) (w.alloc (.cells (bkC Z).toArray 54)):=by
 intro w;subst hZ;kernel_rfl
theorem qC{P:Program}{ops:Array Oper}{o:Oper}{a:Act}{w:World}{K:Act->World->Prop}{Q:Exit->Act->World->Prop}{E:Prop}(hg:o.guard=none)(t:TypeId)(hop:o.op=.alloc t)(cs:Array Value)
  (hrun:∀w:World,(Instr.alloc t true (.tuple #[])).run P w=.ok (.pointer (some ⟨w.heap.size,0,none⟩)) (w.alloc (.cells cs t)))
  (hK:K (a.put o.dst (.pointer (some ⟨w.heap.size,0,none⟩))) (w.alloc (.cells cs t))):if Region.wanted o (yielded ops a.tmps)=true then Oper.wp P o a w K Q else E:=by
 have hw:Region.wanted o (yielded ops a.tmps)=true:=by simp[Region.wanted,hg]
 rw[if_pos hw];unfold Oper.wp;simp only[execOp,hop,qYm,hrun,qYl];exact hK
theorem wm(a b:Nat)(ha:a<4611686018427387904)(hb:b<4611686018427387904):bits .xor .i64 (a:Int) (b:Int)=((a^^^b:Nat):Int):=by
 have hx:a^^^b<2^62:=Nat.xor_lt_two_pow oM oM;have h1:(BitVec.ofInt 64 (a:Int)).toNat=a:=by rw[qxm,qxn];exact qXz oM
 have h2:(BitVec.ofInt 64 (b:Int)).toNat=b:=by rw[qxm,qxn];exact qXz oM
 show IntKind.i64.wrap ((BitVec.ofInt 64 (a:Int)^^^BitVec.ofInt 64 (b:Int)).toNat:Int)=_;rw[BitVec.toNat_xor,h1,h2,IntKind.wrap_i64];omega
theorem um(a b:Nat)(ha:a<4611686018427387904)(hb:b<4611686018427387904):bits .and .i64 (a:Int) (b:Int)=((a&&&b:Nat):Int):=by
 have hx:a&&&b<2^62:=Nat.and_lt_two_pow _ oM;have h1:(BitVec.ofInt 64 (a:Int)).toNat=a:=by rw[qxm,qxn];exact qXz oM
 have h2:(BitVec.ofInt 64 (b:Int)).toNat=b:=by rw[qxm,qxn];exact qXz oM
 show IntKind.i64.wrap ((BitVec.ofInt 64 (a:Int)&&&BitVec.ofInt 64 (b:Int)).toNat:Int)=_;rw[BitVec.toNat_and,h1,h2,IntKind.wrap_i64];omega
theorem YE(a b:Nat)(ha:a<4611686018427387904)(hb:b<4611686018427387904):bits .or .i64 (a:Int) (b:Int)=((a|||b:Nat):Int):=by
 have hx:a|||b<2^62:=Nat.or_lt_two_pow oM oM
 have h1:(BitVec.ofInt 64 (a:Int)).toNat=a:=by rw[qxm,qxn];exact qXz oM
 have h2:(BitVec.ofInt 64 (b:Int)).toNat=b:=by rw[qxm,qxn];exact qXz oM
 show IntKind.i64.wrap ((BitVec.ofInt 64 (a:Int)|||BitVec.ofInt 64 (b:Int)).toNat:Int)=_;rw[BitVec.toNat_or,h1,h2,IntKind.wrap_i64];omega
def nibT:List Nat:=[0,274646895,549293790,820201905,1098587580,1361435347,1640403810,1905808397,2197175160,2460548119,2722870694,2987750089,3280807620,3553878443,3811616794,4084100981]
def nibC(i:Nat):Nat:=nibT.getD i 0
theorem Vr(i:Nat):nibC i<4294967296:=by
 unfold nibC nibT;by_cases h:i<16
 .have:i=0\/i=1\/i=2\/i=3\/i=4\/i=5\/i=6\/i=7\/i=8\/i=9\/i=10\/i=11\/i=12\/i=13\/i=14\/i=15:=oM;rcases this with rfl|rfl|rfl|rfl|rfl|rfl|rfl|rfl|rfl|rfl|rfl|rfl|rfl|rfl|rfl|rfl<;>decide
 .rw [qyh,qyo oh];decide
def stepC(s f:Nat):Nat:=(s/16)^^^nibC ((s^^^f)&&&15)
theorem qD{s f:Nat}(h:s<4294967296):stepC s f<4294967296:=by
 unfold stepC;exact Nat.xor_lt_two_pow (n:=32) oM (Vr _)
def Vs(s:Nat)(b:UInt8):Nat:=stepC (stepC s (b.toNat&&&15)) (b.toNat/16)
theorem byteC_lt{s:Nat}{b:UInt8}(h:s<4294967296):Vs s b<4294967296:=qD (qD h)
def sumC(xs:List UInt8):Nat:=xs.foldl Vs 4294967295
theorem UH(xs:List UInt8)(b:UInt8):sumC (xs++[b])=Vs (sumC xs) b:=by simp[sumC]
theorem Zs(xs:List UInt8):sumC xs<4294967296:=by
 have:∀(xs:List UInt8) (s:Nat),s<4294967296->xs.foldl Vs s<4294967296:=by
  intro xs
  induction xs with
  |nil=>intro s h;exact h
  |cons b xs ih=>intro s h;exact ih _ (byteC_lt h)
 exact this xs _ oM
def crcC(xs:List UInt8):Nat:=sumC xs^^^4294967295
theorem vq(xs:List UInt8):crcC xs<4294967296:=Nat.xor_lt_two_pow (n:=32) (Zs xs) de
def lowB(n:Nat):Nat->List UInt8
 |0=>[]
 |k+1=>UInt8.ofNat n::lowB (n/256) k
theorem yj(n k:Nat):(lowB n k).length=k:=by
 induction k generalizing n with
 |zero=>rfl
 |succ k ih=>simp[lowB,ih]
def numB:List UInt8->Nat
 |[]=>0
 |b::l=>b.toNat+256*numB l
theorem YF(n k:Nat)(h:n<256^k):numB (lowB n k)=n:=by
 induction k generalizing n with
 |zero=>simp at h;subst h;rfl
 |succ k ih=>
  simp only[lowB,numB];rw[ih (n/256) (by rw[Nat.div_lt_iff_lt_mul oM];rw[Nat.pow_succ]at h;exact h)];have:(UInt8.ofNat n).toNat=n%256:=oe;rw[this];omega
def sealB(b:Bk):Bk:=b.take 60++lowB (crcC (b.take 60)) 4
theorem vr{b:Bk}(h:b.length=64):(sealB b).length=64:=by simp[sealB,yj,h]
theorem We{b:Bk}(h:b.length=64):(sealB b).take 60=b.take 60:=by
 exact List.take_left' (by simp[h])
theorem Wf{b:Bk}(h:b.length=64):sealB (sealB b)=sealB b:=by
 show(sealB b).take 60++_=_;rw[We h];rfl
structure Nib(w:World):Prop where
 c:∀i,i<16->w.cell? ⟨0,i,none⟩=some (.int .i64 (nibC i))
theorem Nib.lt{w:World}(h:Nib w):0<w.heap.size:=(zN (h.c 0 de)).2
theorem Nib.keep{w w':World}(h:Nib w){S:Nat->Prop}(hu:Upd S w w')(hs:¬S 0):Nib w':=⟨fun i hi=>(hu.cellAt h.lt hs).trans (h.c i hi)⟩
theorem Nib.below{w w':World}(h:Nib w)(hb:Below w.heap.size w w'):Nib w':=h.keep (uuo (S:=fun _=>False) hb) id
theorem YG{w:World}{g:Nat}(s f:Nat)(hs:s<4294967296)(hf:f<256)(hN:Nib w)(hc:w.cell? ⟨g,0,none⟩=some (.int .i64 (s:Int)))(hz:w.frozen? ⟨g,0,none⟩=false):
  Calls prog 262 #[.int .i64 (f:Int),.pointer (some ⟨g,0,none⟩)] w fun e w'=>e=.returned (.int .i64 (stepC s f:Nat))/\
   w'.cell? ⟨g,0,none⟩=some (.int .i64 (stepC s f:Nat))/\w'.frozen? ⟨g,0,none⟩=false/\Upd (fun j=>j=g) w w':=by
 have hx:=wm s f oM oM;have hxl:s^^^f<4294967296:=Nat.xor_lt_two_pow (n:=32) oM oM;have ha:bits .and .i64 ((s^^^f:Nat):Int) 15=(((s^^^f)&&&15:Nat):Int):=um (s^^^f) 15 oM oM;have hal:(s^^^f)&&&15<16:=Nat.and_lt_two_pow (n:=4) _ oM;have hcell:=hN.c _ hal;have hst:bits .xor .i64 ((s:Int)/16) ((nibC ((s^^^f)&&&15):Nat):Int)=((s/16^^^nibC ((s^^^f)&&&15):Nat):Int):=wm (s/16) (nibC ((s^^^f)&&&15)) oM (by have:=Vr ((s^^^f)&&&15);omega);have hfin:Hid (stepC s f=s/16^^^nibC ((s^^^f)&&&15)):=rfl;generalize (s^^^f)&&&15=m at*;clear hN;go_enter func262,ntmps262
 go_wp2
 go_region
 rw[<-hfin.out];have hU:Hid (Upd (fun j=>j=g) w (w.setCell ⟨g,0,none⟩ (.int .i64 (stepC s f:Nat))).drew):=(zj _ _ _ _).drew;have hcc:(w.setCell ⟨g,0,none⟩ (.int .i64 (stepC s f:Nat))).drew.cell? ⟨g,0,none⟩=some (.int .i64 (stepC s f:Nat)):=by
  rw[qYo,World.cell?_setCell_same _ _ _ hc]
 have hff:(w.setCell ⟨g,0,none⟩ (.int .i64 (stepC s f:Nat))).drew.frozen? ⟨g,0,none⟩=false:=by simpa using hz
 have HF:=Y2 hcc hff;clear hff hst hx ha;generalize (w.setCell ⟨g,0,none⟩ (.int .i64 (stepC s f:Nat))).drew=w2 at*;go_wp2
 go_ret
 exact⟨rfl,HF.o.1,HF.o.2,hU.out⟩
theorem YH{w:World}(s:Nat):
  Calls prog 180 #[.int .i64 (s:Int)] w fun e w'=>e=.returned (.func (.func 262) #[] #[.pointer (some ⟨w.heap.size,0,none⟩)])/\w'=w.alloc (.cells #[.int .i64 (s:Int)] 3):=by
 have hmf:=qqf;go_enter func180,ntmps180
 go_wp2
 go_ret
 exact⟨rfl,rfl⟩
theorem un{w:World}{gl g o n cl cp:Nat}(xs:List UInt8)(hN:Nib w)(hl:w.cell? ⟨gl,0,none⟩=some (.slice (some ⟨g,o,none⟩) n cp))(hx:w.rangeAt g o (bkC xs))(hxl:xs.length=n)(hn:1<=n)(hn2:n<=1000):
  Calls prog 114 #[.slice (some ⟨gl,0,none⟩) 1 cl] w fun e w'=>e=.returned (.int .i64 (crcC xs:Nat))/\Below w.heap.size w w':=by
 have hu:Upd (fun _=>False) w (w.alloc (.cells #[.int .i64 ((4294967295:Nat):Int)] 3)):=(uur _ w).alloc _;have hc:=za (zc w (.cells #[.int .i64 ((4294967295:Nat):Int)] 3) rfl) 0;have hz:=zg (zc w (.cells #[.int .i64 ((4294967295:Nat):Int)] 3) rfl) 0;have hg:g<w.heap.size:=by have:=qYn w _ (hx 0 _ oL);exact this
 have hgl:gl<w.heap.size:=qYn w _ hl;have H:=Y9 hN hl hx hxl hu hc hz hg hgl;clear hN hl hx hxl hu hc hz hg hgl;go_enter func114,ntmps114
 go_wp2
 go_step3
 go_wp2_with fail
 refine(YH 4294967295).mono ?_;rintro e w1 ⟨rfl,rfl⟩;go_wp2
 go_step3
 go_wp2
 generalize hw1:w.alloc (.cells #[.int .i64 ((4294967295:Nat):Int)] 3)=w1 at*;have HW:Hid (w1=w.alloc (.cells #[.int .i64 ((4294967295:Nat):Int)] 3)):=hw1.symm;clear hw1;go_loopw[3,13] (fun s3 s13 wr=>(s13=.int .i64 0/\s3=.int .i64 4294967295/\wr.cell? ⟨w.heap.size,0,none⟩=some (.int .i64 4294967295)/\wr.frozen? ⟨w.heap.size,0,none⟩=false/\Upd (fun j=>j=w.heap.size) w1 wr)\/
   (s13=.int .i64 1/\s3=.int .i64 (sumC xs:Nat)/\Upd (fun j=>j=w.heap.size) w1 wr)) (fun _ s13 _=>(1-intOf s13).toNat)
 case atStart=>obtain⟨hN,hl,hx,hxl,hu,hc,hz,hg,hgl⟩:=H.o;exact .inl ⟨rfl,rfl,hc,hz,uur _ _⟩
 case round=>
  obtain⟨wb,rfl⟩:∃wb:World,wb=wr:=⟨_,rfl⟩
  rcases hrel with⟨rfl,rfl,hc,hz,hu⟩|⟨rfl,rfl,hu⟩
  .obtain ⟨hN,hl,hx,hxl,hu0,-,-,hg,hgl⟩:=H.o;have hU:Upd (fun j=>j=w.heap.size) w wb:=(hu0.mono fE).trans hu;have hN':=hN.keep hU (by have:=hN.lt;omega);have hl':=hU.j4 hl oM;have hx':=hU.range hx oM;have HH:=Y7 hN' hx' hu hxl hg hc hz;clear hN hl hx hxl hu0 hg hgl hU hN' hx' hu hc hz;have hn0:((n:Int)==0)=false:=by rw[qYv];omega
   go_wp2
   clear hn0;go_loopw[3,22] (fun s3 s22 wr=>∃k:Nat,k<=n/\s22=.int .i64 k/\s3=.int .i64 ((sumC (xs.take k):Nat):Int)/\wr.cell? ⟨w.heap.size,0,none⟩=some (.int .i64 ((sumC (xs.take k):Nat):Int))/\wr.frozen? ⟨w.heap.size,0,none⟩=false/\Upd (fun j=>j=w.heap.size) wb wr) (fun _ s22 _=>n-(intOf s22).toNat)
   case atStart=>exact⟨0,qYf _,rfl,rfl,HH.o.2.2.2.2.2.1,HH.o.2.2.2.2.2.2,uur _ _⟩
   case round=>
    obtain⟨k,hk,rfl,rfl,hc,hz,hu2⟩:=hrel;obtain⟨hN,hx,hu,hxl,hg,-,-⟩:=HH.o;have hbl:(bkC xs).length=n:=by rw[zo,hxl]
    by_cases hlt:k<n
    .have hkx:k<xs.length:=oM;have hck:wr.cell? ⟨g,o+k,none⟩=some (.int .u8 ((xs[k].toNat:Nat):Int)):=
      hu2.j4 (hx k _ (by simp only[bkC,qyq,qyn hkx,Option.map_some];rfl)) oM
     have hN2:=hN.keep hu2 (by have:=(H.o.1).lt;omega);have hbt:xs[k].toNat<256:=xs[k].toNat_lt;have ha:bits .and .i64 ((xs[k].toNat:Nat):Int) 15=((xs[k].toNat&&&15:Nat):Int):=um xs[k].toNat 15 oM oM;have hal:xs[k].toNat&&&15<16:=Nat.and_lt_two_pow (n:=4) _ oM;have hsl:=Zs (xs.take k);have hts:Hid (sumC (xs.take (k+1))=stepC (stepC (sumC (xs.take k)) (xs[k].toNat&&&15)) (xs[k].toNat/16)):=by
      show _=_;rw[qXq hkx,UH];rfl
     have HX:=Y7 hN2 hu2 hc hz hal hsl hxl;clear hN hx hu hxl hg hc hz hu2 hN2 hbl;go_wp2_with fail
     generalize xs[k].toNat=by1 at*;refine(YG (sumC (xs.take k)) (by1&&&15) hsl oM HX.o.1 HX.o.2.2.1 HX.o.2.2.2.1).mono ?_;rintro e w2 ⟨rfl,hc2,hz2,hu3⟩;have hN2:=HX.o.1.keep hu3 (by have:=(H.o.1).lt;omega);have hs2:stepC (sumC (xs.take k)) (by1&&&15)<4294967296:=qD hsl;have HY:=Y5 hN2 hu3 hc2 hz2 hs2;clear hN2 hu3 hc2 hz2 hs2;go_wp2_with fail
     rw[show((by1:Int)/16)=((by1/16:Nat):Int)from rfl];refine(YG _ (by1/16) HY.o.2.2.2.2 oM HY.o.1 HY.o.2.2.1 HY.o.2.2.2.1).mono ?_;rintro e w3 ⟨rfl,hc3,hz3,hu4⟩;rw[<-hts.out];rw[<-hts.out]at hc3;have HZ:=Y3 hu4 hc3 hz3;clear hu4 hc3 hz3;go_wp2
     go_roundw
     case rel=>exact⟨k+1,oM,by go_num,rfl,HZ.o.2.1,HZ.o.2.2,(HX.o.2.1.trans HY.o.2.1).trans HZ.o.1⟩
     case measure=>simp[intOf];omega
    .obtain rfl:k=n:=oM;have HF:Hid (xs.take k=xs):=by show _=_;rw[qXp oM]
     have HG:=Y2 hu hu2;clear hu hu2 hN hx hxl hc hz hbl;go_wp2
     go_roundw
     case rel=>exact .inr ⟨rfl,by rw[HF.o],HG.o.1.trans HG.o.2⟩
     case measure=>simp[intOf]
  .have hfx:bits .xor .i64 ((sumC xs:Nat):Int) 4294967295=((crcC xs:Nat):Int):=wm (sumC xs) 4294967295 (by have:=Zs xs;omega) oM;go_wp2
   try rw[qxr]
   go_ret
   obtain⟨hN,hl,hx,hxl,hu0,-,-,hg,hgl⟩:=H.o;exact⟨rfl,zk (Upd.below hu0) hu (qXv _) (fun k e=>oM)⟩
def byV(n i:Nat):Value:=.int .u8 (((UInt8.ofNat (n/256^i)).toNat:Nat):Int)
theorem Au(n k:Nat):Value.int .u8 ((n:Int)/2^(8*k)%256)=byV n k:=by
 unfold byV;have h1:(UInt8.ofNat (n/256^k)).toNat=n/256^k%256:=oe;have h2:(256:Nat)^k=2^(8*k):=by rw[Nat.pow_mul]
 rw[h1,h2,Int.natCast_emod,Int.natCast_ediv,Int.natCast_pow];rfl
theorem Vt{w:World}(n size:Nat)(_hn:n<72057594037927936)(hs:size<=7)(fd:Nat)(caps:Array Value)(hent:∀args w,(callFunc fd args).run prog w=.ok (.enter fd args) w)
  (J:Nat->World->Prop) (h0:J 0 w) (hput:∀i,i<size->∀w,J i w->Calls prog fd (#[byV n i]++caps) w fun e w'=>e=.returned (.tuple #[])/\J (i+1) w'):
  Calls prog 194 #[.int .i64 (n:Int),.int .i64 (size:Int),.func (.func fd) #[] caps] w fun e w'=>e=.returned (.tuple #[])/\J size w':=by
 have H:=Y2 h0 hput;clear h0 hput;go_enter func194,ntmps194
 go_wp2
 go_step3
 go_wp2
 go_step3
 go_wp2
 go_loopw[6] (fun i wr=>∃k:Nat,k<=size/\i=.int .i64 k/\J k wr) (fun i _=>size-(intOf i).toNat)
 case atStart=>exact⟨0,qYf _,rfl,H.o.1⟩
 case round=>
  obtain⟨k,hk,rfl,hJ⟩:=hrel;have HJ:=qqh hJ;clear hJ;by_cases hlt:k<size
  .have hq:((k:Int)==(size:Int))=false:=by rw[qYv];omega
   go_wp2_with fail
   rw[Au];refine(H.o.2 k hlt wr HJ.o).mono ?_;rintro e w2 ⟨rfl,hJ2⟩;have HJ2:=qqh hJ2;clear hJ2;go_wp2
   go_roundw
   case rel=>exact⟨k+1,oM,by go_num,HJ2.o⟩
   case measure=>simp[intOf];omega
  .obtain rfl:k=size:=oM;go_wp2
   try rw[Exit.noGoto_normal]
   go_end0
   exact⟨rfl,HJ.o⟩
theorem Qq(n size left:Nat)(h1:1<=size)(h2:size<=7)(hn:n<256^size)(hl:size<=left)(_hl2:left<=60)(w:World):
  Calls prog 192 #[.int .i64 (n:Int),.int .i64 (size:Int),.int .i64 (left:Int)] w fun e w'=>e=.returned (.int .i64 0)/\w'=w:=by
 have hsh:Hid ((n:Int)/2^(8*size)=0):=by
  show _=_;have e:(256:Nat)^size=2^(8*size):=by rw[Nat.pow_mul]
  rw[e]at hn;have:((n/2^(8*size):Nat):Int)=0:=by rw[Nat.div_eq_of_lt hn];rfl
  rw[Int.natCast_ediv,Int.natCast_pow]at this;exact this
 have hn2:n<72057594037927936:=qXy hn (Nat.pow_le_pow_right (n:=256) oM h2);clear hn;have q1:decide ((size:Int)<1)=false:=by simp;omega
 have q2:decide ((7:Int)<(size:Int))=false:=by simp;omega
 have q3:decide ((n:Int)<0)=false:=oe;have q4:=hsh.out;go_enter func192,ntmps192
 go_wp2
 go_ret
 exact⟨rfl,rfl⟩
def padB(bs:List UInt8):Bk:=bs++List.replicate (64-bs.length) 0
theorem wO{bs:List UInt8}(h:bs.length<=64):(padB bs).length=64:=by simp[padB];omega
theorem UI{bs:List UInt8}(h:bs.length<64)(b:UInt8):padB (bs++[b])=(padB bs).set bs.length b:=by
 unfold padB;have e:64-bs.length=(64-(bs++[b]).length)+1:=by simp;omega
 rw[e,List.replicate_succ,qXj _ _ (qXv _)];simp
theorem sL(n i:Nat):lowB n (i+1)=lowB n i++[UInt8.ofNat (n/256^i)]:=by
 induction i generalizing n with
 |zero=>simp[lowB]
 |succ i ih=>
  have h1:=ih (n/256);show UInt8.ofNat n::lowB (n/256) (i+1)=(UInt8.ofNat n::lowB (n/256) i)++_;rw[h1,qya,Nat.div_div_eq_div_mul,Nat.pow_succ,Nat.mul_comm]
theorem Vu(x:Bk)(i:Nat)(b:UInt8):bkC (x.set i b)=(bkC x).set i (Go.Extern.Stop.cell b):=by simp[bkC,List.map_set]
def WrAt(w:World)(g:Nat)(bs:List UInt8):Prop:=
 bs.length<=60/\w.heap[g]?=some (.cells (bkC (padB bs)++[Value.int .i64 (bs.length:Int),Value.int .i64 0]).toArray 316 (0,0))
section
variable{w w':World}{g:Nat}{bs:List UInt8}
theorem WrAt.lt(h:WrAt w g bs):g<w.heap.size:=zf h.2
theorem WrAt.keep(h:WrAt w g bs){S:Nat->Prop}(hu:Upd S w w')(hs:¬S g):WrAt w' g bs:=⟨h.1,(hu.block g h.lt hs).trans h.2⟩
theorem WrAt.len(h:WrAt w g bs):(bkC (padB bs)).length=64:=by rw[zo,wO (by have:=h.1;omega)]
theorem WrAt.c64(h:WrAt w g bs):w.cell? ⟨g,64,none⟩=some (.int .i64 (bs.length:Int)):=by
 rw[za h.2,qyv,qyj oR,h.len];rfl
theorem WrAt.c65(h:WrAt w g bs):w.cell? ⟨g,65,none⟩=some (.int .i64 0):=by
 rw[za h.2,qyv,qyj oR,h.len];rfl
theorem WrAt.fz(h:WrAt w g bs)(i:Nat):w.frozen? ⟨g,i,none⟩=false:=zg h.2 i
theorem WrAt.range(h:WrAt w g bs):w.rangeAt g 0 (bkC (padB bs)):=fun j v hv=>by
 have hj:=(qyp.1 hv).1;rw[za h.2,qYe,qyv,qyi hj];exact hv
theorem WrAt.some(h:WrAt w g bs){i:Nat}(hi:i<66):∃v,w.cell? ⟨g,i,none⟩=some v:=by
 rw[za h.2,qyv];exact⟨_,qyn (by rw[qzd,h.len];exact hi)⟩
theorem WrAt.push(h:WrAt w g bs)(hl:bs.length<60)(b:UInt8)(hw:Upd (fun _=>False) (w.setCell ⟨g,bs.length,none⟩ (Go.Extern.Stop.cell b)) w'):
  WrAt (w'.setCell ⟨g,64,none⟩ (.int .i64 ((bs++[b]).length:Int))) g (bs++[b]):=by
 refine⟨by simp;omega,?_⟩;have h1:=zi h.2 bs.length (Go.Extern.Stop.cell b);have h2:=(hw.block g (zf h1) id).trans h1;have h3:=zi h2 64 (.int .i64 ((bs++[b]).length:Int));rw[h3]
 congr 2
 rw[qXi,qXi,List.set_append_left _ _ oR,<-Vu,<-UI oM];have hl2:(bkC (padB (bs++[b]))).length=64:=by rw[zo,wO oh]
 rw[qXj _ _ oM,hl2];rfl
end
theorem zbJ{w:World}{g g0:Nat}{bs:List UInt8}(h:WrAt w g bs)(hl:bs.length<60)(b:UInt8)(hc:w.cell? ⟨g0,0,none⟩=some (.pointer (some ⟨g,0,none⟩)))(hne:¬g=g0):
  Calls prog 193 #[.int .u8 ((b.toNat:Nat):Int),.pointer (some ⟨g0,0,none⟩)] w fun e w'=>e=.returned (.tuple #[])/\WrAt w' g (bs++[b])/\Upd (fun j=>j=g) w w':=by
 have c64:=h.c64;obtain⟨v0,cb⟩:=h.some (i:=bs.length) oM;have hfz:=h.fz bs.length;have hfz2:=h.fz 64;have hU:Upd (fun j=>j=g) w ((w.setCell ⟨g,bs.length,none⟩ (.int .u8 ((b.toNat:Nat):Int))).drew.setCell ⟨g,64,none⟩ (.int .i64 ((bs.length:Int)+1))):=((zj _ _ _ _).drew).trans (zj _ _ _ _);have hP:WrAt ((w.setCell ⟨g,bs.length,none⟩ (.int .u8 ((b.toNat:Nat):Int))).drew.setCell ⟨g,64,none⟩ (.int .i64 ((bs.length:Int)+1))) g (bs++[b]):=by
  have:=h.push hl b ((uur (fun _=>False) _).drew);rw[qzd]at this;exact this
 have HP:=Y2 hP hU;have hb1:0<=(bs.length:Int)/\(bs.length:Int)<60:=⟨oM,oM⟩
 obtain⟨hb1,hb2⟩:=hb1;clear h hP hU;go_enter func193,ntmps193
 go_wp2
 go_region
 go_wp2
 go_end0
 exact⟨rfl,HP.o.1,HP.o.2⟩
theorem WrAt.set65{w:World}{g:Nat}{bs:List UInt8}(h:WrAt w g bs):WrAt (w.setCell ⟨g,65,none⟩ (.int .i64 0)) g bs:=by
 refine⟨h.1,?_⟩;rw[zi h.2 65 (.int .i64 0)]
 congr 2
 rw[qXi,qXj _ _ oR,h.len];rfl
theorem sj{w:World}{g o b o':Nat}{v u:Value}(h:w.cell? ⟨g,o,none⟩=some v)(hne:o'≠o):(w.setCell ⟨b,o',none⟩ u).cell? ⟨g,o,none⟩=some v:=by
 rw[World.cell?_setCell_other _ _ _ _ (fun e=>hne (congrArg Addr.off e)),h]
theorem Av(w:World):Calls prog 122 #[] w fun e w'=>∃g,e=.returned (.pointer (some ⟨g,0,none⟩))/\WrAt w' g []/\w.heap.size<=g/\Below w.heap.size w w':=by
 go_enter func122,ntmps122
 go_wp2
 go_ret
 refine⟨w.heap.size,rfl,⟨oe,zc w _ rfl⟩,qXv _,(qxl _ w).alloc (qXv _) _⟩
theorem zbK{w:World}{g:Nat}{bs:List UInt8}(h:WrAt w g bs)(n size:Nat)(h1:1<=size)(h2:size<=7)(hn:n<256^size)(hl:bs.length+size<=60):
  Calls prog 123 #[.pointer (some ⟨g,0,none⟩),.int .i64 (n:Int),.int .i64 (size:Int)] w fun e w'=>e=.returned (.pointer (some ⟨g,0,none⟩))/\WrAt w' g (bs++lowB n size)/\Upd (fun j=>j=g) w w':=by
 have hmf:=qqf;have hua:Upd (fun _=>False) w (w.alloc (.cells #[.pointer (some ⟨g,0,none⟩)] 213)):=(uur _ _).alloc _;have h':=h.keep hua id;have c0:(w.alloc (.cells #[.pointer (some ⟨g,0,none⟩)] 213)).cell? ⟨w.heap.size,0,none⟩=some (.pointer (some ⟨g,0,none⟩)):=za (zc w _ rfl) 0;have c64:=h'.c64;have c65:=h'.c65;have z65:=h'.fz 65;have hgl:=h.lt;have hne:¬g=w.heap.size:=oM;have hne2:w.heap.size≠g:=oM;have H:=Y6 h' hua hn h2 hl h1;have hs1:(60:Int)-bs.length=((60-bs.length:Nat):Int):=oM;have hsw:IntKind.i64.wrap (60-(bs.length:Int))=((60-bs.length:Nat):Int):=by rw[hs1,qxv _ oM]
 clear h' hua hn h h1 hs1;go_enter func123,ntmps123
 go_wp2
 generalize (w.alloc (.cells #[.pointer (some ⟨g,0,none⟩)] 213))=w1 at*;generalize w.heap.size=m at*
 go_region_held3 (fun W=>W.cell? ⟨m,0,none⟩=some (.pointer (some ⟨g,0,none⟩))/\W.cell? ⟨g,64,none⟩=some (.int .i64 (bs.length:Int)))
  ((go_split_ands;(simp only[qYo]at*);((repeat' constructor)<;>first|assumption|(refine zu ?_ ?_<;>assumption)|(refine sj ?_ de;assumption))))
  (first|(go_at_call 192;refine(Qq n size (60-bs.length) H.o.2.2.2.2.2 H.o.2.2.2.1 H.o.2.2.1 (by have:=H.o.2.2.2.2.1;omega) oM _).mono ?_;rintro e w' ⟨rfl,rfl⟩))
 have hW2:WrAt (w1.setCell ⟨g,65,none⟩ (.int .i64 0)).drew g bs:=(H.o.1.set65).keep ((uur (fun _=>False) _).drew) id;have hU2:Hid (Upd (fun j=>j=g) w (w1.setCell ⟨g,65,none⟩ (.int .i64 0)).drew):=(H.o.2.1.mono fE).trans ((zj _ _ _ _).drew);have c02:(w1.setCell ⟨g,65,none⟩ (.int .i64 0)).drew.cell? ⟨m,0,none⟩=some (.pointer (some ⟨g,0,none⟩)):=by
  rw[qYo];exact zu c0 hne
 rename_i hHeld
 clear hHeld;generalize (w1.setCell ⟨g,65,none⟩ (.int .i64 0)).drew=w2 at*;have c65':=hW2.c65;have HW:=Y2 hW2 c02;clear hW2 c0 c64 c65 z65;go_wp2_with fail
 refine(Vt (w:=w2) n size (qXy H.o.2.2.1 (Nat.pow_le_pow_right (n:=256) oM h2)) h2 193 #[.pointer (some ⟨m,0,none⟩)] (fun _ _=>rfl)
  (fun i W=>WrAt W g (bs++lowB n i)/\Upd (fun j=>j=g) w2 W) ⟨by simpa[lowB]using HW.o.1,uur _ _⟩ ?_).mono ?_
 .intro i hi W hJ;refine(zbJ hJ.1 (by rw[qzd,yj];omega) (UInt8.ofNat (n/256^i)) (hJ.2.j4 HW.o.2 hne2) hne).mono ?_;rintro e w' ⟨rfl,h3,h4⟩;refine⟨rfl,?_,hJ.2.trans h4⟩;rw[sL,<-qxx];exact h3
 .rintro e w3 ⟨rfl,hW3,hU3⟩;have c03:=hU3.j4 HW.o.2 hne2;have HZ:=Y2 hW3 hU3;clear hW3 hU3;go_wp2
  go_ret
  exact⟨rfl,HZ.o.1,hU2.out.trans HZ.o.2⟩
theorem zbL{w:World}{gb ga:Nat}{x:Bk}{i:Nat}(hg:w.heap[gb]?=some (.cells (bkC x).toArray 54 (0,0)))(hx:x.length=64)(hi:i<64)(b:UInt8)
  (ha:w.heap[ga]?=some (.cells #[.int .i64 (i:Int)] 3 (0,0))) (hne:¬gb=ga):
  Calls prog 269 #[.int .u8 ((b.toNat:Nat):Int),.pointer (some ⟨gb,0,none⟩),.pointer (some ⟨ga,0,none⟩)] w fun e w'=>e=.returned (.tuple #[])/\
   w'.heap[gb]?=some (.cells (bkC (x.set i b)).toArray 54 (0,0))/\w'.heap[ga]?=some (.cells #[.int .i64 ((i+1:Nat):Int)] 3 (0,0))/\Upd (fun j=>j=gb\/j=ga) w w':=by
 have c0:w.cell? ⟨ga,0,none⟩=some (.int .i64 (i:Int)):=za ha 0;have z0:=zg ha 0;have cb:∃v,w.cell? ⟨gb,i,none⟩=some v:=by
  rw[za hg];exact⟨_,qxe (by rw[zp _ hx];exact hi)⟩
 obtain⟨v0,cb⟩:=cb;have zb:=zg hg i;have hU:Upd (fun j=>j=gb\/j=ga) w ((w.setCell ⟨gb,i,none⟩ (.int .u8 ((b.toNat:Nat):Int))).setCell ⟨ga,0,none⟩ (.int .i64 ((i:Int)+1))):=
  ((zj w gb i _).mono (fun _ _ h=> .inl h)).trans ((zj _ _ _ _).mono (fun _ _ h=> .inr h))
 have h1:=zi hg i (.int .u8 ((b.toNat:Nat):Int));have h2:((w.setCell ⟨gb,i,none⟩ (.int .u8 ((b.toNat:Nat):Int))).setCell ⟨ga,0,none⟩ (.int .i64 ((i:Int)+1))).heap[gb]?=some (.cells (bkC (x.set i b)).toArray 54 (0,0)):=by
  rw[(zj _ ga 0 _).block gb (zf h1) hne,h1,qXi,Vu];rfl
 have h3:((w.setCell ⟨gb,i,none⟩ (.int .u8 ((b.toNat:Nat):Int))).setCell ⟨ga,0,none⟩ (.int .i64 ((i:Int)+1))).heap[ga]?=some (.cells #[.int .i64 ((i+1:Nat):Int)] 3 (0,0)):=
  zi (((zj w gb i (.int .u8 ((b.toNat:Nat):Int))).block ga (zf ha) (fun e=>hne e.symm)).trans ha) 0 _
 have hb1:0<=(i:Int)/\(i:Int)<64:=⟨oM,oM⟩
 obtain⟨hb1,hb2⟩:=hb1;have H:=Y3 h2 h3 hU;clear hU h1 h2 h3 hg ha;go_enter func269,ntmps269
 go_wp2
 go_end0
 exact⟨rfl,H.o.1,H.o.2.1,H.o.2.2⟩
def xJ(b:Bk)(i:Nat):Bk:=b.take 60++lowB (crcC (b.take 60)) i++b.drop (60+i)
theorem Wg{b:Bk}(h:b.length=64){i:Nat}(hi:i<=4):(xJ b i).length=64:=by simp[xJ,yj,h];omega
theorem YI(b:Bk):xJ b 0=b:=by simp[xJ,lowB]
theorem YJ{b:Bk}(h:b.length=64):xJ b 4=sealB b:=by
 unfold xJ sealB;rw[List.drop_of_length_le oM,qxy]
theorem Wh{b:Bk}(h:b.length=64){i:Nat}(hi:i<4):(xJ b i).set (60+i) (UInt8.ofNat (crcC (b.take 60)/256^i))=xJ b (i+1):=by
 unfold xJ;have hl:(b.take 60++lowB (crcC (b.take 60)) i).length=60+i:=by simp[yj,h]
 rw[qXj _ _ (by rw[hl];exact qXv _),hl,Nat.sub_self,sL];have hd:b.drop (60+i)=b[60+i]'oM::b.drop (60+(i+1)):=qyb oM;rw[hd,qXl];simp
theorem xC(w:World)(A B C D:Obj):let W:=(((w.alloc A).alloc B).alloc C).alloc D
  W.heap[w.heap.size]?=some A/\W.heap[w.heap.size+1]?=some B/\W.heap[w.heap.size+1+1]?=some C/\W.heap[w.heap.size+1+1+1]?=some D/\W.heap.size=w.heap.size+4/\Upd (fun _=>False) w W:=by
 refine⟨?_,?_,?_,zc _ _ oe,oe,((((uur _ w).alloc _).alloc _).alloc _).alloc _⟩
 .rw [qxk _ _ _ jZ,qxk _ _ _ jZ,qxk _ _ _ oe];exact zc w _ rfl
 .rw [qxk _ _ _ jZ,qxk _ _ _ oe];exact zc _ _ oe
 .rw [qxk _ _ _ oe];exact zc _ _ oe
theorem qE{w:World}(b:Bk)(hb:b.length=64)(hN:Nib w):
  Calls prog 195 #[.agg (bkC b).toArray] w fun e w'=>e=.returned (.agg (bkC (sealB b)).toArray)/\Below w.heap.size w w':=by
 have hmf:=qqf;have HN:=qqh hN;have Hb:=qqh hb;clear hN hb;go_enter func195,ntmps195
 go_wp2_with fail
 show Calls _ _ _ ((((w.alloc (.cells (bkC b).toArray 54)).alloc (.cells (bkC zB).toArray 54)).alloc (.cells #[.int .i64 60] 3)).alloc (.cells #[.slice (some ⟨w.heap.size,0,none⟩) 60 64] 205)) _;obtain⟨hA,hB,hC,hD,hS,hU⟩:=xC w (.cells (bkC b).toArray 54) (.cells (bkC zB).toArray 54) (.cells #[.int .i64 60] 3) (.cells #[.slice (some ⟨w.heap.size,0,none⟩) 60 64] 205);generalize (((w.alloc (.cells (bkC b).toArray 54)).alloc (.cells (bkC zB).toArray 54)).alloc (.cells #[.int .i64 60] 3)).alloc (.cells #[.slice (some ⟨w.heap.size,0,none⟩) 60 64] 205)=w4 at*;have hr:=zh hA;have hrt:w4.rangeAt w.heap.size 0 (bkC (b.take 60)):=fun j v hv=>by
  refine hr j v ?_;have hj:=(qyp.1 hv).1;rw[zo,qzk]at hj;simp only[bkC,qyq]at hv⊢;rw[qyu,if_pos oM]at hv;exact hv
 refine(un (b.take 60) (HN.o.keep hU id) (za hD 0) hrt (by rw[qzk,Hb.out];rfl) oM oM).mono ?_;rintro e w5 ⟨rfl,hb5⟩;have hU5:=qqb hb5;have hA5:=(hb5.block _ (zf hA)).trans hA;have hB5:=(hb5.block _ (zf hB)).trans hB;have hC5:=(hb5.block _ (zf hC)).trans hC;have H5:=Y4 hA5 hB5 hC5 (hU.trans hU5);clear hA hB hC hD hS hU hr hrt hb5 hU5 hA5 hB5 hC5;have Hs:=qqh (vq (b.take 60));obtain⟨m,Hm⟩:∃m,Hid (m=w.heap.size):=⟨_,rfl⟩
 have hsum:Hid (∀i,UInt8.ofNat (crcC (b.take 60)/256^i)=UInt8.ofNat (crcC (b.take 60)/256^i)):=fun _=>rfl;go_wp2_with fail
 refine(Vt (w:=w5) (crcC (b.take 60)) 4 (by have:=Hs.out;omega) oM 269 #[.pointer (some ⟨w.heap.size,0,none⟩),.pointer (some ⟨w.heap.size+1+1,0,none⟩)] (fun _ _=>rfl)
  (fun i W=>W.heap[w.heap.size]?=some (.cells (bkC (xJ b i)).toArray 54 (0,0))/\W.heap[w.heap.size+1+1]?=some (.cells #[.int .i64 ((60+i:Nat):Int)] 3 (0,0))/\Upd (fun j=>j=w.heap.size\/j=w.heap.size+1+1) w5 W) ⟨by rw[YI];exact H5.o.1,H5.o.2.2.1,uur _ _⟩ ?_).mono ?_
 .intro i hi W hJ;refine(zbL hJ.1 (Wg Hb.out oM) oM (UInt8.ofNat (crcC (b.take 60)/256^i)) hJ.2.1 oM).mono ?_;rintro e w' ⟨rfl,h1,h2,h3⟩;rw[Wh Hb.out hi]at h1;exact⟨rfl,h1,h2,hJ.2.2.trans h3⟩
 .rintro e w6 ⟨rfl,h1,h2,h3⟩;rw[YJ Hb.out]at h1;have hsl:=vr Hb.out;have r6:=zh h1;have hg6:=(h3.block (w.heap.size+1) (zf H5.o.2.1) oM).trans H5.o.2.1;have hth:w6.there (w.heap.size+1) 0 64:=fun j hj=>by
   rw[za hg6,zg hg6];exact⟨by rw[qYe,qxe oT];rfl,rfl⟩
  have hst:w6.there (w.heap.size+1) 0 (bkC (sealB b)).toArray.size:=by rw[zp _ hsl];exact hth
  have hst2:w6.there (w.heap.size+1) 0 (bkC (sealB b)).length:=by rw[zo,hsl];exact hth
  have hsz2:(prog.info? 54).map (·.size)=some (bkC (sealB b)).toArray.size:=by rw[zp _ hsl];exact zP
  have HST:=Y5 hst hsz2 hst2 hsl h3;clear hst hsz2 hst2 hsl h3 h1 h2 hg6 hth;generalize hsb:sealB b=sb at*;have Hsb:=qqh hsb;clear hsb;go_wp2_with (first
   |(refine qZg rfl _ _ rfl _ _ rfl _ _ r6 underlying54 rfl (zw _ HST.o.2.2.2.1) ?_)
   |(refine qZi rfl _ _ _ rfl _ _ (bkC sb).toArray rfl rfl HST.o.1 HST.o.2.1 (qYu (zx _)) ?_)
   |fail)
  exact qYw (zI rfl _ _ (w.heap.size+1) 0 (bkC sb) _ rfl (qYr _ _ _ _ HST.o.2.2.1) underlying54 rfl (zw _ HST.o.2.2.2.1)) rfl
   ⟨by rw[Hsb.out],zk (zk (Upd.below H5.o.2.2.2) HST.o.2.2.2.2 (qXv _) (fun k e=>oM)) (zq w6 (w.heap.size+1) 0 _) (qXv _) (fun k e=>oM)⟩
theorem Ji(w:World):(sizeOf 5).run prog w=.ok 1 w:=by
 have hu:(prog.info? 5).map (·.size)=some 1:=kR;obtain⟨i,hi,hs⟩:=qYi.1 hu;simp[sizeOf,typeInfo,hi,hs]
theorem Vv(x y:Bk)(hx:x.length=64)(hy:y.length=64)(w:World):(Op.equalIn 10000 54 (.agg (bkC x).toArray) (.agg (bkC y).toArray)).run prog w=.ok (x==y) w:=
 run_equalIn_bytes (P:=prog) w 9998 54 5 64 underlying54 underlying5 Ji x y hx hy
theorem Below.range{W W':World}(hb:Below W.heap.size W W'){b o:Nat}{cs:List Value}(h:W.rangeAt b o cs):W'.rangeAt b o cs:=
 (uuo (S:=fun _=>False) hb).range h id
theorem yu{w w':World}(h:Below w.drew.heap.size w.drew w'):Below w.heap.size w w':=⟨h.os,h.tape,h.output,h.size,h.block⟩
def sealedC(b:Bk):Int:=if sealB b=b then 0 else 13
theorem qF{w:World}(b:Bk)(hb:b.length=64)(hN:Nib w):
  Calls prog 197 #[.agg (bkC b).toArray] w fun e w'=>e=.returned (.int .i64 (sealedC b))/\Below w.heap.size w w':=by
 have hua:Upd (fun _=>False) w (w.alloc (.cells (bkC b).toArray 54)):=(uur _ w).alloc _;have hr:=zh (zc w (.cells (bkC b).toArray 54) rfl);have hut:=underlying54;have hsi:=zw b hb;have hlx:(bkC b).length=64:=by rw[zo,hb]
 have hq:=Vv (sealB b) b (vr hb) hb;have HN:Hid (Nib (w.alloc (.cells (bkC b).toArray 54)).drew):=(hN.keep hua id).keep ((uur (fun _=>False) _).drew) id;have HU:=qqh hua;have Hb:=qqh hb;clear hN hua hb;by_cases hs:sealB b=b
 .have hsc:Hid (sealedC b=0):=if_pos hs;have hqq:(sealB b==b)=true:=by simpa using hs
  have hqn:(!(sealB b==b))=false:=by rw[hqq];rfl
  clear hs;go_enter func197,ntmps197
  go_wp2_with fail
  refine qZj (S:=fun W=>W.rangeAt w.heap.size 0 (bkC b)) kR oE (fun hHeld=>?_)
  refine' qZf (i:=0) rfl kR kR kR (fun _ _ _ h=>h) (qZl oD _ _ rfl _ _ rfl _ _ (fun w h=>h) hut rfl hsi) hHeld _
  simp only[Act.put,qXi]
  refine' qZf (i:=2) rfl kR kR kR (fun _ _ _ h=>h) (qZl oD _ _ rfl _ _ rfl _ _ (fun w h=>h) hut rfl hsi) hHeld _
  simp only[Act.put];refine Wl.r 1 (fun K hK=>?_);go_simp
  refine(qE b Hb.out HN.o).mono ?_;rintro e w2 ⟨rfl,hb2⟩;refine hK.o _ _ (Below.range hb2 hHeld) (fun hHeld2=>?_);clear hK K;refine Wl.r 3 (fun K hK=>?_);go_simp
  refine hK.o _ _ hHeld2 (fun _=>?_);clear hK K;refine Wl.d ?_;have HB:Hid (Below w.heap.size w w2):=(Upd.below HU.o).trans ((yu hb2).mono HU.o.size);clear hHeld hHeld2 hb2;go_wp2
  go_ret
  exact⟨by rw[hsc.out];rfl,HB.o⟩
 .have hsc:Hid (sealedC b=13):=if_neg hs;have hqq:(sealB b==b)=false:=by simpa using hs
  have hqn:(!(sealB b==b))=true:=by rw[hqq];rfl
  clear hs;go_enter func197,ntmps197
  go_wp2_with fail
  refine qZj (S:=fun W=>W.rangeAt w.heap.size 0 (bkC b)) kR oE (fun hHeld=>?_)
  refine' qZf (i:=0) rfl kR kR kR (fun _ _ _ h=>h) (qZl oD _ _ rfl _ _ rfl _ _ (fun w h=>h) hut rfl hsi) hHeld _
  simp only[Act.put,qXi]
  refine' qZf (i:=2) rfl kR kR kR (fun _ _ _ h=>h) (qZl oD _ _ rfl _ _ rfl _ _ (fun w h=>h) hut rfl hsi) hHeld _
  simp only[Act.put];refine Wl.r 1 (fun K hK=>?_);go_simp
  refine(qE b Hb.out HN.o).mono ?_;rintro e w2 ⟨rfl,hb2⟩;refine hK.o _ _ (Below.range hb2 hHeld) (fun hHeld2=>?_);clear hK K;refine Wl.r 3 (fun K hK=>?_);go_simp
  refine hK.o _ _ hHeld2 (fun _=>?_);clear hK K;refine Wl.d ?_;have HB:Hid (Below w.heap.size w w2):=(Upd.below HU.o).trans ((yu hb2).mono HU.o.size);clear hHeld hHeld2 hb2;go_wp2
  go_ret
  exact⟨by rw[hsc.out];rfl,HB.o⟩
theorem zbM{w:World}{g:Nat}{bs:List UInt8}(h:WrAt w g bs)(hN:Nib w):
  Calls prog 124 #[.pointer (some ⟨g,0,none⟩)] w fun e w'=>e=.returned (.tuple #[.agg (bkC (sealB (padB bs))).toArray,.int .i64 0])/\Below w.heap.size w w':=by
 have H:=Y2 h hN;have hlw:=h.lt;clear h hN;have hu:Upd (fun _=>False) w (w.alloc (.cells (bkC zB).toArray 54)):=(uur _ w).alloc _;have hg1:=zc w (.cells (bkC zB).toArray 54) rfl;have h1:=H.o.1.keep hu id;have c65:=H.o.1.c65;have rr:=H.o.1.range;have hpl:Hid ((padB bs).length=64):=wO (by have:=h1.1;omega);have HX:=Y3 h1 hu hg1;clear h1 hu hg1;go_enter func124,ntmps124
 go_wp2_with (first
  |(refine qZg rfl _ _ rfl _ _ rfl _ _ (qYp rr _) underlying54 rfl (zw _ hpl.out) ?_)
  |fail)
 show Calls _ _ _ (w.alloc (.cells (bkC zB).toArray 54)) _;generalize (w.alloc (.cells (bkC zB).toArray 54))=w1 at*;obtain⟨h1,hu,hg1⟩:=HX.o;refine(qE (padB bs) hpl.out (H.o.2.keep hu id)).mono ?_;rintro e w6 ⟨rfl,hb⟩;have hsl:=vr hpl.out;have hg6:=(hb.block w.heap.size (zf hg1)).trans hg1;have hth:w6.there w.heap.size 0 64:=fun j hj=>by
  rw[za hg6,zg hg6];exact⟨by rw[qYe,qxe oT];rfl,rfl⟩
 have hst:w6.there w.heap.size 0 (bkC (sealB (padB bs))).toArray.size:=by rw[zp _ hsl];exact hth
 have hst2:w6.there w.heap.size 0 (bkC (sealB (padB bs))).length:=by rw[zo,hsl];exact hth
 have hsz2:(prog.info? 54).map (·.size)=some (bkC (sealB (padB bs))).toArray.size:=by rw[zp _ hsl];exact zP
 have HST:=Y6 hst hsz2 hst2 hsl hb hu;clear hst hsz2 hst2 hsl hg6 hth h1 hu hg1 hb;generalize hsb:sealB (padB bs)=sb at*;have Hsb:=qqh hsb;clear hsb;go_wp2_with (first
  |(refine qZi rfl _ _ _ rfl _ _ (bkC sb).toArray rfl rfl HST.o.1 HST.o.2.1 (qYu (zx _)) ?_)
  |fail)
 exact qYw (zt rfl _ _ w.heap.size 0 (bkC sb) _ rfl (qYr _ _ _ _ HST.o.2.2.1) underlying54 rfl (zw _ HST.o.2.2.2.1)) rfl
   ⟨by rw[Hsb.out];rfl,zk ((Upd.below HST.o.2.2.2.2.2).trans (HST.o.2.2.2.2.1.mono HST.o.2.2.2.2.2.size)) (zq w6 w.heap.size 0 _) (qXv _) (fun k e=>oM)⟩
end Go.Proofs.YtfhfbpmlnjdfoaaGreatDoor
