/- A reader of a -/
import Derived.Test.YtfhfbpmlnjdfoaaGreatDoorG04
import Derived.Laws.EntriesVeiled
import Derived.Deep.Slices
import Derived.Lib.SmallJoins
import Derived.Deep.Strs
import Derived.Laws.Cover3
set_option maxRecDepth 100000
set_option maxHeartbeats 2000000
namespace Go.Proofs.YtfhfbpmlnjdfoaaGreatDoor
open Go Go.RowKit Tryz
section
def yQ(w:World)(g:Nat)(b:Bk)(at_:Nat):Prop:=
 b.length=64/\at_<=60/\w.heap[g]?=some (.cells (bkC b++[Value.int .i64 (at_:Int),Value.int .i64 0]).toArray 396 (0,0))
section
variable{w w':World}{g at_:Nat}{b:Bk}
theorem yQ.lt(h:yQ w g b at_):g<w.heap.size:=zf h.2.2
theorem yQ.keep(h:yQ w g b at_){S:Nat->Prop}(hu:Upd S w w')(hs:¬S g):yQ w' g b at_:=⟨h.1,h.2.1,(hu.block g h.lt hs).trans h.2.2⟩
theorem yQ.len(h:yQ w g b at_):(bkC b).length=64:=by rw[zo,h.1]
theorem yQ.c64(h:yQ w g b at_):w.cell? ⟨g,64,none⟩=some (.int .i64 (at_:Int)):=by
 rw[za h.2.2,qyv,qyj oR,h.len];rfl
theorem yQ.c65(h:yQ w g b at_):w.cell? ⟨g,65,none⟩=some (.int .i64 0):=by
 rw[za h.2.2,qyv,qyj oR,h.len];rfl
theorem yQ.fz(h:yQ w g b at_)(i:Nat):w.frozen? ⟨g,i,none⟩=false:=zg h.2.2 i
theorem yQ.byte(h:yQ w g b at_){i:Nat}(hi:i<b.length):w.cell? ⟨g,i,none⟩=some (.int .u8 ((b[i].toNat:Nat):Int)):=by
 rw[za h.2.2,qyv,qyi (by rw[zo];exact hi)];simp only[bkC,qyq,qyn hi,Option.map_some];rfl
theorem yQ.set65(h:yQ w g b at_):yQ (w.setCell ⟨g,65,none⟩ (.int .i64 0)) g b at_:=by
 refine⟨h.1,h.2.1,?_⟩;rw[zi h.2.2 65 (.int .i64 0)]
 congr 2
 rw[qXi,qXj _ _ oR,h.len];rfl
theorem yQ.set64(h:yQ w g b at_){n:Nat}(hn:n<=60):yQ (w.setCell ⟨g,64,none⟩ (.int .i64 (n:Int))) g b n:=by
 refine⟨h.1,hn,?_⟩;rw[zi h.2.2 64 (.int .i64 (n:Int))]
 congr 2
 rw[qXi,qXj _ _ oR,h.len];rfl
end
theorem UJ(l:List UInt8)(b:UInt8):numB (l++[b])=numB l|||(b.toNat<<<(8*l.length))/\numB (l++[b])=numB l+b.toNat*2^(8*l.length)/\numB l<2^(8*l.length):=by
 have hlt:∀l:List UInt8,numB l<2^(8*l.length):=by
  intro l
  induction l with
  |nil=>simp[numB]
  |cons a l ih=>
   have ha:=a.toNat_lt;simp only[numB,qze];rw[show 8*(l.length+1)=8*l.length+8 by omega,Nat.pow_add];omega
 have hadd:numB (l++[b])=numB l+b.toNat*2^(8*l.length):=by
  induction l with
  |nil=>simp[numB]
  |cons a l ih=>
   simp only[qya,numB,qze];rw[ih,show 8*(l.length+1)=8+8*l.length by omega,Nat.pow_add];rw[show(2:Nat)^8=256 from rfl];rw[Nat.mul_add,qXr,Nat.mul_left_comm]
 refine⟨?_,hadd,hlt l⟩;rw[hadd,Nat.shiftLeft_eq,Nat.add_comm,Nat.mul_comm,Nat.two_pow_add_eq_or_of_lt (hlt l),Nat.or_comm]
theorem Wi(M:Nat)(h:M<4611686018427387904):wrap64 (M:Int)=M:=by unfold wrap64;omega
theorem Aw(A c m:Nat)(hA:A<281474976710656)(hc:c<256)(hm:2^m<=281474976710656):bits .or .i64 (A:Int) (wrap64 ((c:Int)*2^m))=((A|||c<<<m:Nat):Int):=by
 have h1:c*2^m<=255*281474976710656:=Nat.mul_le_mul oM hm;have hcast:((c:Int)*2^m)=((c*2^m:Nat):Int):=by rw[Int.natCast_mul,Int.natCast_pow];rfl
 rw[hcast,<-Nat.shiftLeft_eq];rw[<-Nat.shiftLeft_eq]at h1;generalize c<<<m=M at*;rw[Wi M oM];exact YE _ _ oM oM
theorem EW{w:World}{g at_:Nat}{b:Bk}(h:yQ w g b at_)(size:Nat)(h1:1<=size)(h2:size<=7)(hl:at_+size<=60):
  Calls prog 199 #[.pointer (some ⟨g,0,none⟩),.int .i64 (size:Int)] w fun e w'=>e=.returned (.int .i64 ((numB ((b.drop at_).take size):Nat):Int))/\yQ w' g b (at_+size)/\Upd (fun j=>j=g) w w':=by
 have c64:=h.c64;have c65:=h.c65;have z65:=h.fz 65;have H:=qqh h;have HL:=Y3 h1 h2 hl;have hat:=h.2.1;clear h;go_enter func199,ntmps199
 go_wp2_with fail
 rw[show(60:Int)-(at_:Int)=((60-at_:Nat):Int) by omega];refine(Qq 0 size (60-at_) h1 h2 (Nat.pow_pos oM) oM oM _).mono ?_;rintro e w' ⟨rfl,rfl⟩;go_wp2
 have h':=H.o.set65;have hU:Upd (fun j=>j=g) w' (w'.setCell ⟨g,65,none⟩ (.int .i64 0)):=zj _ _ _ _;generalize (w'.setCell ⟨g,65,none⟩ (.int .i64 0))=w1 at*;have H1:=Y2 h' hU;clear h' hU c64 c65 z65;go_loopw[5,32] (fun s5 s32 wr=>∃k:Nat,k<=size/\s32=.int .i64 k/\s5=.int .i64 ((numB ((b.drop at_).take k):Nat):Int)/\yQ wr g b at_/\Upd (fun j=>j=g) w' wr) (fun _ s32 _=>size-(intOf s32).toNat)
 case atStart=>exact⟨0,qYf _,rfl,by simp[numB],H1.o.1,H1.o.2⟩
 case round=>
  obtain⟨k,hk,rfl,rfl,hr,hu⟩:=hrel;have c64:=hr.c64;by_cases hlt:k<size
  .have hbl:b.length=64:=hr.1;have hi:at_+k<b.length:=oM;have cb:=hr.byte hi;have e1:IntKind.i64.wrap ((at_:Int)+(k:Int))=(at_:Int)+(k:Int):=qxv _ oM;have e2:((at_:Int)+(k:Int)).toNat=at_+k:=oM;have e3:IntKind.i64.wrap (8*(k:Int))=8*(k:Int):=qxv _ oM;have b1:(0:Int)<=(at_:Int)+(k:Int)/\(at_:Int)+(k:Int)<64:=oM;obtain⟨b1,b2⟩:=b1;have hts:(b.drop at_).take (k+1)=(b.drop at_).take k++[b[at_+k]]:=by
    rw[qXq oh];simp
   have hln:((b.drop at_).take k).length=k:=by simp;omega
   obtain⟨n1,n2,n3⟩:=UJ ((b.drop at_).take k) b[at_+k];rw[hln]at n1 n2 n3;have hbt:b[at_+k].toNat<256:=b[at_+k].toNat_lt;have HH:=Y5 hr hu hts n1 n3;clear hr hu hts hln n1 n2 n3 hbl;generalize b[at_+k].toNat=by1 at*;go_wp2
   go_quiet(fail)
   clear e1 e2 e3 b1 b2;have hpw:(2:Nat)^(8*k)<=281474976710656:=qXx (Nat.pow_le_pow_right de (show 8*k<=48 by omega)) de;have hv:bits .or .i64 ((numB ((b.drop at_).take k):Nat):Int) (wrap64 ((by1:Int)*2^(8*k)))=((numB ((b.drop at_).take (k+1)):Nat):Int):=by
    obtain⟨-,-,hts,n1,n3⟩:=HH.o;rw[hts,n1];exact Aw _ _ _ (qXy n3 hpw) oM hpw
   rw[hv];have hr2:=HH.o.1.keep ((uur (fun _=>False) wr).drewN nq) id;have hu2:Upd (fun j=>j=g) w' (wr.drewN nq):=HH.o.2.1.drewN nq;have HZ:=Y2 hr2 hu2;clear hr2 hu2 hv hpw;generalize wr.drewN nq=wz at*;go_wp2
   go_roundw
   case rel=>exact⟨k+1,oM,by go_num,rfl,HZ.o.1,HZ.o.2⟩
   case measure=>simp[intOf];omega
  .obtain rfl:k=size:=oM;have z64:=hr.fz 64;have h9:=hr.set64 (n:=at_+k) oM;rw[show((at_+k:Nat):Int)=(at_:Int)+(k:Int)from rfl]at h9;have HH:=Y2 h9 hu;clear hr hu h9;go_wp2
   go_ret
   exact⟨rfl,HH.o.1,HH.o.2.trans (zj _ _ _ _)⟩
theorem Vw:Tryz.zeroCells396.size=66:=kR
theorem YK:Tryz.zeroCells396[64]?=some (.int .i64 0)/\Tryz.zeroCells396[65]?=some (.int .i64 0):=by constructor<;>kernel_rfl
theorem Qr(x:Bk)(hx:x.length=64):List.foldl (fun(cs:Array Value) (x:Value×Nat)=>cs.setIfInBounds x.2 x.1) Tryz.zeroCells396 (bkC x).zipIdx=(bkC x++[Value.int .i64 0,Value.int .i64 0]).toArray:=by
 have hb:(bkC x).length=64:=by rw[zo,hx]
 obtain⟨f1,f2⟩:=Go.Great.foldl_set 0 (bkC x) 0 Tryz.zeroCells396;simp only[qYe]at f2;apply qxd
 intro k;have e:(bkC x++[Value.int .i64 0,Value.int .i64 0]).toArray[k]?=(bkC x++[Value.int .i64 0,Value.int .i64 0])[k]?:=qyv;rw[f2 k,Vw,e];by_cases hk:k<64
 .rw [if_pos ⟨oM,oM,oM⟩,qyi oM];rfl
 .rw [if_neg oM,qyj oM,hb];by_cases h4:k=64
  .subst h4;exact YK.1
  .by_cases h5:k=65
   .subst h5;exact YK.2
   .rw [qxf (by rw[Vw];omega),qyo oh]
theorem zbN{w:World}(b:Bk)(hb:b.length=64):
  Calls prog 198 #[.agg (bkC b).toArray] w fun e w'=>∃g,e=.returned (.pointer (some ⟨g,0,none⟩))/\yQ w' g b 0/\w.heap.size<=g/\Below w.heap.size w w':=by
 have hr:=zh (zc w (.cells (bkC b).toArray 54) rfl);have Hb:=qqh hb;have hbu:=Qr b hb;have hlx:(bkC b).length=64:=by rw[zo,hb]
 clear hb;go_enter func198,ntmps198
 go_wp2_with (first
  |(refine qZg rfl _ _ rfl _ _ rfl _ _ hr underlying54 rfl (zw _ Hb.out) ?_)
  |fail)
 go_ret
 exact⟨w.heap.size+1,rfl,⟨Hb.out,oM,zc _ _ oe⟩,oM,((qxl _ w).alloc (qXv _) _).alloc oe _⟩
def endB(b:Bk)(at_:Nat):Bool:=((b.drop at_).take (60-at_)).all (·==0)
def endC(b:Bk)(at_:Nat):Int:=if endB b at_=true then 0 else 12
theorem zdm{w:World}{g at_:Nat}{b:Bk}(h:yQ w g b at_):
  Calls prog 200 #[.pointer (some ⟨g,0,none⟩)] w fun e w'=>e=.returned (.int .i64 (endC b at_))/\Below w.heap.size w w':=by
 have c64:=h.c64;have c65:=h.c65;have hat:=h.2.1;have hbl:=qqh h.1;have H:=qqh h;clear h;have b1:(0:Int)<=(at_:Int)/\(at_:Int)<=60:=oM;obtain⟨b1,b2⟩:=b1;have e3:IntKind.i64.wrap (60-(at_:Int))=60-(at_:Int):=qxv _ oM;go_enter func200,ntmps200
 go_wp2
 go_quiet(fail)
 go_wp2
 have hr:=H.o.keep ((uur (fun _=>False) w).drewN nq) id;have HB:Hid (Below w.heap.size w (w.drewN nq)):=zR (qxl _ w) nq;clear c64 c65 e3;generalize w.drewN nq=w1 at*
 go_loop [25] (fun s25=>∃k:Nat,k<=60-at_/\s25=.int .i64 k/\((b.drop at_).take k).all (·==0)=true) (fun s25=>60-at_-(intOf s25).toNat)
 case atStart=>exact⟨0,qYf _,rfl,oe⟩
 case round=>
  obtain⟨k,hk,rfl,ha⟩:=hrel;have HA:=qqh ha;clear ha;by_cases hlt:k<60-at_
  .have hi:at_+k<b.length:=by rw[hbl.out];omega
   have cb:=hr.byte hi;have hts:Hid ((b.drop at_).take (k+1)=(b.drop at_).take k++[b[at_+k]]):=by
    show _=_;rw[qXq (by simp;have:=hbl.out;omega)];simp
   have b3:(0:Int)<=(k:Int)/\(k:Int)<((60-at_:Nat):Int):=oM;have b4:(k:Int)<((64-at_:Nat):Int):=oM;obtain⟨b3,b3'⟩:=b3;by_cases hz:b[at_+k]=0
   .have hq:(((b[at_+k].toNat:Nat):Int)==0)=true:=by rw[hz];rfl
    have hq2:(((b[at_+k].toNat:Nat):Int) !=0)=false:=by rw[hz];rfl
    have HZ:=qqh hz;clear hz;generalize b[at_+k].toNat=by1 at*;go_wp2
    go_round
    case rel=>exact⟨k+1,oM,by go_num,by rw[hts.out,List.all_append,HA.o,HZ.o];rfl⟩
    case measure=>simp[intOf];omega
   .have hq:(((b[at_+k].toNat:Nat):Int)==0)=false:=by
     rw[qYv];intro e;exact hz (UInt8.toNat_inj.1 (by have:(0:UInt8).toNat=0:=rfl;omega))
    have hq2:(((b[at_+k].toNat:Nat):Int) !=0)=true:=by simp[bne,hq]
    have hend:Hid (endC b at_=12):=by
     show _=_;unfold endC;rw[if_neg];intro e;unfold endB at e;rw[qxw]at e;have hm:b[at_+k]∈(b.drop at_).take (60-at_):=by
      have h1:b[at_+k]∈(b.drop at_).take (k+1):=by rw[hts.out];simp
      exact(List.take_subset_take_left _ oM) h1
     exact hz (by simpa using e _ hm)
    clear hz;generalize b[at_+k].toNat=by1 at*;go_wp2
    go_ret
    exact⟨by rw[hend.out];rfl,HB.o⟩
  .obtain rfl:k=60-at_:=oM;have hend:Hid (endC b at_=0):=if_pos HA.o;go_wp2
   go_ret
   exact⟨by rw[hend.out];rfl,HB.o⟩
def bndC(B:List (Int×Int)):List Value:=B.flatMap fun p=>[.int .i64 p.1,.int .i64 p.2]
theorem Vx{B:List (Int×Int)}{i:Nat}(hi:i<B.length):(bndC B)[i*2]?=some (.int .i64 B[i].1)/\(bndC B)[i*2+1]?=some (.int .i64 B[i].2):=by
 induction B generalizing i with
 |nil=>simp at hi
 |cons p B ih=>
  cases i with
  |zero=>exact⟨rfl,rfl⟩
  |succ i=>
   have:=ih (i:=i) ox;rw[show(i+1)*2=i*2+2 by omega];exact this
def inB(p:Int×Int)(x:Int):Bool:=decide (p.1<=x)&&decide (x<=p.2)
def withinB(B:List (Int×Int))(xs:List Int):Bool:=(B.zip xs).all fun q=>inB q.1 q.2
def Bnd(w:World)(v:Value)(B:List (Int×Int)):Prop:=
 ∃g h c,v=.func (.func 196) #[] #[.pointer (some ⟨g,0,none⟩)]/\w.cell? ⟨g,0,none⟩=some (.slice (some ⟨h,0,none⟩) B.length c)/\w.rangeAt h 0 (bndC B)
theorem Bnd.below{w w':World}{v:Value}{B:List (Int×Int)}(h:Bnd w v B)(hb:Below w.heap.size w w'):Bnd w' v B:=by
 obtain⟨g,k,c,hv,hc,hr⟩:=h;exact⟨g,k,c,hv,(uuo (S:=fun _=>False) hb).j4 hc id,Below.range hb hr⟩
theorem yR{w:World}{g o:Nat}{xs:List Int}(h:w.rangeAt g o (ints xs)){i:Nat}(hi:i<xs.length):w.cell? ⟨g,o+i,none⟩=some (.int .i64 xs[i]):=h i _ (yt hi)
theorem uq{α:Type}{l:List α}{p:α->Bool}{k:Nat}(hk:k<l.length)(h:p l[k]=false):l.all p=false:=by
 rw[<-Bool.not_eq_true];intro e;rw[qxw]at e;have:=e _ (qyz hk);rw[h]at this;cases this
theorem xu{w:World}{h n c:Nat}:Calls prog 126 #[.slice (some ⟨h,0,none⟩) n c] w fun e w'=>e=.returned (.func (.func 196) #[] #[.pointer (some ⟨w.heap.size,0,none⟩)])/\w'=w.alloc (.cells #[.slice (some ⟨h,0,none⟩) n c] 321):=by
 have hmf:=qqf;go_enter func126,ntmps126
 go_wp2
 go_ret
 exact⟨rfl,rfl⟩
theorem Bnd.made{w:World}{h c:Nat}{B:List (Int×Int)}(hr:w.rangeAt h 0 (bndC B)):Bnd (w.alloc (.cells #[.slice (some ⟨h,0,none⟩) B.length c] 321)) (.func (.func 196) #[] #[.pointer (some ⟨w.heap.size,0,none⟩)]) B:=
 ⟨w.heap.size,h,c,rfl,za (zc w _ rfl) 0,qYp hr _⟩
theorem yS{w:World}{g h c gl ol m cl:Nat}(B:List (Int×Int))(xs:List Int)(hc:w.cell? ⟨g,0,none⟩=some (.slice (some ⟨h,0,none⟩) B.length c))(hr:w.rangeAt h 0 (bndC B))(hx:w.rangeAt gl ol (ints xs))(hm:xs.length=m)(hB:B.length<=m)(hm2:m<=100):
  Calls prog 196 #[.slice (some ⟨gl,ol,none⟩) m cl,.pointer (some ⟨g,0,none⟩)] w fun e w'=>e=.returned (.bool (withinB B xs))/\Below w.heap.size w w':=by
 have H:=Y3 hr hx hm;clear hr hx hm;go_enter func196,ntmps196
 go_wp2
 go_loopw[8] (fun s8 wr=>∃k:Nat,k<=B.length/\s8=.int .i64 k/\Below w.heap.size w wr/\((B.zip xs).take k).all (fun q=>inB q.1 q.2)=true) (fun s8 _=>B.length-(intOf s8).toNat)
 case atStart=>exact⟨0,qYf _,rfl,qxl _ _,oe⟩
 case round=>
  obtain⟨k,hk,rfl,hb,ha⟩:=hrel;have HA:=Y2 ha hb;by_cases hlt:k<B.length
  .obtain ⟨hr,hx,hm⟩:=H.o;have hkx:k<xs.length:=oM;have r1:=(Below.range hb hr) (k*2) _ (Vx hlt).1;have r2:=(Below.range hb hr) (k*2+1) _ (Vx hlt).2;have rx:=yR (Below.range hb hx) hkx;rw[qYe]at r1 r2;have hts:Hid (((B.zip xs).take (k+1))=(B.zip xs).take k++[(B[k],xs[k])]):=by
    show _=_;rw[qXq jx,List.getElem_zip]
   obtain⟨lo,hi,hp⟩:∃lo hi,B[k]=(lo,hi):=⟨_,_,rfl⟩
   have HP:=qqh hp;rw[hp]at r1 r2;simp only at r1 r2;have b3:(0:Int)<=(k:Int)/\(k:Int)<(B.length:Int)/\(k:Int)<(m:Int):=oM;have hbl:wr.heap.size<=wr.heap.size:=qXv _;clear hp ha hr hx hm hb;obtain⟨b3,b4,b5⟩:=b3;obtain⟨x,hxk⟩:∃x,xs[k]=x:=⟨_,rfl⟩
   have HX:=qqh hxk;rw[hxk]at rx;have hglt:gl<wr.heap.size:=qYn wr _ rx;clear hxk;have hblw:Below w.heap.size w (wr.alloc (.cells #[.int .i64 lo,.int .i64 hi] 219)):=HA.o.2.alloc HA.o.2.size _;by_cases h1:x<lo
   .have hin:Hid (withinB B xs=false):=by
     show _=_;refine uq (k:=k) jx ?_;rw[List.getElem_zip,HP.o,HX.o];simp[inB];omega
    have q1:decide (x<lo)=true:=by simpa using h1
    clear h1;have HB:=qqh hblw;clear hblw;go_wp2
    go_quiet(fail)
    go_wp2
    go_ret
    exact⟨by rw[hin.out];rfl,zR HB.o _⟩
   .by_cases h2:hi<x
    .have hin:Hid (withinB B xs=false):=by
      show _=_;refine uq (k:=k) jx ?_;rw[List.getElem_zip,HP.o,HX.o];simp[inB];omega
     have q1:decide (x<lo)=false:=by simpa using h1
     have q2:decide (hi<x)=true:=by simpa using h2
     clear h1 h2;have HB:=qqh hblw;clear hblw;go_wp2
     go_quiet(fail)
     go_wp2
     go_ret
     exact⟨by rw[hin.out];rfl,zR HB.o _⟩
    .have hin:Hid (inB (B[k],xs[k]).1 (B[k],xs[k]).2=true):=by
      show _=_;rw[HP.o,HX.o];simp[inB];omega
     have q1:decide (x<lo)=false:=by simpa using h1
     have q2:decide (hi<x)=false:=by simpa using h2
     clear h1 h2;have HB:=qqh hblw;clear hblw;go_wp2
     go_quiet(fail)
     go_wp2
     go_roundw
     case rel=>exact⟨k+1,oM,by go_num,zR HB.o _,by rw[hts.out,List.all_append,HA.o.1];simpa using hin.out⟩
     case measure=>simp[intOf];omega
  .obtain rfl:k=B.length:=oM;have hin:Hid (withinB B xs=true):=by
    have:=HA.o.1;rw[qXp jx]at this;exact this
   go_wp2
   go_ret
   exact⟨by rw[hin.out];rfl,HA.o.2⟩
def zbO:List (Int×Int):=[(0,1099511627776),(0,1099511627776)]
theorem uS:(prog.info? 154).map (·.size)=some 4:=kR
theorem ur(w:World)(A B C D E:Obj):let W:=((((w.alloc A).alloc B).alloc C).alloc D).alloc E
  W.heap[w.heap.size]?=some A/\W.heap[w.heap.size+1]?=some B/\W.heap[w.heap.size+1+1]?=some C/\W.heap[w.heap.size+1+1+1]?=some D/\W.heap[w.heap.size+1+1+1+1]?=some E/\W.heap.size=w.heap.size+5/\Upd (fun _=>False) w W:=by
 obtain⟨h1,h2,h3,h4,h5,h6⟩:=xC w A B C D;refine⟨?_,?_,?_,?_,zc _ _ oe,oe,h6.alloc _⟩
 .rw [qxk _ _ _ (zf h1)];exact h1
 .rw [qxk _ _ _ (zf h2)];exact h2
 .rw [qxk _ _ _ (zf h3)];exact h3
 .rw [qxk _ _ _ (zf h4)];exact h4
def Ax(gs gt:Nat):Value:=.agg #[.int .i64 4,.slice (some ⟨gs,0,none⟩) 4 4,.func (.func 274) #[] #[],.func (.func 275) #[] #[.pointer (some ⟨gt,0,none⟩)],.func (.func 277) #[] #[]]
def zbP(w:World)(gs gt:Nat):Prop:=w.rangeAt gs 0 (ints [6,6,2,2])/\∃v,w.cell? ⟨gt,0,none⟩=some v/\Bnd w v zbO
theorem Jj:(prog.info? 339).map (·.size)=some 5:=kR
theorem tM(w:World):Calls prog 207 #[] w fun e w'=>∃gs gt,e=.returned (Ax gs gt)/\zbP w' gs gt/\Below w.heap.size w w':=by
 have hmf:=qqf;go_enter func207,ntmps207
 go_wp2_with fail
 refine(xu).mono ?_;rintro e w1 ⟨rfl,rfl⟩;go_wp2
 obtain⟨h1,h2,h3,h4,h5,h6,h7⟩:=ur w (.cells #[.int .i64 4,.slice (some ⟨w.heap.size+1+1+1+1,0,none⟩) 4 4,.func (.func 274) #[] #[],.func (.func 275) #[] #[.pointer (some ⟨w.heap.size+1+1+1,0,none⟩)],.func (.func 277) #[] #[]] 339)
  (.cells (bndC zbO).toArray 219) (.cells #[.slice (some ⟨w.heap.size+1,0,none⟩) 2 2] 321) (.cells #[.func (.func 196) #[] #[.pointer (some ⟨w.heap.size+1+1,0,none⟩)]] 134) (.cells (ints [6,6,2,2]).toArray 3)
 refine qYw (zI rfl _ _ w.heap.size 0 [.int .i64 4,.slice (some ⟨w.heap.size+1+1+1+1,0,none⟩) 4 4,.func (.func 274) #[] #[],.func (.func 275) #[] #[.pointer (some ⟨w.heap.size+1+1+1,0,none⟩)],.func (.func 277) #[] #[]] _ rfl (zh h1) underlying339 rfl Jj) rfl
  ⟨w.heap.size+1+1+1+1,w.heap.size+1+1+1,rfl,⟨zh h5,_,za h4 0,w.heap.size+1+1,w.heap.size+1,2,rfl,za h3 0,zh h2⟩,Upd.below h7⟩
def encB(l:List (Nat×Nat)):List UInt8:=l.flatMap fun p=>lowB p.1 p.2
theorem UK(l:List (Nat×Nat))(p:Nat×Nat):encB (l++[p])=encB l++lowB p.1 p.2:=by simp[encB]
def sizes(l:List (Nat×Nat)):Nat:=(l.map (·.2)).sum
theorem ut(l:List (Nat×Nat)):(encB l).length=sizes l:=by
 induction l with
 |nil=>rfl
 |cons p l ih=>simp only[encB,sizes,qyg,qzd,yj,qzm,List.sum_cons]at ih⊢;rw[ih]
theorem Wj(l:List (Nat×Nat)){i:Nat}(hi:i<l.length):sizes (l.take i)+l[i].2<=sizes l:=by
 have h:=congrArg sizes (qXo (i+1) l);rw[qXq hi]at h;simp only[sizes,qzl,List.sum_append,qzm,qzo,List.sum_cons,List.sum_nil]at h⊢;omega
def Zt(l:List (Nat×Nat)):Prop:=(∀p∈l,p.1<256^p.2/\1<=p.2/\p.2<=7)/\sizes l<=59
def numsL(l:List (Nat×Nat)):List Int:=l.map fun p=>(p.1:Int)
def wP(l:List (Nat×Nat)):List Int:=l.map fun p=>(p.2:Int)
theorem sM{l:List (Nat×Nat)}{i:Nat}(h:i<l.length):(ints (numsL l))[i]?=some (.int .i64 (l[i].1:Int)):=by
 rw[yt (by simpa[numsL]using h)];simp[numsL]
theorem qG{l:List (Nat×Nat)}{i:Nat}(h:i<l.length):(ints (wP l))[i]?=some (.int .i64 (l[i].2:Int)):=by
 rw[yt (by simpa[wP]using h)];simp[wP]
def sectB(k:Nat)(l:List (Nat×Nat)):Bk:=sealB (padB (lowB k 1++encB l))
theorem uu{k:Nat}{l:List (Nat×Nat)}(h:sizes l<=59):(padB (lowB k 1++encB l)).length=64:=wO (by simp[yj,ut];omega)
theorem vt{k:Nat}{l:List (Nat×Nat)}(h:sizes l<=59):(sectB k l).length=64:=vr (uu h)
theorem yJ(w:World)(A B C:Obj):let W:=((w.alloc A).alloc B).alloc C
  W.heap[w.heap.size]?=some A/\W.heap[w.heap.size+1]?=some B/\W.heap[w.heap.size+1+1]?=some C/\W.heap.size=w.heap.size+3/\Upd (fun _=>False) w W:=by
 refine⟨?_,?_,zc _ _ oe,oe,(((uur _ w).alloc _).alloc _).alloc _⟩
 .rw [qxk _ _ _ jZ,qxk _ _ _ oe];exact zc w _ rfl
 .rw [qxk _ _ _ oe];exact zc _ _ oe
open Go Go.RowKit Go.ChangeShapes Go.WideShapes Go.ChangeAt Tryz
section
variable{H:Type}{enc:TypeId×Value->H}{P:Program}
theorem sk(hl:laidOutB P=true){W W':World}(hb:Below W.heap.size W W'):∀(ts:List TypeId) (vs:List Value) (ds:List (DataW H)) (ps:List MemPlace),
  (∀t∈ts,P.readableRec t=true/\t<P.types.size)->DataW.TrodAll enc P W 0 (fun _=>true) true ts vs ds ps->(∀x∈ps,x.block<W.heap.size)->
  DataW.TrodAll enc P W' 0 (fun b=>decide (b<W.heap.size)) true ts vs ds ps:=by
 intro ts
 induction ts with
 |nil=>
  intro vs ds ps _ h _;cases vs<;>cases ds<;>simp[DataW.TrodAll]at h⊢
  exact h
 |cons t ts ih=>
  intro vs ds ps ht h hlt;cases vs<;>cases ds<;>simp only[DataW.TrodAll]at h⊢
  obtain⟨p,q,h1,h2,rfl⟩:=h;obtain⟨hr,hs⟩:=ht t oe;exact⟨p,q,Below.trod hl hr hs h1 hb (fun x hx=>hlt x (by simp[hx])),ih _ _ _ (fun t' ht'=>ht t' (by simp[ht'])) h2 (fun x hx=>hlt x (by simp[hx])),rfl⟩
theorem Qs{f:Func}{s:ChangeSpec}{W W':World}{args:Array Value}{ds gs:List (DataW H)}{before:List MemPlace}{T:TypeId}
  (hl:laidOutB P=true) (hts:f.params.toList.all (fun t=>P.readableRec t&&decide (t<P.types.size))=true)
  (hres:f.resultTypes= #[T]) (hbool:P.underlying T=some .bool) (hvars:s.vars=[])
  (hfn:s.fn H (ds++gs)={results:=[.lit (.bool true)],args:=ds})
  (hW:DataW.Whole enc P f.params.toList s.vars false W args.toList ds gs before) (hb:Below W.heap.size W W'):
  s.post enc P f false true false false W args (.bool true) W':=by
 have hlt:∀x∈before,x.block<W.heap.size:=fun x hx=>by simpa using hW.lt x hx
 have hW':=hW;obtain⟨p,q,hA,hV,rfl,hz,hn⟩:=hW;rw[hvars]at hV;refine⟨ds,gs,p++q,[],p,[],hW',?_,?_,?_,hb.frame _,fun h=>by cases h⟩
 .rw [hres,hfn];exact trodAll_cons_mk (shut_bool hbool true) trodAll_mk0
 .rw [hfn];exact sk hl hb _ _ _ _ (fun t ht=>by have:=qxw.1 hts t ht;simpa using this) hA (fun x hx=>hlt x (by simp[hx]))
 .rw [hvars,hfn];rfl
theorem wn{α:Type}{f:α->List Value}{k:Nat}(hf:∀a,(f a).length=k):∀(l:List α) (i j:Nat),j<k->∀a,l[i]?=some a->(l.flatMap f)[i*k+j]?=(f a)[j]?:=by
 intro l
 induction l with
 |nil=>intro i j _ a h;simp at h
 |cons b l ih=>
  intro i j hj a h;cases i with
  |zero=>simp at h;subst h;rw[qyg,qYg,qYe,qyi (by rw[hf];exact hj)]
  |succ i=>
   simp at h;have e:(i+1)*k+j-(f b).length=i*k+j:=by rw[hf,Nat.add_mul];omega
   rw[qyg,qyj (by rw[hf,Nat.add_mul];omega),e];exact ih i j hj a h
theorem yK{α:Type}{f:α->List Value}{k:Nat}(hf:∀a,(f a).length=k)(l:List α):(l.flatMap f).length=l.length*k:=by
 induction l with
 |nil=>simp
 |cons b l ih=>rw[qyg,qzd,ih,hf,qze,Nat.add_mul];omega
theorem Jk{α:Type}[Inhabited α](f:α->List Value)(φ:α->Prop){k:Nat}(hf:∀a,(f a).length=k)(hk:0<k){W:World}{base:Nat}{t e:TypeId}{v:Value}{d:DataW H}{p:List MemPlace}(ht:P.underlying t=some (.slice e))(hc:P.cellsOf e=k)
  (hel:∀(n:Nat) (cs:List Value) (x:DataW H×List MemPlace),DataW.trod enc P W 0 (fun _=>true) true n e cs=some x->∃a,cs=f a/\φ a)
  (hok:Value.okWide P W .any base t v) (h:DataW.Trod enc P W 0 (fun _=>true) true t v d p):
  ∃l:List α,Rd W k v l.length (l.flatMap f)/\∀a∈l,φ a:=by
 obtain⟨a0,len0,cap0,rfl⟩:=okWide_slice ht hok;obtain⟨fuel,hfu⟩:=h;rcases Deep.open_slice ht hfu with⟨hcs,hx⟩|⟨a,len,cap,m,n,D,Pl,hcs,_,hl,hm,hmm,hx,hcell⟩
 .simp only[Value.cells,List.cons.injEq,Value.slice.injEq,and_true]at hcs;obtain⟨rfl,rfl,rfl⟩:=hcs;exact⟨[],⟨oe,by simp[maxLen],none,0,rfl,fun _=>rfl,fun b hb=>by cases hb⟩,oe⟩
 .simp only[Value.cells,List.cons.injEq,Value.slice.injEq,and_true]at hcs;obtain⟨rfl,rfl,rfl⟩:=hcs;have hmc:m=cap0:=by simpa using hmm
  have hex:∀i,∃x:α,i<len0->W.cells? 0 (a.add (i*k)) k=some (f x)/\φ x:=by
   intro i;by_cases hi:i<len0
   .obtain ⟨cs',h1,h2⟩:=hcell i oM;obtain⟨x,rfl,hφ⟩:=hel _ _ _ h2;rw[hc]at h1;exact⟨x,fun _=>⟨h1,hφ⟩⟩
   .exact ⟨default,fun h=>absurd h hi⟩
  have hch:∃g:Nat->α,∀i,i<len0->W.cells? 0 (a.add (i*k)) k=some (f (g i))/\φ (g i):=⟨fun i=>Classical.choose (hex i),fun i=>Classical.choose_spec (hex i)⟩
  obtain⟨g,hg⟩:=hch;refine⟨(List.range len0).map g,⟨yK hf _,by simp;omega,some a,cap0,oe,(fun h=>by cases h),fun b hb j u hj=>?_⟩,?_⟩
  .cases hb;have hjl:=(qyp.1 hj).1;rw[yK hf,qzg,List.length_range]at hjl;have hi:j/k<len0:=(Nat.div_lt_iff_lt_mul hk).2 hjl;have hjk:j%k<k:=qYa _ hk;have he:j/k*k+j%k=j:=by rw[Nat.mul_comm];exact Nat.div_add_mod j k
   rw[<-he]at hj;rw[wn hf _ (j/k) (j%k) hjk (g (j/k)) (by simp[hi])]at hj;obtain⟨_,_,h3⟩:=World.cells?_some (hg _ hi).1;have h4:=h3 (j%k) hjk;rw[hj]at h4;have e2:(a.add (j/k*k)).add (j%k)=a.add j:=by
    have:∀(x y:Nat),(a.add x).add y=a.add (x+y):=by
     intro x y;unfold Addr.add;by_cases h1:x=0<;>by_cases h2:y=0<;>simp[h1,h2,Nat.add_assoc]
    rw[this,he]
   rw[<-e2];exact h4
  .intro x hx;obtain⟨i,hi,rfl⟩:=qzv.1 hx;exact(hg i ox).2
end
end
section
def numsAt(b:Bk):Nat->List Nat->List Nat
 |_,[]=>[]
 |p,s::ss=>numB ((b.drop p).take s)::numsAt b (p+s) ss
theorem zQ(b:Bk)(p:Nat)(ss:List Nat):(numsAt b p ss).length=ss.length:=by
 induction ss generalizing p with
 |nil=>rfl
 |cons s ss ih=>simp[numsAt,ih]
theorem Wm(b:Bk)(p:Nat)(ss:List Nat)(i:Nat)(hi:i<ss.length):(numsAt b p ss)[i]'(by rw[zQ];exact hi)=numB ((b.drop (p+(ss.take i).sum)).take ss[i]):=by
 induction ss generalizing p i with
 |nil=>simp at hi
 |cons s ss ih=>
  cases i with
  |zero=>simp[numsAt]
  |succ i=>
   simp only[numsAt,qyw,List.take_succ_cons,List.sum_cons];rw[ih (p+s) i ox,qXr]
theorem Qt(ss:List Nat){i:Nat}(hi:i<ss.length):(ss.take (i+1)).sum=(ss.take i).sum+ss[i]/\(ss.take i).sum+ss[i]<=ss.sum:=by
 have h:=congrArg List.sum (qXo (i+1) ss);rw[qXq hi]at h⊢;simp only[List.sum_append,List.sum_cons,List.sum_nil]at h⊢;omega
def natsI(l:List Nat):List Int:=l.map fun(n:Nat)=>(n:Int)
theorem sO{l:List Nat}{i:Nat}(h:i<l.length):(ints (natsI l))[i]?=some (.int .i64 (l[i]:Int)):=by
 rw[yt (by simpa[natsI]using h)];simp[natsI]
theorem Ay(n:Nat):madeCells #[Value.int .i64 0] (n*1)=(ints (List.replicate n 0)).toArray:=by
 apply Array.ext
 .simp [size_madeCells]
 .intro i h1 h2;have:i%1=0:=Nat.mod_one i;simp[madeCells,ints,this]
theorem Jl:(prog.info? 3).map (fun i=>(i.zero,i.size,i.bytes))=some (some (.int .i64 0),1,8):=kR
theorem YL(n:Nat)(hn:n<=100000)(w:World):(Instr.makeSlice 87 (.int .i64 n) (.int .i64 n)).run prog w=.ok (.slice (some ⟨w.heap.size,0,none⟩) n n) (w.alloc (.cells (ints (List.replicate n 0)).toArray 3)):=by
 obtain⟨i0,hi,hz0,hz1,hz2⟩:=qZa Jl;have:=run_make (P:=prog) w 87 3 i0 (.int .i64 0) underlying87 hi hz0 .i64 .i64 n n oM oM jH oM;rw[this];simp only[qxu,hz1,Value.cells];rw[Ay]
def fillI(l:List Nat)(i:Nat):List Int:=natsI (l.take i)++List.replicate (l.length-i) 0
theorem UL(l:List Nat){i:Nat}(hi:i<=l.length):(fillI l i).length=l.length:=by simp[fillI,natsI];omega
theorem UM(l:List Nat){i:Nat}(hi:i<l.length):(fillI l i).set i (l[i]:Int)=fillI l (i+1):=by
 unfold fillI;have h1:(natsI (l.take i)).length=i:=by simp[natsI];omega
 rw[qXj _ _ oM,h1,Nat.sub_self,show l.length-i=(l.length-(i+1))+1 by omega,List.replicate_succ,qXl,qXq hi];simp only[natsI,qzl,qzm,qzo,qxx,qya,qzz]
theorem UN(l:List Nat):fillI l l.length=natsI l:=by simp[fillI]
theorem YM(l:List Int)(i:Nat)(x:Int):(ints l).set i (.int .i64 x)=ints (l.set i x):=by simp[ints,List.map_set]
def okGet(b:Bk)(k:Nat)(ss:List Nat)(mb:Bool):Bool:=decide (sealB b=b)&&(decide (numB (b.take 1)=k)&&(endB b (1+ss.sum)&&mb))
def yO(b:Bk)(k:Nat)(ss:List Nat)(mb:Bool):Int:=if okGet b k ss mb=true then 0 else if sealB b=b then 12 else 13
def yy(w:World)(ok:Bool)(ds zs:List Value)(cd:Int)(e:Ending)(w':World):Prop:=
 (∃rs:List Value,(ok=true->rs=ds)/\(ok=false->rs=zs)/\e=.returned (.tuple #[.agg rs.toArray,.int .i64 cd]))/\Below w.heap.size w w'
theorem Wn{b:Bk}{k:Nat}{ss:List Nat}{mb:Bool}(h:sealB b≠b):okGet b k ss mb=false/\yO b k ss mb=13:=by
 have:okGet b k ss mb=false:=by simp[okGet,h]
 exact⟨this,by simp[yO,this,h]⟩
theorem qH{b:Bk}{k:Nat}{ss:List Nat}{mb:Bool}(hs:sealB b=b)(h:okGet b k ss mb=false):yO b k ss mb=12:=by simp[yO,h,hs]
def zS(W:World)(m:Nat)(xs:List Int)(e:Ending)(W':World):Prop:=∃g c,e=.returned (.slice (some ⟨g,0,none⟩) m c)/\m<=c/\c<=maxLen/\W'.rangeAt g 0 (ints xs)/\Below W.heap.size W W'
def numL(sz:List Nat)(xs:List Int):List (Nat×Nat):=(xs.map Int.toNat).zip sz
theorem qI{sz:List Nat}{xs:List Int}(h:xs.length=sz.length):(numL sz xs).length=sz.length:=by simp[numL,h]
theorem YN{sz:List Nat}{xs:List Int}(h:xs.length=sz.length):wP (numL sz xs)=natsI sz:=by
 unfold wP natsI numL;rw[show(fun(p:Nat×Nat)=>(p.2:Int))=(fun(n:Nat)=>(n:Int))∘Prod.snd from rfl,<-qzn,List.map_snd_zip (by simp[h])]
theorem wo{sz:List Nat}{xs:List Int}(h:xs.length=sz.length):sizes (numL sz xs)=sz.sum:=by
 unfold sizes numL;rw[List.map_snd_zip (by simp[h])]
theorem uT{sz:List Nat}{xs:List Int}(h:xs.length=sz.length)(h0:∀x∈xs,0<=x):numsL (numL sz xs)=xs:=by
 unfold numsL numL;rw[show(fun(p:Nat×Nat)=>(p.1:Int))=(fun(n:Nat)=>(n:Int))∘Prod.fst from rfl,<-qzn,List.map_fst_zip (by simp[h]),qzn]
 conv=>rhs;rw[<-List.map_id xs]
 exact List.map_congr_left (fun x hx=>by simp[Int.toNat_of_nonneg (h0 x hx)])
theorem uU{sz:List Nat}{xs:List Int}(h:xs.length=sz.length)(hs:sz.sum<=59)(hz:∀s∈sz,1<=s/\s<=7)(hb:∀i (h1:i<xs.length) (h2:i<sz.length),0<=xs[i]/\xs[i]<256^sz[i]):Zt (numL sz xs):=by
 refine⟨fun p hp=>?_,by rw[wo h];exact hs⟩;obtain⟨i,hi,rfl⟩:=qza hp;rw[qI h]at hi;have h1:i<xs.length:=oM;have:=hb i h1 hi;simp only[numL,List.getElem_zip,qyy];have h3:=hz sz[i] (qyz hi);refine⟨?_,h3.1,h3.2⟩;have h4:((256^sz[i]:Nat):Int)=(256:Int)^sz[i]:=oe;omega
structure Ent where
 b:Nat
 s:Nat
 d:Bool
 m:Nat
def Ent.none:Ent:=⟨0,0,false,0⟩
def bitN(d:Bool):Nat:=if d then 1 else 0
def entC(x:Ent):List Value:=[.int .i64 (x.b:Int),.int .i64 (x.s:Int),.bool x.d,.int .i64 (x.m:Int)]
def entN(x:Ent):List Nat:=[x.b,x.s,bitN x.d,x.m]
def pgC(seq no of many:Nat)(E:List Ent):List Value:=[.int .i64 (seq:Int),.int .i64 (no:Int),.int .i64 (of:Int),.int .i64 (many:Int)]++E.flatMap entC
def pgN(seq no of many:Nat)(E:List Ent):List Nat:=[seq,no,of,many]++E.flatMap entN
theorem qJ(x:Ent):(entC x).length=4:=rfl
theorem YO(x:Ent):∀v∈entC x,v.oneCell'=true:=by
 intro v hv;simp only[entC,qzr,qXd,qZb]at hv;rcases hv with rfl|rfl|rfl|rfl<;>rfl
theorem xT(E:List Ent):(E.flatMap entC).length=E.length*4:=yK (f:=entC) (fun _=>rfl) E
theorem Vy{E:List Ent}{i:Nat}(hi:i<E.length):((E.flatMap entC).drop (i*4)).take 4=entC (E.getD i Ent.none):=by
 induction E generalizing i with
 |nil=>simp at hi
 |cons x E ih=>
  cases i with
  |zero=>rfl
  |succ i=>
   rw[qyg,show(i+1)*4=(entC x).length+i*4 by rw[qJ];omega,List.drop_length_add_append];simpa using ih (i:=i) ox
theorem Vz(d:Bool)(w:World):Calls prog 251 #[.bool d] w fun e w'=>e=.returned (.int .i64 (bitN d:Int))/\w=w':=by
 cases d
 all_goals
  go_enter func251,ntmps251
  go_wp2
  go_ret
  exact⟨rfl,rfl⟩
theorem wQ:(prog.info? 280).map (·.size)=some 20:=kR
theorem Az:(prog.info? 278).map (·.size)=some 16:=kR
theorem Zu:(prog.info? 37).map (·.size)=some 4:=kR
theorem qK{E:List Ent}(hE:E.length=4){k:Nat}(hk:k<4)(w:World):
  (Instr.index 278 (.agg (E.flatMap entC).toArray) (.int .i64 (k:Int))).run prog w=.ok (.agg (entC (E.getD k Ent.none)).toArray) w:=by
 have hu:=underlying37;obtain⟨i,hi,hs⟩:=qYi.1 Zu;have hz:(Array.extract (E.flatMap entC).toArray (k*4) (k*4+4))=(entC (E.getD k Ent.none)).toArray:=by
  apply Array.toList_inj.1;rw[Array.toList_extract];simp only[List.extract];rw[show k*4+4-k*4=4 by omega];exact Vy oM
 have hz2:=Vy (E:=E) (i:=k) oM;simp[Instr.index,asIntOf,run_underlying underlying278,sizeOf,typeInfo,hi,hs,part,isAgg,run_underlying hu,hk,hz2]
theorem VA:(prog.info? 3).map (fun i=>(i.zero,i.size,i.bytes))=some (some (.int .i64 0),1,8):=kR
theorem EX{w:World}(seq no of many:Nat)(E:List Ent)(hE:E.length=4):
  Calls prog 307 #[.agg (pgC seq no of many E).toArray] w (zS w 20 (natsI (pgN seq no of many E))):=by
 obtain⟨i0,hi,hz0,hz1,hz2⟩:=qZa VA;obtain⟨L,hL⟩:=qqe ((pgC seq no of many E).toArray);have hg:=zc w (.cells L 280) rfl;have k0:(w.alloc (.cells L 280)).cell? ⟨w.heap.size,0,none⟩=some (.int .i64 (seq:Int)):=(za hg 0).trans oU;have k1:(w.alloc (.cells L 280)).cell? ⟨w.heap.size,1,none⟩=some (.int .i64 (no:Int)):=(za hg 1).trans oU;have k2:(w.alloc (.cells L 280)).cell? ⟨w.heap.size,2,none⟩=some (.int .i64 (of:Int)):=(za hg 2).trans oU;have k3:(w.alloc (.cells L 280)).cell? ⟨w.heap.size,3,none⟩=some (.int .i64 (many:Int)):=(za hg 3).trans oU;have hr:(w.alloc (.cells L 280)).rangeAt w.heap.size 4 (E.flatMap entC):=fun j v hv=>by
  rw[za hg,hL,qyv,pgC,qyj oe];rw[<-hv];congr 1;simp
 have hsz:(prog.info? 278).map (·.size)=some (E.flatMap entC).length:=by rw[xT,hE];exact Az
 have hix:=fun(k:Nat) (hk:k<4) (w:World)=>qK hE hk w;have HI:=Y2 hix hE;rw[<-hL];have hR:=qYp hr (.cells #[.int .i64 (seq:Int),.int .i64 (no:Int),.int .i64 (of:Int),.int .i64 (many:Int)] 3);have HL:=qqh hL;clear hL hix hE hg hr;go_enter func307,ntmps307
 go_wp2_with (first
  |refine qZg rfl _ _ rfl _ _ rfl _ _ hR underlying278 rfl hsz ?_
  |fail)
 have hrow:(w.alloc (.cells L 280)).alloc (.cells #[.int .i64 (seq:Int),.int .i64 (no:Int),.int .i64 (of:Int),.int .i64 (many:Int)] 3)=(w.alloc (.cells L 280)).alloc (.cells #[.int .i64 (seq:Int),.int .i64 (no:Int),.int .i64 (of:Int),.int .i64 (many:Int)] 3):=rfl;have hown:((w.alloc (.cells L 280)).alloc (.cells #[.int .i64 (seq:Int),.int .i64 (no:Int),.int .i64 (of:Int),.int .i64 (many:Int)] 3)).ownsRow w.heap.size 3 1 (.slice (some ⟨w.heap.size+1,0,none⟩) 4 4) 4 (ints (natsI ([seq,no,of,many]++(E.take 0).flatMap entN))):=by
  refine⟨by simp[natsI],.inr ⟨w.heap.size+1,4,_,rfl,oM,zc _ _ oe,oM,by unfold maxLen;omega,oe,by simp[natsI,ints]⟩⟩
 have hB:Below w.heap.size w ((w.alloc (.cells L 280)).alloc (.cells #[.int .i64 (seq:Int),.int .i64 (no:Int),.int .i64 (of:Int),.int .i64 (many:Int)] 3)):=((qxl _ w).alloc (qXv _) _).alloc oe _;generalize (w.alloc (.cells L 280)).alloc (.cells #[.int .i64 (seq:Int),.int .i64 (no:Int),.int .i64 (of:Int),.int .i64 (many:Int)] 3)=w2 at*;have HO:=Y2 hown hB;clear hown hB hR hsz k0 k1 k2 k3 hrow;go_loopw[3,17] (fun s3 s17 wr=>∃k:Nat,k<=4/\s17=.int .i64 k/\wr.ownsRow w.heap.size 3 1 s3 (4+4*k) (ints (natsI ([seq,no,of,many]++(E.take k).flatMap entN)))/\Below w.heap.size w wr) (fun _ s17 _=>4-(intOf s17).toNat)
 case atStart=>exact⟨0,oM,rfl,HO.o.1,HO.o.2⟩
 case round=>
  obtain⟨k,hk,rfl,hown,hb⟩:=hrel;by_cases hlt:k<4
  .have hEk:=HI.o.1 k hlt;have hts:Hid ((E.take (k+1)).flatMap entN=(E.take k).flatMap entN++entN (E.getD k Ent.none)):=by
    show _=_;have hk2:k<E.length:=by have:=HI.o.2;omega
    rw[qXq hk2,qyf];simp[List.getD_eq_getElem?_getD,hk2]
   generalize E.getD k Ent.none=x at*;obtain⟨xb,xs,xd,xm⟩:=x;have hXL:Hid ((entC ⟨xb,xs,xd,xm⟩).toArray= #[Value.int .i64 (xb:Int),.int .i64 (xs:Int),.bool xd,.int .i64 (xm:Int)]):=rfl;rw[hXL.out]at hEk;have b1:(0:Int)<=(k:Int):=oM;have b2:(k:Int)<4:=oM;have hO:=Y2 hown hb;have hg3:=zc wr (.cells #[Value.int .i64 (xb:Int),.int .i64 (xs:Int),.bool xd,.int .i64 (xm:Int)] 37) rfl;have hown3:=hO.out.1.alloc (.cells #[Value.int .i64 (xb:Int),.int .i64 (xs:Int),.bool xd,.int .i64 (xm:Int)] 37);have hb3:=hO.out.2.alloc hO.out.2.size (.cells #[Value.int .i64 (xb:Int),.int .i64 (xs:Int),.bool xd,.int .i64 (xm:Int)] 37);have hnm:¬u3.ownBlock=some wr.heap.size:=fun e=>by have:=(hO.out.1.lt _ e).2;omega
   clear hown hb;go_wp2
   generalize wr.alloc (.cells #[Value.int .i64 (xb:Int),.int .i64 (xs:Int),.bool xd,.int .i64 (xm:Int)] 37)=w3 at*;generalize wr.heap.size=m at*;have k0:w3.cell? ⟨m,0,none⟩=some (.int .i64 (xb:Int)):=za hg3 0;have k1:w3.cell? ⟨m,1,none⟩=some (.int .i64 (xs:Int)):=za hg3 1;have k2:w3.cell? ⟨m,2,none⟩=some (.bool xd):=za hg3 2;have k3:w3.cell? ⟨m,3,none⟩=some (.int .i64 (xm:Int)):=za hg3 3;have hownA:=(hown3.alloc (.cells #[Value.int .i64 (xb:Int),.int .i64 (xs:Int),.int .i64 (bitN xd:Int),.int .i64 (xm:Int)] 3)).drew;have hbA:Below w.heap.size w (w3.alloc (.cells #[Value.int .i64 (xb:Int),.int .i64 (xs:Int),.int .i64 (bitN xd:Int),.int .i64 (xm:Int)] 3)).drew:=zR (hb3.alloc hb3.size _) 1;have hgA:(w3.alloc (.cells #[Value.int .i64 (xb:Int),.int .i64 (xs:Int),.int .i64 (bitN xd:Int),.int .i64 (xm:Int)] 3)).drew.heap[w3.heap.size]?=_:=zc w3 (.cells #[Value.int .i64 (xb:Int),.int .i64 (xs:Int),.int .i64 (bitN xd:Int),.int .i64 (xm:Int)] 3) rfl;obtain⟨v',w1,hrun,ho1,hgr,-⟩:=run_append_own (P:=prog) (w:=(w3.alloc (.cells #[Value.int .i64 (xb:Int),.int .i64 (xs:Int),.int .i64 (bitN xd:Int),.int .i64 (xm:Int)] 3)).drew) w.heap.size 87 87 3 i0 (.int .i64 0) 1 8 underlying87 hi hz0 hz1 hz2 rfl de u3 (4+4*k) _ hownA ⟨w3.heap.size,0,none⟩ 4 4 [.int .i64 (xb:Int),.int .i64 (xs:Int),.int .i64 (bitN xd:Int),.int .i64 (xm:Int)] rfl
    (fun j u hj=>by rw[qxa,za hgA];simpa using hj) jd og oM hbA.size
   have hb1:Below w.heap.size w w1:=zk hbA (Upd.kB (S:=fun j=>w.heap.size<=j) hgr (fun g hg _=>(hownA.lt g hg).1)) (qXv _) (fun k h=>h);have hgu:Upd (fun j=>u3.ownBlock=some j) _ w1:=Upd.kB (S:=fun j=>u3.ownBlock=some j) hgr (fun g hg _=>hg);have q0:=hgu.j4 (w:=(w3.alloc (.cells #[Value.int .i64 (xb:Int),.int .i64 (xs:Int),.int .i64 (bitN xd:Int),.int .i64 (xm:Int)] 3)).drew) (zm k0 _) hnm;have q1:=hgu.j4 (w:=(w3.alloc (.cells #[Value.int .i64 (xb:Int),.int .i64 (xs:Int),.int .i64 (bitN xd:Int),.int .i64 (xm:Int)] 3)).drew) (zm k1 _) hnm;have q2:=hgu.j4 (w:=(w3.alloc (.cells #[Value.int .i64 (xb:Int),.int .i64 (xs:Int),.int .i64 (bitN xd:Int),.int .i64 (xm:Int)] 3)).drew) (zm k2 _) hnm;have q3:=hgu.j4 (w:=(w3.alloc (.cells #[Value.int .i64 (xb:Int),.int .i64 (xs:Int),.int .i64 (bitN xd:Int),.int .i64 (xm:Int)] 3)).drew) (zm k3 _) hnm;have HF:=Y2 ho1 hb1;clear hownA hbA hgA ho1 hgr hb1 hown3 hb3 hg3 hEk hgu
   go_region_held3 (fun W=>W.cell? ⟨m,0,none⟩=some (.int .i64 (xb:Int))/\W.cell? ⟨m,1,none⟩=some (.int .i64 (xs:Int))/\W.cell? ⟨m,2,none⟩=some (.bool xd)/\W.cell? ⟨m,3,none⟩=some (.int .i64 (xm:Int)))
    ((go_split_ands;(simp only[qYo]at*);((repeat' constructor)<;>first|assumption|(apply zm;assumption)|exact trivial)))
    (first|(go_at_call 251;refine(Vz _ _).mono ?_;rintro e w' ⟨rfl,rfl⟩)|(refine zJ rfl _ _ _ rfl rfl rfl hrun ?_))
   go_wp2
   go_roundw
   case rel=>
    refine⟨k+1,oM,by go_num,?_,HF.o.2⟩;have:=HF.o.1;rw[hts.out,show 4+4*(k+1)=4+4*k+4 by omega];simpa[ints,natsI,entN]using this
   case measure=>simp[intOf];omega
  .obtain rfl:k=4:=oM;have HX:=Y2 hown hb;clear hown hb;go_wp2
   go_ret
   obtain⟨hown,hb⟩:=HX.o;rw[qXp (by have:=HI.o.2;omega)]at hown;obtain⟨hl,⟨_,h0⟩|⟨g,cap,cur,rfl,-,hg,hn,hcm,hs,ht⟩⟩:=hown
   .omega
   .refine ⟨g,cap,rfl,hn,hcm,fun j v hv=>?_,hb⟩;rw[za hg,<-Array.getElem?_toList];have hv':(cur.toList.take ((4+4*4)*1))[j]?=some v:=by rw[ht];exact hv
    rw[qyu]at hv';split at hv'
    .simpa using hv'
    .cases hv'
def bndR:List (Int×Int):=[(1,1099511627776),(0,1099511627776),(0,1),(0,4095),(0,1023),(0,1),(0,4294967295)]
def mayR(xs:List Int):Bool:=withinB bndR xs&&(decide (xs.getD 2 0=0)||(decide (xs.getD 4 0=0)&&decide (xs.getD 5 0=0)&&decide (xs.getD 6 0=0)))
theorem yA{w:World}{g o:Nat}{xs:List Int}(hr:w.rangeAt g o (ints xs))(i:Nat)(hi:i<xs.length):w.cell? ⟨g,o+i,none⟩=some (.int .i64 (xs.getD i 0)):=by
 rw[yR hr (i:=i) hi];simp[List.getD_eq_getElem?_getD,hi]
theorem qL{w:World}{gl ol cl gt:Nat}{v:Value}(xs:List Int)(hxl:xs.length=7)(_hcl:7<=cl)(_hcm:cl<=maxLen)(hv:w.cell? ⟨gt,0,none⟩=some v)(hB:Bnd w v bndR)(hx:w.rangeAt gl ol (ints xs)):
  Calls prog 252 #[.slice (some ⟨gl,ol,none⟩) 7 cl,.pointer (some ⟨gt,0,none⟩)] w fun e w'=>e=.returned (.bool (mayR xs))/\Below w.heap.size w w':=by
 obtain⟨g,h,cc,rfl,hc,hr⟩:=hB;have HW:=qqh (yS (cl:=cl) bndR xs hc hr hx hxl (by show 7<=7;decide) de);have HM:Hid (mayR xs=(withinB bndR xs&&(decide (xs.getD 2 0=0)||(decide (xs.getD 4 0=0)&&decide (xs.getD 5 0=0)&&decide (xs.getD 6 0=0))))):=rfl;have HC:=Y4 (yA hx 2 oM) (yA hx 4 oM) (yA hx 5 oM) (yA hx 6 oM);generalize xs.getD 2 0=x2 at HM HC;generalize xs.getD 4 0=x4 at HM HC;generalize xs.getD 5 0=x5 at HM HC;generalize xs.getD 6 0=x6 at HM HC;clear hx hr hc hxl;go_enter func252,ntmps252
 go_wp2_with fail
 refine HW.o.mono ?_;rintro e w' ⟨rfl,hb⟩;have hu:=uuo (S:=fun _=>False) hb;have c2:=hu.j4 HC.o.1 id;have c4:=hu.j4 HC.o.2.1 id;have c5:=hu.j4 HC.o.2.2.1 id;have c6:=hu.j4 HC.o.2.2.2 id;have HB:=qqh hb;clear hu hb;generalize withinB bndR xs=wb at HM⊢;cases wb with
 |false=>
  clear c2 c4 c5 c6;go_wp2
  go_ret
  exact⟨by rw[HM.o];rfl,HB.o⟩
 |true=>
  by_cases h2:x2=0
  .subst h2;clear c4 c5 c6;go_wp2
   go_ret
   exact⟨by rw[HM.o];rfl,HB.o⟩
  .have q2:(x2==0)=false:=by simpa using h2
   have H2:=qqh h2;clear h2;by_cases h4:x4=0
   .subst h4;by_cases h5:x5=0
    .subst h5;go_wp2
     go_ret
     refine⟨?_,HB.o⟩;rw[HM.o];simp[H2.o];by_cases h6:x6=0<;>simp[h6]
    .have q5:(x5==0)=false:=by simpa using h5
     have H5:=qqh h5;clear h5 c6;go_wp2
     go_ret
     refine⟨?_,HB.o⟩;rw[HM.o];simp[H2.o,H5.o]
   .have q4:(x4==0)=false:=by simpa using h4
    have H4:=qqh h4;clear h4 c5 c6;go_wp2
    go_ret
    refine⟨?_,HB.o⟩;rw[HM.o];simp[H2.o,H4.o]
theorem zH{B:List (Int×Int)}{xs:List Int}(h:withinB B xs=true){i:Nat}(h1:i<B.length)(h2:i<xs.length):B[i].1<=xs[i]/\xs[i]<=B[i].2:=by
 have h:=qxw.1 h (B[i],xs[i]) (List.mem_iff_getElem.2 ⟨i,by simp;omega,oe⟩);simpa[inB]using h
theorem uV{xs:List Int}(hx:xs.length=7)(h:mayR xs=true):(∀x∈xs,0<=x)/\Zt (numL [6,6,1,2,2,1,4] xs):=by
 simp only[mayR,qxo]at h;obtain⟨h1,-⟩:=h;have a0:=zH h1 (i:=0) de oM;have a1:=zH h1 (i:=1) de oM;have a2:=zH h1 (i:=2) de oM;have a3:=zH h1 (i:=3) de oM;have a4:=zH h1 (i:=4) de oM;have a5:=zH h1 (i:=5) de oM;have a6:=zH h1 (i:=6) de oM;simp[bndR]at a0 a1 a2 a3 a4 a5 a6;have hb:∀i (h1:i<xs.length) (h2:i<[6,6,1,2,2,1,4].length),0<=xs[i]/\xs[i]<256^[6,6,1,2,2,1,4][i]:=by
  intro i hi hi2;rcases i with _|_|_|_|_|_|_|i
  all_goals first|(simp at hi2;omega)|(simp;omega)
 refine⟨fun x hx'=>?_,uU jX de de hb⟩;obtain⟨i,hi,rfl⟩:=qza hx';exact(hb i hi (by rw[hx]at hi;exact hi)).1
end
end Go.Proofs.YtfhfbpmlnjdfoaaGreatDoor
