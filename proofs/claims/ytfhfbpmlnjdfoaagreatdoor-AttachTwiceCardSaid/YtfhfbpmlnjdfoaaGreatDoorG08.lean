/- The intent tha -/
import Derived.Test.YtfhfbpmlnjdfoaaGreatDoorG07
import Derived.Laws.Cover3
set_option maxRecDepth 100000
set_option maxHeartbeats 2000000
namespace Go.Proofs.YtfhfbpmlnjdfoaaGreatDoor
open Go Go.RowKit Tryz
def numsAt(b:Bk):Nat->List Nat->List Nat
 |_,[]=>[]
 |p,s::ss=>numB ((b.drop p).take s)::numsAt b (p+s) ss
theorem zP(b:Bk)(p:Nat)(ss:List Nat):(numsAt b p ss).length=ss.length:=by
 induction ss generalizing p with
 |nil=>rfl
 |cons s ss ih=>simp[numsAt,ih]
theorem XX(b:Bk)(p:Nat)(ss:List Nat)(i:Nat)(hi:i<ss.length):(numsAt b p ss)[i]'(by rw[zP];exact hi)=numB ((b.drop (p+(ss.take i).sum)).take ss[i]):=by
 induction ss generalizing p i with
 |nil=>simp at hi
 |cons s ss ih=>
  cases i with
  |zero=>simp[numsAt]
  |succ i=>
   simp only[numsAt,qyw,List.take_succ_cons,List.sum_cons];rw[ih (p+s) i (by simpa using hi),qXr]
theorem Qg(ss:List Nat){i:Nat}(hi:i<ss.length):(ss.take (i+1)).sum=(ss.take i).sum+ss[i]/\(ss.take i).sum+ss[i]<=ss.sum:=by
 have h:=congrArg List.sum (qXo (i+1) ss);rw[qXq hi]at h⊢;simp only[List.sum_append,List.sum_cons,List.sum_nil]at h⊢;omega
def natsI(l:List Nat):List Int:=l.map fun(n:Nat)=>(n:Int)
theorem sI{l:List Nat}{i:Nat}(h:i<l.length):(ints (natsI l))[i]?=some (.int .i64 (l[i]:Int)):=by
 rw[yt (by simpa[natsI]using h)];simp[natsI]
theorem Ac(n:Nat):madeCells #[Value.int .i64 0] (n*1)=(ints (List.replicate n 0)).toArray:=by
 apply Array.ext
 .simp [size_madeCells]
 .intro i h1 h2;have:i%1=0:=Nat.mod_one i;simp[madeCells,ints,this]
theorem SW:(prog.info? 3).map (fun i=>(i.zero,i.size,i.bytes))=some (some (.int .i64 0),1,8):=by kernel_rfl
theorem YB(n:Nat)(hn:n<=100000)(w:World):(Instr.makeSlice 87 (.int .i64 n) (.int .i64 n)).run prog w=.ok (.slice (some ⟨w.heap.size,0,none⟩) n n) (w.alloc (.cells (ints (List.replicate n 0)).toArray 3)):=by
 obtain⟨i0,hi,hz0,hz1,hz2⟩:=qZa SW;have:=run_make (P:=prog) w 87 3 i0 (.int .i64 0) underlying87 hi hz0 .i64 .i64 n n (by omega) (by omega) (by rw[hz2];omega) (by omega);rw[this];simp only[qxu,hz1,Value.cells];rw[Ac]
def fillI(l:List Nat)(i:Nat):List Int:=natsI (l.take i)++List.replicate (l.length-i) 0
theorem Uu(l:List Nat){i:Nat}(hi:i<=l.length):(fillI l i).length=l.length:=by simp[fillI,natsI];omega
theorem Uv(l:List Nat){i:Nat}(hi:i<l.length):(fillI l i).set i (l[i]:Int)=fillI l (i+1):=by
 unfold fillI;have h1:(natsI (l.take i)).length=i:=by simp[natsI];omega
 rw[qXj _ _ (by omega),h1,Nat.sub_self,show l.length-i=(l.length-(i+1))+1 by omega,List.replicate_succ,qXl,qXq hi];simp only[natsI,qzl,qzm,qzo,qxx,qya,qzz]
theorem Uw(l:List Nat):fillI l l.length=natsI l:=by simp[fillI]
theorem YC(l:List Int)(i:Nat)(x:Int):(ints l).set i (.int .i64 x)=ints (l.set i x):=by simp[ints,List.map_set]
def okGet(b:Bk)(k:Nat)(ss:List Nat)(mb:Bool):Bool:=decide (sealB b=b)&&(decide (numB (b.take 1)=k)&&(endB b (1+ss.sum)&&mb))
def xe(b:Bk)(k:Nat)(ss:List Nat)(mb:Bool):Int:=if okGet b k ss mb=true then 0 else if sealB b=b then 12 else 13
def vl(w:World)(ok:Bool)(ds zs:List Value)(cd:Int)(e:Ending)(w':World):Prop:=
 (∃rs:List Value,(ok=true->rs=ds)/\(ok=false->rs=zs)/\e=.returned (.tuple #[.agg rs.toArray,.int .i64 cd]))/\Below w.heap.size w w'
theorem XY{b:Bk}{k:Nat}{ss:List Nat}{mb:Bool}(h:sealB b≠b):okGet b k ss mb=false/\xe b k ss mb=13:=by
 have:okGet b k ss mb=false:=by simp[okGet,h]
 exact⟨this,by simp[xe,this,h]⟩
theorem qD{b:Bk}{k:Nat}{ss:List Nat}{mb:Bool}(hs:sealB b=b)(h:okGet b k ss mb=false):xe b k ss mb=12:=by simp[xe,h,hs]
def zQ(W:World)(m:Nat)(xs:List Int)(e:Ending)(W':World):Prop:=∃g c,e=.returned (.slice (some ⟨g,0,none⟩) m c)/\m<=c/\c<=maxLen/\W'.rangeAt g 0 (ints xs)/\Below W.heap.size W W'
def numL(sz:List Nat)(xs:List Int):List (Nat×Nat):=(xs.map Int.toNat).zip sz
theorem qE{sz:List Nat}{xs:List Int}(h:xs.length=sz.length):(numL sz xs).length=sz.length:=by simp[numL,h]
theorem YD{sz:List Nat}{xs:List Int}(h:xs.length=sz.length):wJ (numL sz xs)=natsI sz:=by
 unfold wJ natsI numL;rw[show(fun(p:Nat×Nat)=>(p.2:Int))=(fun(n:Nat)=>(n:Int))∘Prod.snd from rfl,<-qzn,List.map_snd_zip (by simp[h])]
theorem wk{sz:List Nat}{xs:List Int}(h:xs.length=sz.length):sizes (numL sz xs)=sz.sum:=by
 unfold sizes numL;rw[List.map_snd_zip (by simp[h])]
theorem uJ{sz:List Nat}{xs:List Int}(h:xs.length=sz.length)(h0:∀x∈xs,0<=x):numsL (numL sz xs)=xs:=by
 unfold numsL numL;rw[show(fun(p:Nat×Nat)=>(p.1:Int))=(fun(n:Nat)=>(n:Int))∘Prod.fst from rfl,<-qzn,List.map_fst_zip (by simp[h]),qzn]
 conv=>rhs;rw[<-List.map_id xs]
 exact List.map_congr_left (fun x hx=>by simp[Int.toNat_of_nonneg (h0 x hx)])
theorem uK{sz:List Nat}{xs:List Int}(h:xs.length=sz.length)(hs:sz.sum<=59)(hz:∀s∈sz,1<=s/\s<=7)(hb:∀i (h1:i<xs.length) (h2:i<sz.length),0<=xs[i]/\xs[i]<256^sz[i]):Zo (numL sz xs):=by
 refine⟨fun p hp=>?_,by rw[wk h];exact hs⟩;obtain⟨i,hi,rfl⟩:=qza hp;rw[qE h]at hi;have h1:i<xs.length:=by omega
 have:=hb i h1 hi;simp only[numL,List.getElem_zip,qyy];have h3:=hz sz[i] (qyz hi);refine⟨?_,h3.1,h3.2⟩;have h4:((256^sz[i]:Nat):Int)=(256:Int)^sz[i]:=by simp
 omega
structure Ent where
 b:Nat
 s:Nat
 d:Bool
 m:Nat
def Ent.none:Ent:=⟨0,0,false,0⟩
def bitN(d:Bool):Nat:=if d then 1 else 0
def entC(x:Ent):List Value:=[.int .i64 (x.b:Int),.int .i64 (x.s:Int),.bool x.d,.int .i64 (x.m:Int)]
def entN(x:Ent):List Nat:=[x.b,x.s,bitN x.d,x.m]
def pgC(seq no of many:Nat)(E:List Ent):List Value:=[.int .i64 (seq:Int),.int .i64 (no:Int),.int .i64 (of:Int),.int .i64 (many:Int)]++E.flatMap entC
def pgN(seq no of many:Nat)(E:List Ent):List Nat:=[seq,no,of,many]++E.flatMap entN
theorem qF(x:Ent):(entC x).length=4:=rfl
theorem YE(x:Ent):∀v∈entC x,v.oneCell'=true:=by
 intro v hv;simp only[entC,qzr,qXd,qZb]at hv;rcases hv with rfl|rfl|rfl|rfl<;>rfl
theorem xR(E:List Ent):(E.flatMap entC).length=E.length*4:=yG (f:=entC) (fun _=>rfl) E
theorem Vp{E:List Ent}{i:Nat}(hi:i<E.length):((E.flatMap entC).drop (i*4)).take 4=entC (E.getD i Ent.none):=by
 induction E generalizing i with
 |nil=>simp at hi
 |cons x E ih=>
  cases i with
  |zero=>rfl
  |succ i=>
   rw[qyg,show(i+1)*4=(entC x).length+i*4 by rw[qF];omega,List.drop_length_add_append];simpa using ih (i:=i) (by simpa using hi)
theorem Vq(d:Bool)(w:World):Calls prog 251 #[.bool d] w fun e w'=>e=.returned (.int .i64 (bitN d:Int))/\w=w':=by
 cases d
 all_goals
  go_enter func251,ntmps251
  go_wp2
  go_ret
  exact⟨rfl,rfl⟩
theorem wK:(prog.info? 280).map (·.size)=some 20:=by kernel_rfl
theorem Ad:(prog.info? 278).map (·.size)=some 16:=by kernel_rfl
theorem Zp:(prog.info? 37).map (·.size)=some 4:=by kernel_rfl
theorem qG{E:List Ent}(hE:E.length=4){k:Nat}(hk:k<4)(w:World):
  (Instr.index 278 (.agg (E.flatMap entC).toArray) (.int .i64 (k:Int))).run prog w=.ok (.agg (entC (E.getD k Ent.none)).toArray) w:=by
 have hu:=underlying37;obtain⟨i,hi,hs⟩:=qYi.1 Zp;have hz:(Array.extract (E.flatMap entC).toArray (k*4) (k*4+4))=(entC (E.getD k Ent.none)).toArray:=by
  apply Array.toList_inj.1;rw[Array.toList_extract];simp only[List.extract];rw[show k*4+4-k*4=4 by omega];exact Vp (by omega)
 have hz2:=Vp (E:=E) (i:=k) (by omega);simp[Instr.index,asIntOf,run_underlying underlying278,sizeOf,typeInfo,hi,hs,part,isAgg,run_underlying hu,hk,hz2]
theorem Vr:(prog.info? 3).map (fun i=>(i.zero,i.size,i.bytes))=some (some (.int .i64 0),1,8):=by kernel_rfl
theorem EC{w:World}(seq no of many:Nat)(E:List Ent)(hE:E.length=4):
  Calls prog 307 #[.agg (pgC seq no of many E).toArray] w (zQ w 20 (natsI (pgN seq no of many E))):=by
 obtain⟨i0,hi,hz0,hz1,hz2⟩:=qZa Vr;obtain⟨L,hL⟩:=qqe ((pgC seq no of many E).toArray);have hg:=zc w (.cells L 280) rfl;have k0:(w.alloc (.cells L 280)).cell? ⟨w.heap.size,0,none⟩=some (.int .i64 (seq:Int)):=(za hg 0).trans (by rw[hL];rfl);have k1:(w.alloc (.cells L 280)).cell? ⟨w.heap.size,1,none⟩=some (.int .i64 (no:Int)):=(za hg 1).trans (by rw[hL];rfl);have k2:(w.alloc (.cells L 280)).cell? ⟨w.heap.size,2,none⟩=some (.int .i64 (of:Int)):=(za hg 2).trans (by rw[hL];rfl);have k3:(w.alloc (.cells L 280)).cell? ⟨w.heap.size,3,none⟩=some (.int .i64 (many:Int)):=(za hg 3).trans (by rw[hL];rfl);have hr:(w.alloc (.cells L 280)).rangeAt w.heap.size 4 (E.flatMap entC):=fun j v hv=>by
  rw[za hg,hL,qyv,pgC,qyj (by simp)];rw[<-hv];congr 1;simp
 have hsz:(prog.info? 278).map (·.size)=some (E.flatMap entC).length:=by rw[xR,hE];exact Ad
 have hix:=fun(k:Nat) (hk:k<4) (w:World)=>qG hE hk w;have HI:=Y2 hix hE;rw[<-hL];have hR:=qYp hr (.cells #[.int .i64 (seq:Int),.int .i64 (no:Int),.int .i64 (of:Int),.int .i64 (many:Int)] 3);have HL:=qqh hL;clear hL hix hE hg hr;go_enter func307,ntmps307
 go_wp2_with (first
  |refine qZg rfl _ _ rfl _ _ rfl _ _ hR underlying278 rfl hsz ?_
  |fail)
 have hrow:(w.alloc (.cells L 280)).alloc (.cells #[.int .i64 (seq:Int),.int .i64 (no:Int),.int .i64 (of:Int),.int .i64 (many:Int)] 3)=(w.alloc (.cells L 280)).alloc (.cells #[.int .i64 (seq:Int),.int .i64 (no:Int),.int .i64 (of:Int),.int .i64 (many:Int)] 3):=rfl;have hown:((w.alloc (.cells L 280)).alloc (.cells #[.int .i64 (seq:Int),.int .i64 (no:Int),.int .i64 (of:Int),.int .i64 (many:Int)] 3)).ownsRow w.heap.size 3 1 (.slice (some ⟨w.heap.size+1,0,none⟩) 4 4) 4 (ints (natsI ([seq,no,of,many]++(E.take 0).flatMap entN))):=by
  refine⟨by simp[natsI],.inr ⟨w.heap.size+1,4,_,rfl,by omega,zc _ _ (by simp),by omega,by unfold maxLen;omega,by simp,by simp[natsI,ints]⟩⟩
 have hB:Below w.heap.size w ((w.alloc (.cells L 280)).alloc (.cells #[.int .i64 (seq:Int),.int .i64 (no:Int),.int .i64 (of:Int),.int .i64 (many:Int)] 3)):=((qxl _ w).alloc (qXv _) _).alloc (by simp) _;generalize (w.alloc (.cells L 280)).alloc (.cells #[.int .i64 (seq:Int),.int .i64 (no:Int),.int .i64 (of:Int),.int .i64 (many:Int)] 3)=w2 at*;have HO:=Y2 hown hB;clear hown hB hR hsz k0 k1 k2 k3 hrow;go_loopw[3,17] (fun s3 s17 wr=>∃k:Nat,k<=4/\s17=.int .i64 k/\wr.ownsRow w.heap.size 3 1 s3 (4+4*k) (ints (natsI ([seq,no,of,many]++(E.take k).flatMap entN)))/\Below w.heap.size w wr) (fun _ s17 _=>4-(intOf s17).toNat)
 case atStart=>exact⟨0,by omega,rfl,HO.o.1,HO.o.2⟩
 case round=>
  obtain⟨k,hk,rfl,hown,hb⟩:=hrel;by_cases hlt:k<4
  .have hEk:=HI.o.1 k hlt;have hts:Hid ((E.take (k+1)).flatMap entN=(E.take k).flatMap entN++entN (E.getD k Ent.none)):=by
    show _=_;have hk2:k<E.length:=by have:=HI.o.2;omega
    rw[qXq hk2,qyf];simp[List.getD_eq_getElem?_getD,hk2]
   generalize E.getD k Ent.none=x at*;obtain⟨xb,xs,xd,xm⟩:=x;have hXL:Hid ((entC ⟨xb,xs,xd,xm⟩).toArray= #[Value.int .i64 (xb:Int),.int .i64 (xs:Int),.bool xd,.int .i64 (xm:Int)]):=rfl;rw[hXL.out]at hEk;have b1:(0:Int)<=(k:Int):=by omega
   have b2:(k:Int)<4:=by omega
   have hO:=Y2 hown hb;have hg3:=zc wr (.cells #[Value.int .i64 (xb:Int),.int .i64 (xs:Int),.bool xd,.int .i64 (xm:Int)] 37) rfl;have hown3:=hO.out.1.alloc (.cells #[Value.int .i64 (xb:Int),.int .i64 (xs:Int),.bool xd,.int .i64 (xm:Int)] 37);have hb3:=hO.out.2.alloc hO.out.2.size (.cells #[Value.int .i64 (xb:Int),.int .i64 (xs:Int),.bool xd,.int .i64 (xm:Int)] 37);have hnm:¬u3.ownBlock=some wr.heap.size:=fun e=>by have:=(hO.out.1.lt _ e).2;omega
   clear hown hb;go_wp2
   generalize wr.alloc (.cells #[Value.int .i64 (xb:Int),.int .i64 (xs:Int),.bool xd,.int .i64 (xm:Int)] 37)=w3 at*;generalize wr.heap.size=m at*;have k0:w3.cell? ⟨m,0,none⟩=some (.int .i64 (xb:Int)):=za hg3 0;have k1:w3.cell? ⟨m,1,none⟩=some (.int .i64 (xs:Int)):=za hg3 1;have k2:w3.cell? ⟨m,2,none⟩=some (.bool xd):=za hg3 2;have k3:w3.cell? ⟨m,3,none⟩=some (.int .i64 (xm:Int)):=za hg3 3;have hownA:=(hown3.alloc (.cells #[Value.int .i64 (xb:Int),.int .i64 (xs:Int),.int .i64 (bitN xd:Int),.int .i64 (xm:Int)] 3)).drew;have hbA:Below w.heap.size w (w3.alloc (.cells #[Value.int .i64 (xb:Int),.int .i64 (xs:Int),.int .i64 (bitN xd:Int),.int .i64 (xm:Int)] 3)).drew:=zV (hb3.alloc hb3.size _) 1;have hgA:(w3.alloc (.cells #[Value.int .i64 (xb:Int),.int .i64 (xs:Int),.int .i64 (bitN xd:Int),.int .i64 (xm:Int)] 3)).drew.heap[w3.heap.size]?=_:=zc w3 (.cells #[Value.int .i64 (xb:Int),.int .i64 (xs:Int),.int .i64 (bitN xd:Int),.int .i64 (xm:Int)] 3) rfl;obtain⟨v',w1,hrun,ho1,hgr,-⟩:=run_append_own (P:=prog) (w:=(w3.alloc (.cells #[Value.int .i64 (xb:Int),.int .i64 (xs:Int),.int .i64 (bitN xd:Int),.int .i64 (xm:Int)] 3)).drew) w.heap.size 87 87 3 i0 (.int .i64 0) 1 8 underlying87 hi hz0 hz1 hz2 rfl (by decide) u3 (4+4*k) _ hownA ⟨w3.heap.size,0,none⟩ 4 4 [.int .i64 (xb:Int),.int .i64 (xs:Int),.int .i64 (bitN xd:Int),.int .i64 (xm:Int)] rfl
    (fun j u hj=>by rw[qxa,za hgA];simpa using hj) (by intro u hu;simp at hu;rcases hu with rfl|rfl|rfl|rfl<;>rfl) (by unfold maxLen;omega) (by omega) hbA.size
   have hb1:Below w.heap.size w w1:=zl hbA (Upd.jz (S:=fun j=>w.heap.size<=j) hgr (fun g hg _=>(hownA.lt g hg).1)) (qXv _) (fun k h=>h);have hgu:Upd (fun j=>u3.ownBlock=some j) _ w1:=Upd.jz (S:=fun j=>u3.ownBlock=some j) hgr (fun g hg _=>hg);have q0:=hgu.ja (w:=(w3.alloc (.cells #[Value.int .i64 (xb:Int),.int .i64 (xs:Int),.int .i64 (bitN xd:Int),.int .i64 (xm:Int)] 3)).drew) (zm k0 _) hnm;have q1:=hgu.ja (w:=(w3.alloc (.cells #[Value.int .i64 (xb:Int),.int .i64 (xs:Int),.int .i64 (bitN xd:Int),.int .i64 (xm:Int)] 3)).drew) (zm k1 _) hnm;have q2:=hgu.ja (w:=(w3.alloc (.cells #[Value.int .i64 (xb:Int),.int .i64 (xs:Int),.int .i64 (bitN xd:Int),.int .i64 (xm:Int)] 3)).drew) (zm k2 _) hnm;have q3:=hgu.ja (w:=(w3.alloc (.cells #[Value.int .i64 (xb:Int),.int .i64 (xs:Int),.int .i64 (bitN xd:Int),.int .i64 (xm:Int)] 3)).drew) (zm k3 _) hnm;have HF:=Y2 ho1 hb1;clear hownA hbA hgA ho1 hgr hb1 hown3 hb3 hg3 hEk hgu
   go_region_held3 (fun W=>W.cell? ⟨m,0,none⟩=some (.int .i64 (xb:Int))/\W.cell? ⟨m,1,none⟩=some (.int .i64 (xs:Int))/\W.cell? ⟨m,2,none⟩=some (.bool xd)/\W.cell? ⟨m,3,none⟩=some (.int .i64 (xm:Int)))
    ((go_split_ands;(simp only[qYo]at*);((repeat' constructor)<;>first|assumption|(apply zm;assumption)|exact trivial)))
    (first|(go_at_call 251;refine(Vq _ _).mono ?_;rintro e w' ⟨rfl,rfl⟩)|(refine zI rfl _ _ _ rfl rfl rfl hrun ?_))
   go_wp2
   go_roundw
   case rel=>
    refine⟨k+1,by omega,by go_num,?_,HF.o.2⟩;have:=HF.o.1;rw[hts.out,show 4+4*(k+1)=4+4*k+4 by omega];simpa[ints,natsI,entN]using this
   case measure=>simp[intOf];omega
  .obtain rfl:k=4:=by omega
   have HX:=Y2 hown hb;clear hown hb;go_wp2
   go_ret
   obtain⟨hown,hb⟩:=HX.o;rw[qXp (by have:=HI.o.2;omega)]at hown;obtain⟨hl,⟨_,h0⟩|⟨g,cap,cur,rfl,-,hg,hn,hcm,hs,ht⟩⟩:=hown
   .omega
   .refine ⟨g,cap,rfl,hn,hcm,fun j v hv=>?_,hb⟩;rw[za hg,<-Array.getElem?_toList];have hv':(cur.toList.take ((4+4*4)*1))[j]?=some v:=by rw[ht];exact hv
    rw[qyu]at hv';split at hv'
    .simpa using hv'
    .cases hv'
def bndR:List (Int×Int):=[(1,1099511627776),(0,1099511627776),(0,1),(0,4095),(0,1023),(0,1),(0,4294967295)]
def mayR(xs:List Int):Bool:=withinB bndR xs&&(decide (xs.getD 2 0=0)||(decide (xs.getD 4 0=0)&&decide (xs.getD 5 0=0)&&decide (xs.getD 6 0=0)))
theorem yx{w:World}{g o:Nat}{xs:List Int}(hr:w.rangeAt g o (ints xs))(i:Nat)(hi:i<xs.length):w.cell? ⟨g,o+i,none⟩=some (.int .i64 (xs.getD i 0)):=by
 rw[yN hr (i:=i) hi];simp[List.getD_eq_getElem?_getD,hi]
theorem qH{w:World}{gl ol cl gt:Nat}{v:Value}(xs:List Int)(hxl:xs.length=7)(_hcl:7<=cl)(_hcm:cl<=maxLen)(hv:w.cell? ⟨gt,0,none⟩=some v)(hB:Bnd w v bndR)(hx:w.rangeAt gl ol (ints xs)):
  Calls prog 252 #[.slice (some ⟨gl,ol,none⟩) 7 cl,.pointer (some ⟨gt,0,none⟩)] w fun e w'=>e=.returned (.bool (mayR xs))/\Below w.heap.size w w':=by
 obtain⟨g,h,cc,rfl,hc,hr⟩:=hB;have HW:=qqh (yO (cl:=cl) bndR xs hc hr hx hxl (by show 7<=7;decide) (by decide));have HM:Hid (mayR xs=(withinB bndR xs&&(decide (xs.getD 2 0=0)||(decide (xs.getD 4 0=0)&&decide (xs.getD 5 0=0)&&decide (xs.getD 6 0=0))))):=rfl;have HC:=Y4 (yx hx 2 (by omega)) (yx hx 4 (by omega)) (yx hx 5 (by omega)) (yx hx 6 (by omega));generalize xs.getD 2 0=x2 at HM HC;generalize xs.getD 4 0=x4 at HM HC;generalize xs.getD 5 0=x5 at HM HC;generalize xs.getD 6 0=x6 at HM HC;clear hx hr hc hxl;go_enter func252,ntmps252
 go_wp2_with fail
 refine HW.o.mono ?_;rintro e w' ⟨rfl,hb⟩;have hu:=uuo (S:=fun _=>False) hb;have c2:=hu.ja HC.o.1 (fun h=>h);have c4:=hu.ja HC.o.2.1 (fun h=>h);have c5:=hu.ja HC.o.2.2.1 (fun h=>h);have c6:=hu.ja HC.o.2.2.2 (fun h=>h);have HB:=qqh hb;clear hu hb;generalize withinB bndR xs=wb at HM⊢;cases wb with
 |false=>
  clear c2 c4 c5 c6;go_wp2
  go_ret
  exact⟨by rw[HM.o];rfl,HB.o⟩
 |true=>
  by_cases h2:x2=0
  .subst h2;clear c4 c5 c6;go_wp2
   go_ret
   exact⟨by rw[HM.o];rfl,HB.o⟩
  .have q2:(x2==0)=false:=by simpa using h2
   have H2:=qqh h2;clear h2;by_cases h4:x4=0
   .subst h4;by_cases h5:x5=0
    .subst h5;go_wp2
     go_ret
     refine⟨?_,HB.o⟩;rw[HM.o];simp[H2.o];by_cases h6:x6=0<;>simp[h6]
    .have q5:(x5==0)=false:=by simpa using h5
     have H5:=qqh h5;clear h5 c6;go_wp2
     go_ret
     refine⟨?_,HB.o⟩;rw[HM.o];simp[H2.o,H5.o]
   .have q4:(x4==0)=false:=by simpa using h4
    have H4:=qqh h4;clear h4 c5 c6;go_wp2
    go_ret
    refine⟨?_,HB.o⟩;rw[HM.o];simp[H2.o,H4.o]
theorem zG{B:List (Int×Int)}{xs:List Int}(h:withinB B xs=true){i:Nat}(h1:i<B.length)(h2:i<xs.length):B[i].1<=xs[i]/\xs[i]<=B[i].2:=by
 have h:=qxw.1 h (B[i],xs[i]) (List.mem_iff_getElem.2 ⟨i,by simp;omega,by simp⟩);simpa[inB]using h
theorem uL{xs:List Int}(hx:xs.length=7)(h:mayR xs=true):(∀x∈xs,0<=x)/\Zo (numL [6,6,1,2,2,1,4] xs):=by
 simp only[mayR,qxo]at h;obtain⟨h1,-⟩:=h;have a0:=zG h1 (i:=0) (by decide) (by omega);have a1:=zG h1 (i:=1) (by decide) (by omega);have a2:=zG h1 (i:=2) (by decide) (by omega);have a3:=zG h1 (i:=3) (by decide) (by omega);have a4:=zG h1 (i:=4) (by decide) (by omega);have a5:=zG h1 (i:=5) (by decide) (by omega);have a6:=zG h1 (i:=6) (by decide) (by omega);simp[bndR]at a0 a1 a2 a3 a4 a5 a6;have hb:∀i (h1:i<xs.length) (h2:i<[6,6,1,2,2,1,4].length),0<=xs[i]/\xs[i]<256^[6,6,1,2,2,1,4][i]:=by
  intro i hi hi2;rcases i with _|_|_|_|_|_|_|i
  all_goals first|(simp at hi2;omega)|(simp;omega)
 refine⟨fun x hx'=>?_,uK (by rw[hx];rfl) (by decide) (by decide) hb⟩;obtain⟨i,hi,rfl⟩:=qza hx';exact(hb i hi (by rw[hx]at hi;exact hi)).1
end Go.Proofs.YtfhfbpmlnjdfoaaGreatDoor
