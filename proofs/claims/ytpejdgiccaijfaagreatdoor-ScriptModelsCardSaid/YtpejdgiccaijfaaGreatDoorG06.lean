/- Bounds of numb -/
import Derived.Test.YtpejdgiccaijfaaGreatDoorG02
import Derived.Laws.EntriesVeiled
import Derived.Laws.Cover3
import Derived.Test.YtpejdgiccaijfaaGreatDoorG03
import Derived.Test.YtpejdgiccaijfaaGreatDoorG05
set_option maxRecDepth 100000
set_option maxHeartbeats 2000000
namespace Go.Proofs.YtpejdgiccaijfaaGreatDoor
open Go Go.RowKit Tryz
def bndC(B:List (Int×Int)):List Value:=B.flatMap fun p=>[.int .i64 p.1,.int .i64 p.2]
theorem Vq{B:List (Int×Int)}{i:Nat}(hi:i<B.length):(bndC B)[i*2]?=some (.int .i64 B[i].1)/\(bndC B)[i*2+1]?=some (.int .i64 B[i].2):=by
 induction B generalizing i with
 |nil=>simp at hi
 |cons p B ih=>
  cases i with
  |zero=>exact⟨rfl,rfl⟩
  |succ i=>
   have:=ih (i:=i) ox;rw[show(i+1)*2=i*2+2 by omega];exact this
def inB(p:Int×Int)(x:Int):Bool:=decide (p.1<=x)&&decide (x<=p.2)
def withinB(B:List (Int×Int))(xs:List Int):Bool:=(B.zip xs).all fun q=>inB q.1 q.2
def Bnd(w:World)(v:Value)(B:List (Int×Int)):Prop:=
 ∃g h c,v=.func (.func 194) #[] #[.pointer (some ⟨g,0,none⟩)]/\w.cell? ⟨g,0,none⟩=some (.slice (some ⟨h,0,none⟩) B.length c)/\w.rangeAt h 0 (bndC B)
theorem Bnd.below{w w':World}{v:Value}{B:List (Int×Int)}(h:Bnd w v B)(hb:Below w.heap.size w w'):Bnd w' v B:=by
 obtain⟨g,k,c,hv,hc,hr⟩:=h;exact⟨g,k,c,hv,(uuo (S:=fun _=>False) hb).jS hc id,Below.range hb hr⟩
theorem yP{w:World}{g o:Nat}{xs:List Int}(h:w.rangeAt g o (ints xs)){i:Nat}(hi:i<xs.length):w.cell? ⟨g,o+i,none⟩=some (.int .i64 xs[i]):=h i _ (yk hi)
theorem ub{α:Type}{l:List α}{p:α->Bool}{k:Nat}(hk:k<l.length)(h:p l[k]=false):l.all p=false:=by
 rw[<-Bool.not_eq_true];intro e;rw[qxv]at e;have:=e _ (qyu hk);rw[h]at this;cases this
theorem xo{w:World}{h n c:Nat}:Calls prog 126 #[.slice (some ⟨h,0,none⟩) n c] w fun e w'=>e=.returned (.func (.func 194) #[] #[.pointer (some ⟨w.heap.size,0,none⟩)])/\w'=w.alloc (.cells #[.slice (some ⟨h,0,none⟩) n c] 294):=by
 have hmf:=qqf;go_enter func126,ntmps126
 go_wp2
 go_ret
 exact⟨rfl,rfl⟩
theorem Bnd.made{w:World}{h c:Nat}{B:List (Int×Int)}(hr:w.rangeAt h 0 (bndC B)):Bnd (w.alloc (.cells #[.slice (some ⟨h,0,none⟩) B.length c] 294)) (.func (.func 194) #[] #[.pointer (some ⟨w.heap.size,0,none⟩)]) B:=
 ⟨w.heap.size,h,c,rfl,za (zc w _ rfl) 0,qYi hr _⟩
theorem yQ{w:World}{g h c gl ol m cl:Nat}(B:List (Int×Int))(xs:List Int)(hc:w.cell? ⟨g,0,none⟩=some (.slice (some ⟨h,0,none⟩) B.length c))(hr:w.rangeAt h 0 (bndC B))(hx:w.rangeAt gl ol (ints xs))(hm:xs.length=m)(hB:B.length<=m)(hm2:m<=100):
  Calls prog 194 #[.slice (some ⟨gl,ol,none⟩) m cl,.pointer (some ⟨g,0,none⟩)] w fun e w'=>e=.returned (.bool (withinB B xs))/\Below w.heap.size w w':=by
 have H:=Y3 hr hx hm;clear hr hx hm;go_enter func194,ntmps194
 go_wp2
 go_loopw[8] (fun s8 wr=>∃k:Nat,k<=B.length/\s8=.int .i64 k/\Below w.heap.size w wr/\((B.zip xs).take k).all (fun q=>inB q.1 q.2)=true) (fun s8 _=>B.length-(intOf s8).toNat)
 case atStart=>exact⟨0,qXy _,rfl,qxl _ _,oe⟩
 case round=>
  obtain⟨k,hk,rfl,hb,ha⟩:=hrel;have HA:=Y2 ha hb;by_cases hlt:k<B.length
  .obtain ⟨hr,hx,hm⟩:=H.o;have hkx:k<xs.length:=oM;have r1:=(Below.range hb hr) (k*2) _ (Vq hlt).1;have r2:=(Below.range hb hr) (k*2+1) _ (Vq hlt).2;have rx:=yP (Below.range hb hx) hkx;rw[qXx]at r1 r2;have hts:Hid (((B.zip xs).take (k+1))=(B.zip xs).take k++[(B[k],xs[k])]):=by
    show _=_;rw[qXk jk,List.getElem_zip]
   obtain⟨lo,hi,hp⟩:∃lo hi,B[k]=(lo,hi):=⟨_,_,rfl⟩
   have HP:=qqh hp;rw[hp]at r1 r2;simp only at r1 r2;have b3:(0:Int)<=(k:Int)/\(k:Int)<(B.length:Int)/\(k:Int)<(m:Int):=oM;have hbl:wr.heap.size<=wr.heap.size:=qXo _;clear hp ha hr hx hm hb;obtain⟨b3,b4,b5⟩:=b3;obtain⟨x,hxk⟩:∃x,xs[k]=x:=⟨_,rfl⟩
   have HX:=qqh hxk;rw[hxk]at rx;have hglt:gl<wr.heap.size:=qYg wr _ rx;clear hxk;have hblw:Below w.heap.size w (wr.alloc (.cells #[.int .i64 lo,.int .i64 hi] 207)):=HA.o.2.alloc HA.o.2.size _;by_cases h1:x<lo
   .have hin:Hid (withinB B xs=false):=by
     show _=_;refine ub (k:=k) jk ?_;rw[List.getElem_zip,HP.o,HX.o];simp[inB];omega
    have q1:decide (x<lo)=true:=by simpa using h1
    clear h1;have HB:=qqh hblw;clear hblw;go_wp2
    go_quiet(fail)
    go_wp2
    go_ret
    exact⟨by rw[hin.out];rfl,zQ HB.o _⟩
   .by_cases h2:hi<x
    .have hin:Hid (withinB B xs=false):=by
      show _=_;refine ub (k:=k) jk ?_;rw[List.getElem_zip,HP.o,HX.o];simp[inB];omega
     have q1:decide (x<lo)=false:=by simpa using h1
     have q2:decide (hi<x)=true:=by simpa using h2
     clear h1 h2;have HB:=qqh hblw;clear hblw;go_wp2
     go_quiet(fail)
     go_wp2
     go_ret
     exact⟨by rw[hin.out];rfl,zQ HB.o _⟩
    .have hin:Hid (inB (B[k],xs[k]).1 (B[k],xs[k]).2=true):=by
      show _=_;rw[HP.o,HX.o];simp[inB];omega
     have q1:decide (x<lo)=false:=by simpa using h1
     have q2:decide (hi<x)=false:=by simpa using h2
     clear h1 h2;have HB:=qqh hblw;clear hblw;go_wp2
     go_quiet(fail)
     go_wp2
     go_roundw
     case rel=>exact⟨k+1,oM,by go_num,zQ HB.o _,by rw[hts.out,List.all_append,HA.o.1];simpa using hin.out⟩
     case measure=>simp[intOf];omega
  .obtain rfl:k=B.length:=oM;have hin:Hid (withinB B xs=true):=by
    have:=HA.o.1;rw[qXj jk]at this;exact this
   go_wp2
   go_ret
   exact⟨by rw[hin.out];rfl,HA.o.2⟩
def zcf:List (Int×Int):=[(0,1099511627776),(0,1099511627776)]
theorem uS:(prog.info? 117).map (·.size)=some 4:=kR
theorem ue(w:World)(A B C D E:Obj):let W:=((((w.alloc A).alloc B).alloc C).alloc D).alloc E
  W.heap[w.heap.size]?=some A/\W.heap[w.heap.size+1]?=some B/\W.heap[w.heap.size+1+1]?=some C/\W.heap[w.heap.size+1+1+1]?=some D/\W.heap[w.heap.size+1+1+1+1]?=some E/\W.heap.size=w.heap.size+5/\Upd (fun _=>False) w W:=by
 obtain⟨h1,h2,h3,h4,h5,h6⟩:=xw w A B C D;refine⟨?_,?_,?_,?_,zc _ _ oe,oe,h6.alloc _⟩
 .rw [qxk _ _ _ (zd h1)];exact h1
 .rw [qxk _ _ _ (zd h2)];exact h2
 .rw [qxk _ _ _ (zd h3)];exact h3
 .rw [qxk _ _ _ (zd h4)];exact h4
def AG(gs gt:Nat):Value:=.agg #[.int .i64 4,.slice (some ⟨gs,0,none⟩) 4 4,.func (.func 289) #[] #[],.func (.func 290) #[] #[.pointer (some ⟨gt,0,none⟩)],.func (.func 292) #[] #[]]
def zcg(w:World)(gs gt:Nat):Prop:=w.rangeAt gs 0 (ints [6,6,2,2])/\∃v,w.cell? ⟨gt,0,none⟩=some v/\Bnd w v zcf
theorem Jm:(prog.info? 341).map (·.size)=some 5:=kR
theorem tB(w:World):Calls prog 218 #[] w fun e w'=>∃gs gt,e=.returned (AG gs gt)/\zcg w' gs gt/\Below w.heap.size w w':=by
 have hmf:=qqf;go_enter func218,ntmps218
 go_wp2_with fail
 refine(xo).mono ?_;rintro e w1 ⟨rfl,rfl⟩;go_wp2
 obtain⟨h1,h2,h3,h4,h5,h6,h7⟩:=ue w (.cells #[.int .i64 4,.slice (some ⟨w.heap.size+1+1+1+1,0,none⟩) 4 4,.func (.func 289) #[] #[],.func (.func 290) #[] #[.pointer (some ⟨w.heap.size+1+1+1,0,none⟩)],.func (.func 292) #[] #[]] 341)
  (.cells (bndC zcf).toArray 207) (.cells #[.slice (some ⟨w.heap.size+1,0,none⟩) 2 2] 294) (.cells #[.func (.func 194) #[] #[.pointer (some ⟨w.heap.size+1+1,0,none⟩)]] 138) (.cells (ints [6,6,2,2]).toArray 3)
 refine qYp (zv rfl _ _ w.heap.size 0 [.int .i64 4,.slice (some ⟨w.heap.size+1+1+1+1,0,none⟩) 4 4,.func (.func 289) #[] #[],.func (.func 290) #[] #[.pointer (some ⟨w.heap.size+1+1+1,0,none⟩)],.func (.func 292) #[] #[]] _ rfl (zg h1) underlying341 rfl Jm) rfl
  ⟨w.heap.size+1+1+1+1,w.heap.size+1+1+1,rfl,⟨zg h5,_,za h4 0,w.heap.size+1+1,w.heap.size+1,2,rfl,za h3 0,zg h2⟩,Upd.below h7⟩
def encB(l:List (Nat×Nat)):List UInt8:=l.flatMap fun p=>lowB p.1 p.2
theorem UP(l:List (Nat×Nat))(p:Nat×Nat):encB (l++[p])=encB l++lowB p.1 p.2:=by simp[encB]
def sizes(l:List (Nat×Nat)):Nat:=(l.map (·.2)).sum
theorem uf(l:List (Nat×Nat)):(encB l).length=sizes l:=by
 induction l with
 |nil=>rfl
 |cons p l ih=>simp only[encB,sizes,qye,qyy,zY,qzh,List.sum_cons]at ih⊢;rw[ih]
theorem XX(l:List (Nat×Nat)){i:Nat}(hi:i<l.length):sizes (l.take i)+l[i].2<=sizes l:=by
 have h:=congrArg sizes (qXi (i+1) l);rw[qXk hi]at h;simp only[sizes,qzg,List.sum_append,qzh,qzj,List.sum_cons,List.sum_nil]at h⊢;omega
def Zn(l:List (Nat×Nat)):Prop:=(∀p∈l,p.1<256^p.2/\1<=p.2/\p.2<=7)/\sizes l<=59
def numsL(l:List (Nat×Nat)):List Int:=l.map fun p=>(p.1:Int)
def wI(l:List (Nat×Nat)):List Int:=l.map fun p=>(p.2:Int)
theorem sA{l:List (Nat×Nat)}{i:Nat}(h:i<l.length):(ints (numsL l))[i]?=some (.int .i64 (l[i].1:Int)):=by
 rw[yk (by simpa[numsL]using h)];simp[numsL]
theorem qw{l:List (Nat×Nat)}{i:Nat}(h:i<l.length):(ints (wI l))[i]?=some (.int .i64 (l[i].2:Int)):=by
 rw[yk (by simpa[wI]using h)];simp[wI]
def sectB(k:Nat)(l:List (Nat×Nat)):Bk:=sealB (padB (lowB k 1++encB l))
theorem ug{k:Nat}{l:List (Nat×Nat)}(h:sizes l<=59):(padB (lowB k 1++encB l)).length=64:=wG (by simp[zY,uf];omega)
theorem vn{k:Nat}{l:List (Nat×Nat)}(h:sizes l<=59):(sectB k l).length=64:=vj (ug h)
theorem xp(w:World)(A B C:Obj):let W:=((w.alloc A).alloc B).alloc C
  W.heap[w.heap.size]?=some A/\W.heap[w.heap.size+1]?=some B/\W.heap[w.heap.size+1+1]?=some C/\W.heap.size=w.heap.size+3/\Upd (fun _=>False) w W:=by
 refine⟨?_,?_,zc _ _ oe,oe,(((uur _ w).alloc _).alloc _).alloc _⟩
 .rw [qxk _ _ _ jN,qxk _ _ _ oe];exact zc w _ rfl
 .rw [qxk _ _ _ oe];exact zc _ _ oe
def numsAt(b:Bk):Nat->List Nat->List Nat
 |_,[]=>[]
 |p,s::ss=>numB ((b.drop p).take s)::numsAt b (p+s) ss
theorem zP(b:Bk)(p:Nat)(ss:List Nat):(numsAt b p ss).length=ss.length:=by
 induction ss generalizing p with
 |nil=>rfl
 |cons s ss ih=>simp[numsAt,ih]
theorem XY(b:Bk)(p:Nat)(ss:List Nat)(i:Nat)(hi:i<ss.length):(numsAt b p ss)[i]'(by rw[zP];exact hi)=numB ((b.drop (p+(ss.take i).sum)).take ss[i]):=by
 induction ss generalizing p i with
 |nil=>simp at hi
 |cons s ss ih=>
  cases i with
  |zero=>simp[numsAt]
  |succ i=>
   simp only[numsAt,qyr,List.take_succ_cons,List.sum_cons];rw[ih (p+s) i ox,qXl]
theorem Qo(ss:List Nat){i:Nat}(hi:i<ss.length):(ss.take (i+1)).sum=(ss.take i).sum+ss[i]/\(ss.take i).sum+ss[i]<=ss.sum:=by
 have h:=congrArg List.sum (qXi (i+1) ss);rw[qXk hi]at h⊢;simp only[List.sum_append,List.sum_cons,List.sum_nil]at h⊢;omega
def natsI(l:List Nat):List Int:=l.map fun(n:Nat)=>(n:Int)
theorem sB{l:List Nat}{i:Nat}(h:i<l.length):(ints (natsI l))[i]?=some (.int .i64 (l[i]:Int)):=by
 rw[yk (by simpa[natsI]using h)];simp[natsI]
theorem AH(n:Nat):madeCells #[Value.int .i64 0] (n*1)=(ints (List.replicate n 0)).toArray:=by
 apply Array.ext
 .simp [size_madeCells]
 .intro i h1 h2;have:i%1=0:=Nat.mod_one i;simp[madeCells,ints,this]
theorem Jo:(prog.info? 3).map (fun i=>(i.zero,i.size,i.bytes))=some (some (.int .i64 0),1,8):=kR
theorem YE(n:Nat)(hn:n<=100000)(w:World):(Instr.makeSlice 87 (.int .i64 n) (.int .i64 n)).run prog w=.ok (.slice (some ⟨w.heap.size,0,none⟩) n n) (w.alloc (.cells (ints (List.replicate n 0)).toArray 3)):=by
 obtain⟨i0,hi,hz0,hz1,hz2⟩:=qYs Jo;have:=run_make (P:=prog) w 87 3 i0 (.int .i64 0) underlying87 hi hz0 .i64 .i64 n n oM oM jm oM;rw[this];simp only[qxt,hz1,Value.cells];rw[AH]
def fillI(l:List Nat)(i:Nat):List Int:=natsI (l.take i)++List.replicate (l.length-i) 0
theorem UQ(l:List Nat){i:Nat}(hi:i<=l.length):(fillI l i).length=l.length:=by simp[fillI,natsI];omega
theorem UR(l:List Nat){i:Nat}(hi:i<l.length):(fillI l i).set i (l[i]:Int)=fillI l (i+1):=by
 unfold fillI;have h1:(natsI (l.take i)).length=i:=by simp[natsI];omega
 rw[qXe _ _ oM,h1,Nat.sub_self,show l.length-i=(l.length-(i+1))+1 by omega,List.replicate_succ,qXg,qXk hi];simp only[natsI,qzg,qzh,qzj,qxw,qxz,qzu]
theorem US(l:List Nat):fillI l l.length=natsI l:=by simp[fillI]
theorem YF(l:List Int)(i:Nat)(x:Int):(ints l).set i (.int .i64 x)=ints (l.set i x):=by simp[ints,List.map_set]
def okGet(b:Bk)(k:Nat)(ss:List Nat)(mb:Bool):Bool:=decide (sealB b=b)&&(decide (numB (b.take 1)=k)&&(endB b (1+ss.sum)&&mb))
def xg(b:Bk)(k:Nat)(ss:List Nat)(mb:Bool):Int:=if okGet b k ss mb=true then 0 else if sealB b=b then 12 else 13
def yo(w:World)(ok:Bool)(ds zs:List Value)(cd:Int)(e:Ending)(w':World):Prop:=
 (∃rs:List Value,(ok=true->rs=ds)/\(ok=false->rs=zs)/\e=.returned (.tuple #[.agg rs.toArray,.int .i64 cd]))/\Below w.heap.size w w'
theorem XZ{b:Bk}{k:Nat}{ss:List Nat}{mb:Bool}(h:sealB b≠b):okGet b k ss mb=false/\xg b k ss mb=13:=by
 have:okGet b k ss mb=false:=by simp[okGet,h]
 exact⟨this,by simp[xg,this,h]⟩
theorem qx{b:Bk}{k:Nat}{ss:List Nat}{mb:Bool}(hs:sealB b=b)(h:okGet b k ss mb=false):xg b k ss mb=12:=by simp[xg,h,hs]
def zR(W:World)(m:Nat)(xs:List Int)(e:Ending)(W':World):Prop:=∃g c,e=.returned (.slice (some ⟨g,0,none⟩) m c)/\m<=c/\c<=maxLen/\W'.rangeAt g 0 (ints xs)/\Below W.heap.size W W'
def numL(sz:List Nat)(xs:List Int):List (Nat×Nat):=(xs.map Int.toNat).zip sz
theorem qy{sz:List Nat}{xs:List Int}(h:xs.length=sz.length):(numL sz xs).length=sz.length:=by simp[numL,h]
theorem YG{sz:List Nat}{xs:List Int}(h:xs.length=sz.length):wI (numL sz xs)=natsI sz:=by
 unfold wI natsI numL;rw[show(fun(p:Nat×Nat)=>(p.2:Int))=(fun(n:Nat)=>(n:Int))∘Prod.snd from rfl,<-qzi,List.map_snd_zip (by simp[h])]
theorem wi{sz:List Nat}{xs:List Int}(h:xs.length=sz.length):sizes (numL sz xs)=sz.sum:=by
 unfold sizes numL;rw[List.map_snd_zip (by simp[h])]
theorem uT{sz:List Nat}{xs:List Int}(h:xs.length=sz.length)(h0:∀x∈xs,0<=x):numsL (numL sz xs)=xs:=by
 unfold numsL numL;rw[show(fun(p:Nat×Nat)=>(p.1:Int))=(fun(n:Nat)=>(n:Int))∘Prod.fst from rfl,<-qzi,List.map_fst_zip (by simp[h]),qzi]
 conv=>rhs;rw[<-List.map_id xs]
 exact List.map_congr_left (fun x hx=>by simp[Int.toNat_of_nonneg (h0 x hx)])
theorem uU{sz:List Nat}{xs:List Int}(h:xs.length=sz.length)(hs:sz.sum<=59)(hz:∀s∈sz,1<=s/\s<=7)(hb:∀i (h1:i<xs.length) (h2:i<sz.length),0<=xs[i]/\xs[i]<256^sz[i]):Zn (numL sz xs):=by
 refine⟨fun p hp=>?_,by rw[wi h];exact hs⟩;obtain⟨i,hi,rfl⟩:=qyv hp;rw[qy h]at hi;have h1:i<xs.length:=oM;have:=hb i h1 hi;simp only[numL,List.getElem_zip,qyt];have h3:=hz sz[i] (qyu hi);refine⟨?_,h3.1,h3.2⟩;have h4:((256^sz[i]:Nat):Int)=(256:Int)^sz[i]:=oe;omega
structure Ent where
 b:Nat
 s:Nat
 d:Bool
 m:Nat
def Ent.none:Ent:=⟨0,0,false,0⟩
def bitN(d:Bool):Nat:=if d then 1 else 0
def entC(x:Ent):List Value:=[.int .i64 (x.b:Int),.int .i64 (x.s:Int),.bool x.d,.int .i64 (x.m:Int)]
def entN(x:Ent):List Nat:=[x.b,x.s,bitN x.d,x.m]
def pgC(seq no of many:Nat)(E:List Ent):List Value:=[.int .i64 (seq:Int),.int .i64 (no:Int),.int .i64 (of:Int),.int .i64 (many:Int)]++E.flatMap entC
def pgN(seq no of many:Nat)(E:List Ent):List Nat:=[seq,no,of,many]++E.flatMap entN
theorem qA(x:Ent):(entC x).length=4:=rfl
theorem YH(x:Ent):∀v∈entC x,v.oneCell'=true:=by
 intro v hv;simp only[entC,qzm,qzy,qYt]at hv;rcases hv with rfl|rfl|rfl|rfl<;>rfl
theorem xQ(E:List Ent):(E.flatMap entC).length=E.length*4:=yE (f:=entC) (fun _=>rfl) E
theorem Vr{E:List Ent}{i:Nat}(hi:i<E.length):((E.flatMap entC).drop (i*4)).take 4=entC (E.getD i Ent.none):=by
 induction E generalizing i with
 |nil=>simp at hi
 |cons x E ih=>
  cases i with
  |zero=>rfl
  |succ i=>
   rw[qye,show(i+1)*4=(entC x).length+i*4 by rw[qA];omega,List.drop_length_add_append];simpa using ih (i:=i) ox
theorem Vs(d:Bool)(w:World):Calls prog 343 #[.bool d] w fun e w'=>e=.returned (.int .i64 (bitN d:Int))/\w=w':=by
 cases d
 all_goals
  go_enter func343,ntmps343
  go_wp2
  go_ret
  exact⟨rfl,rfl⟩
theorem wJ:(prog.info? 297).map (·.size)=some 20:=kR
theorem AI:(prog.info? 295).map (·.size)=some 16:=kR
theorem Zo:(prog.info? 155).map (·.size)=some 4:=kR
theorem qB{E:List Ent}(hE:E.length=4){k:Nat}(hk:k<4)(w:World):
  (Instr.index 295 (.agg (E.flatMap entC).toArray) (.int .i64 (k:Int))).run prog w=.ok (.agg (entC (E.getD k Ent.none)).toArray) w:=by
 have hu:=underlying155;obtain⟨i,hi,hs⟩:=qYb.1 Zo;have hz:(Array.extract (E.flatMap entC).toArray (k*4) (k*4+4))=(entC (E.getD k Ent.none)).toArray:=by
  apply Array.toList_inj.1;rw[Array.toList_extract];simp only[List.extract];rw[show k*4+4-k*4=4 by omega];exact Vr oM
 have hz2:=Vr (E:=E) (i:=k) oM;simp[Instr.index,asIntOf,run_underlying underlying295,sizeOf,typeInfo,hi,hs,part,isAgg,run_underlying hu,hk,hz2]
theorem Vt:(prog.info? 3).map (fun i=>(i.zero,i.size,i.bytes))=some (some (.int .i64 0),1,8):=kR
theorem Aj{w:World}(seq no of many:Nat)(E:List Ent)(hE:E.length=4):
  Calls prog 342 #[.agg (pgC seq no of many E).toArray] w (zR w 20 (natsI (pgN seq no of many E))):=by
 obtain⟨i0,hi,hz0,hz1,hz2⟩:=qYs Vt;obtain⟨L,hL⟩:=qqe ((pgC seq no of many E).toArray);have hg:=zc w (.cells L 297) rfl;have k0:(w.alloc (.cells L 297)).cell? ⟨w.heap.size,0,none⟩=some (.int .i64 (seq:Int)):=(za hg 0).trans oT;have k1:(w.alloc (.cells L 297)).cell? ⟨w.heap.size,1,none⟩=some (.int .i64 (no:Int)):=(za hg 1).trans oT;have k2:(w.alloc (.cells L 297)).cell? ⟨w.heap.size,2,none⟩=some (.int .i64 (of:Int)):=(za hg 2).trans oT;have k3:(w.alloc (.cells L 297)).cell? ⟨w.heap.size,3,none⟩=some (.int .i64 (many:Int)):=(za hg 3).trans oT;have hr:(w.alloc (.cells L 297)).rangeAt w.heap.size 4 (E.flatMap entC):=fun j v hv=>by
  rw[za hg,hL,qyq,pgC,qyh oe];rw[<-hv];congr 1;simp
 have hsz:(prog.info? 295).map (·.size)=some (E.flatMap entC).length:=by rw[xQ,hE];exact AI
 have hix:=fun(k:Nat) (hk:k<4) (w:World)=>qB hE hk w;have HI:=Y2 hix hE;rw[<-hL];have hR:=qYi hr (.cells #[.int .i64 (seq:Int),.int .i64 (no:Int),.int .i64 (of:Int),.int .i64 (many:Int)] 3);have HL:=qqh hL;clear hL hix hE hg hr;go_enter func342,ntmps342
 go_wp2_with (first
  |refine qYy rfl _ _ rfl _ _ rfl _ _ hR underlying295 rfl hsz ?_
  |fail)
 have hrow:(w.alloc (.cells L 297)).alloc (.cells #[.int .i64 (seq:Int),.int .i64 (no:Int),.int .i64 (of:Int),.int .i64 (many:Int)] 3)=(w.alloc (.cells L 297)).alloc (.cells #[.int .i64 (seq:Int),.int .i64 (no:Int),.int .i64 (of:Int),.int .i64 (many:Int)] 3):=rfl;have hown:((w.alloc (.cells L 297)).alloc (.cells #[.int .i64 (seq:Int),.int .i64 (no:Int),.int .i64 (of:Int),.int .i64 (many:Int)] 3)).ownsRow w.heap.size 3 1 (.slice (some ⟨w.heap.size+1,0,none⟩) 4 4) 4 (ints (natsI ([seq,no,of,many]++(E.take 0).flatMap entN))):=by
  refine⟨by simp[natsI],.inr ⟨w.heap.size+1,4,_,rfl,oM,zc _ _ oe,oM,by unfold maxLen;omega,oe,by simp[natsI,ints]⟩⟩
 have hB:Below w.heap.size w ((w.alloc (.cells L 297)).alloc (.cells #[.int .i64 (seq:Int),.int .i64 (no:Int),.int .i64 (of:Int),.int .i64 (many:Int)] 3)):=((qxl _ w).alloc (qXo _) _).alloc oe _;generalize (w.alloc (.cells L 297)).alloc (.cells #[.int .i64 (seq:Int),.int .i64 (no:Int),.int .i64 (of:Int),.int .i64 (many:Int)] 3)=w2 at*;have HO:=Y2 hown hB;clear hown hB hR hsz k0 k1 k2 k3 hrow;go_loopw[3,17] (fun s3 s17 wr=>∃k:Nat,k<=4/\s17=.int .i64 k/\wr.ownsRow w.heap.size 3 1 s3 (4+4*k) (ints (natsI ([seq,no,of,many]++(E.take k).flatMap entN)))/\Below w.heap.size w wr) (fun _ s17 _=>4-(intOf s17).toNat)
 case atStart=>exact⟨0,oM,rfl,HO.o.1,HO.o.2⟩
 case round=>
  obtain⟨k,hk,rfl,hown,hb⟩:=hrel;by_cases hlt:k<4
  .have hEk:=HI.o.1 k hlt;have hts:Hid ((E.take (k+1)).flatMap entN=(E.take k).flatMap entN++entN (E.getD k Ent.none)):=by
    show _=_;have hk2:k<E.length:=by have:=HI.o.2;omega
    rw[qXk hk2,qyd];simp[List.getD_eq_getElem?_getD,hk2]
   generalize E.getD k Ent.none=x at*;obtain⟨xb,xs,xd,xm⟩:=x;have hXL:Hid ((entC ⟨xb,xs,xd,xm⟩).toArray= #[Value.int .i64 (xb:Int),.int .i64 (xs:Int),.bool xd,.int .i64 (xm:Int)]):=rfl;rw[hXL.out]at hEk;have b1:(0:Int)<=(k:Int):=oM;have b2:(k:Int)<4:=oM;have hO:=Y2 hown hb;have hg3:=zc wr (.cells #[Value.int .i64 (xb:Int),.int .i64 (xs:Int),.bool xd,.int .i64 (xm:Int)] 155) rfl;have hown3:=hO.out.1.alloc (.cells #[Value.int .i64 (xb:Int),.int .i64 (xs:Int),.bool xd,.int .i64 (xm:Int)] 155);have hb3:=hO.out.2.alloc hO.out.2.size (.cells #[Value.int .i64 (xb:Int),.int .i64 (xs:Int),.bool xd,.int .i64 (xm:Int)] 155);have hnm:¬u3.ownBlock=some wr.heap.size:=fun e=>by have:=(hO.out.1.lt _ e).2;omega
   clear hown hb;go_wp2
   generalize wr.alloc (.cells #[Value.int .i64 (xb:Int),.int .i64 (xs:Int),.bool xd,.int .i64 (xm:Int)] 155)=w3 at*;generalize wr.heap.size=m at*;have k0:w3.cell? ⟨m,0,none⟩=some (.int .i64 (xb:Int)):=za hg3 0;have k1:w3.cell? ⟨m,1,none⟩=some (.int .i64 (xs:Int)):=za hg3 1;have k2:w3.cell? ⟨m,2,none⟩=some (.bool xd):=za hg3 2;have k3:w3.cell? ⟨m,3,none⟩=some (.int .i64 (xm:Int)):=za hg3 3;have hownA:=(hown3.alloc (.cells #[Value.int .i64 (xb:Int),.int .i64 (xs:Int),.int .i64 (bitN xd:Int),.int .i64 (xm:Int)] 3)).drew;have hbA:Below w.heap.size w (w3.alloc (.cells #[Value.int .i64 (xb:Int),.int .i64 (xs:Int),.int .i64 (bitN xd:Int),.int .i64 (xm:Int)] 3)).drew:=zQ (hb3.alloc hb3.size _) 1;have hgA:(w3.alloc (.cells #[Value.int .i64 (xb:Int),.int .i64 (xs:Int),.int .i64 (bitN xd:Int),.int .i64 (xm:Int)] 3)).drew.heap[w3.heap.size]?=_:=zc w3 (.cells #[Value.int .i64 (xb:Int),.int .i64 (xs:Int),.int .i64 (bitN xd:Int),.int .i64 (xm:Int)] 3) rfl;obtain⟨v',w1,hrun,ho1,hgr,-⟩:=run_append_own (P:=prog) (w:=(w3.alloc (.cells #[Value.int .i64 (xb:Int),.int .i64 (xs:Int),.int .i64 (bitN xd:Int),.int .i64 (xm:Int)] 3)).drew) w.heap.size 87 87 3 i0 (.int .i64 0) 1 8 underlying87 hi hz0 hz1 hz2 rfl de u3 (4+4*k) _ hownA ⟨w3.heap.size,0,none⟩ 4 4 [.int .i64 (xb:Int),.int .i64 (xs:Int),.int .i64 (bitN xd:Int),.int .i64 (xm:Int)] rfl
    (fun j u hj=>by rw[qxa,za hgA];simpa using hj) oZ oj oM hbA.size
   have hb1:Below w.heap.size w w1:=zj hbA (Upd.kh (S:=fun j=>w.heap.size<=j) hgr (fun g hg _=>(hownA.lt g hg).1)) (qXo _) (fun k h=>h);have hgu:Upd (fun j=>u3.ownBlock=some j) _ w1:=Upd.kh (S:=fun j=>u3.ownBlock=some j) hgr (fun g hg _=>hg);have q0:=hgu.jS (w:=(w3.alloc (.cells #[Value.int .i64 (xb:Int),.int .i64 (xs:Int),.int .i64 (bitN xd:Int),.int .i64 (xm:Int)] 3)).drew) (zl k0 _) hnm;have q1:=hgu.jS (w:=(w3.alloc (.cells #[Value.int .i64 (xb:Int),.int .i64 (xs:Int),.int .i64 (bitN xd:Int),.int .i64 (xm:Int)] 3)).drew) (zl k1 _) hnm;have q2:=hgu.jS (w:=(w3.alloc (.cells #[Value.int .i64 (xb:Int),.int .i64 (xs:Int),.int .i64 (bitN xd:Int),.int .i64 (xm:Int)] 3)).drew) (zl k2 _) hnm;have q3:=hgu.jS (w:=(w3.alloc (.cells #[Value.int .i64 (xb:Int),.int .i64 (xs:Int),.int .i64 (bitN xd:Int),.int .i64 (xm:Int)] 3)).drew) (zl k3 _) hnm;have HF:=Y2 ho1 hb1;clear hownA hbA hgA ho1 hgr hb1 hown3 hb3 hg3 hEk hgu
   go_region_held3 (fun W=>W.cell? ⟨m,0,none⟩=some (.int .i64 (xb:Int))/\W.cell? ⟨m,1,none⟩=some (.int .i64 (xs:Int))/\W.cell? ⟨m,2,none⟩=some (.bool xd)/\W.cell? ⟨m,3,none⟩=some (.int .i64 (xm:Int)))
    ((go_split_ands;(simp only[qYh]at*);((repeat' constructor)<;>first|assumption|(apply zl;assumption)|exact trivial)))
    (first|(go_at_call 343;refine(Vs _ _).mono ?_;rintro e w' ⟨rfl,rfl⟩)|(refine zU rfl _ _ _ rfl rfl rfl hrun ?_))
   go_wp2
   go_roundw
   case rel=>
    refine⟨k+1,oM,by go_num,?_,HF.o.2⟩;have:=HF.o.1;rw[hts.out,show 4+4*(k+1)=4+4*k+4 by omega];simpa[ints,natsI,entN]using this
   case measure=>simp[intOf];omega
  .obtain rfl:k=4:=oM;have HX:=Y2 hown hb;clear hown hb;go_wp2
   go_ret
   obtain⟨hown,hb⟩:=HX.o;rw[qXj (by have:=HI.o.2;omega)]at hown;obtain⟨hl,⟨_,h0⟩|⟨g,cap,cur,rfl,-,hg,hn,hcm,hs,ht⟩⟩:=hown
   .omega
   .refine ⟨g,cap,rfl,hn,hcm,fun j v hv=>?_,hb⟩;rw[za hg,<-Array.getElem?_toList];have hv':(cur.toList.take ((4+4*4)*1))[j]?=some v:=by rw[ht];exact hv
    rw[qyp]at hv';split at hv'
    .simpa using hv'
    .cases hv'
def bndR:List (Int×Int):=[(1,1099511627776),(0,1099511627776),(0,1),(0,4095),(0,1023),(0,1),(0,4294967295)]
def mayR(xs:List Int):Bool:=withinB bndR xs&&(decide (xs.getD 2 0=0)||(decide (xs.getD 4 0=0)&&decide (xs.getD 5 0=0)&&decide (xs.getD 6 0=0)))
theorem yt{w:World}{g o:Nat}{xs:List Int}(hr:w.rangeAt g o (ints xs))(i:Nat)(hi:i<xs.length):w.cell? ⟨g,o+i,none⟩=some (.int .i64 (xs.getD i 0)):=by
 rw[yP hr (i:=i) hi];simp[List.getD_eq_getElem?_getD,hi]
theorem qC{w:World}{gl ol cl gt:Nat}{v:Value}(xs:List Int)(hxl:xs.length=7)(_hcl:7<=cl)(_hcm:cl<=maxLen)(hv:w.cell? ⟨gt,0,none⟩=some v)(hB:Bnd w v bndR)(hx:w.rangeAt gl ol (ints xs)):
  Calls prog 350 #[.slice (some ⟨gl,ol,none⟩) 7 cl,.pointer (some ⟨gt,0,none⟩)] w fun e w'=>e=.returned (.bool (mayR xs))/\Below w.heap.size w w':=by
 obtain⟨g,h,cc,rfl,hc,hr⟩:=hB;have HW:=qqh (yQ (cl:=cl) bndR xs hc hr hx hxl (by show 7<=7;decide) de);have HM:Hid (mayR xs=(withinB bndR xs&&(decide (xs.getD 2 0=0)||(decide (xs.getD 4 0=0)&&decide (xs.getD 5 0=0)&&decide (xs.getD 6 0=0))))):=rfl;have HC:=Y4 (yt hx 2 oM) (yt hx 4 oM) (yt hx 5 oM) (yt hx 6 oM);generalize xs.getD 2 0=x2 at HM HC;generalize xs.getD 4 0=x4 at HM HC;generalize xs.getD 5 0=x5 at HM HC;generalize xs.getD 6 0=x6 at HM HC;clear hx hr hc hxl;go_enter func350,ntmps350
 go_wp2_with fail
 refine HW.o.mono ?_;rintro e w' ⟨rfl,hb⟩;have hu:=uuo (S:=fun _=>False) hb;have c2:=hu.jS HC.o.1 id;have c4:=hu.jS HC.o.2.1 id;have c5:=hu.jS HC.o.2.2.1 id;have c6:=hu.jS HC.o.2.2.2 id;have HB:=qqh hb;clear hu hb;generalize withinB bndR xs=wb at HM⊢;cases wb with
 |false=>
  clear c2 c4 c5 c6;go_wp2
  go_ret
  exact⟨by rw[HM.o];rfl,HB.o⟩
 |true=>
  by_cases h2:x2=0
  .subst h2;clear c4 c5 c6;go_wp2
   go_ret
   exact⟨by rw[HM.o];rfl,HB.o⟩
  .have q2:(x2==0)=false:=by simpa using h2
   have H2:=qqh h2;clear h2;by_cases h4:x4=0
   .subst h4;by_cases h5:x5=0
    .subst h5;go_wp2
     go_ret
     refine⟨?_,HB.o⟩;rw[HM.o];simp[H2.o];by_cases h6:x6=0<;>simp[h6]
    .have q5:(x5==0)=false:=by simpa using h5
     have H5:=qqh h5;clear h5 c6;go_wp2
     go_ret
     refine⟨?_,HB.o⟩;rw[HM.o];simp[H2.o,H5.o]
   .have q4:(x4==0)=false:=by simpa using h4
    have H4:=qqh h4;clear h4 c5 c6;go_wp2
    go_ret
    refine⟨?_,HB.o⟩;rw[HM.o];simp[H2.o,H4.o]
theorem zE{B:List (Int×Int)}{xs:List Int}(h:withinB B xs=true){i:Nat}(h1:i<B.length)(h2:i<xs.length):B[i].1<=xs[i]/\xs[i]<=B[i].2:=by
 have h:=qxv.1 h (B[i],xs[i]) (List.mem_iff_getElem.2 ⟨i,by simp;omega,oe⟩);simpa[inB]using h
theorem sC{xs:List Int}(hx:xs.length=7)(h:mayR xs=true):(∀x∈xs,0<=x)/\Zn (numL [6,6,1,2,2,1,4] xs):=by
 simp only[mayR,qxo]at h;obtain⟨h1,-⟩:=h;have a0:=zE h1 (i:=0) de oM;have a1:=zE h1 (i:=1) de oM;have a2:=zE h1 (i:=2) de oM;have a3:=zE h1 (i:=3) de oM;have a4:=zE h1 (i:=4) de oM;have a5:=zE h1 (i:=5) de oM;have a6:=zE h1 (i:=6) de oM;simp[bndR]at a0 a1 a2 a3 a4 a5 a6;have hb:∀i (h1:i<xs.length) (h2:i<[6,6,1,2,2,1,4].length),0<=xs[i]/\xs[i]<256^[6,6,1,2,2,1,4][i]:=by
  intro i hi hi2;rcases i with _|_|_|_|_|_|_|i
  all_goals first|(simp at hi2;omega)|(simp;omega)
 refine⟨fun x hx'=>?_,uU (by rw[hx];rfl) de de hb⟩;obtain⟨i,hi,rfl⟩:=qyv hx';exact(hb i hi (by rw[hx]at hi;exact hi)).1
theorem wj{P:Prop}(h:P:=by
 have H:=Y7 hs hN htell hmay hk hl hm;have HC:=qqh hcs;clear hs hN htell hmay hk hl hm hcs;have hr:((w.alloc (.cells #[.int .i64 (k:Int),.slice (some ⟨gs,0,none⟩) m cl,.func (.func ft) #[] ct,.func (.func fm) #[] cm,bv] Ja)).alloc (.cells cs.toArray Jb)).rangeAt (w.heap.size+1) 0 cs:=zg (zc _ _ oe);go_enter q3c,q4c
 go_wp2_with (first
  |(refine qYy rfl _ _ rfl _ _ rfl _ _ (qYi hr _) q5c rfl HC.o ?_)
  |fail)
 show Calls _ _ _ (((w.alloc (.cells #[.int .i64 (k:Int),.slice (some ⟨gs,0,none⟩) m cl,.func (.func ft) #[] ct,.func (.func fm) #[] cm,bv] Ja)).alloc (.cells cs.toArray Jb)).alloc (.cells (bkC zB).toArray 60)) _;obtain⟨h1,h2,h3,h4,h5⟩:=xp w (.cells #[.int .i64 (k:Int),.slice (some ⟨gs,0,none⟩) m cl,.func (.func ft) #[] ct,.func (.func fm) #[] cm,bv] Ja) (.cells cs.toArray Jb) (.cells (bkC zB).toArray 60);clear hr;generalize ((w.alloc (.cells #[.int .i64 (k:Int),.slice (some ⟨gs,0,none⟩) m cl,.func (.func ft) #[] ct,.func (.func fm) #[] cm,bv] Ja)).alloc (.cells cs.toArray Jb)).alloc (.cells (bkC zB).toArray 60)=w3 at*;refine(H.o.2.2.1 w3 (Upd.below h5)).mono ?_;rintro e w4 ⟨gl,c4,rfl,hc4,hc5,hr4,hb4⟩;have hu4:=qqb hb4;have f1:=(hu4.block _ (zd h1) id).trans h1;have f3:=(hu4.block _ (zd h3) id).trans h3;have m3:w4.cell? ⟨w.heap.size,3,none⟩=some (.func (.func fm) #[] cm):=za f1 3;have H4:=Y5 hr4 (h5.trans hu4) f1 f3 h4;clear h1 h2 h3 h4 h5 hr4 hb4 hu4 f1 f3;go_wp2_with fail
 refine(H.o.2.2.2.1 w4 gl c4 hc4 hc5 (Upd.below H4.o.2.1) H4.o.1).mono ?_;rintro e w5 ⟨rfl,hb5⟩;have hu5:=qqb hb5;obtain⟨r4,u4,f1,f3,z4⟩:=H4.o;have r5:=hu5.range r4 id;have g1:=(hu5.block _ (zd f1) id).trans f1;have g3:=(hu5.block _ (zd f3) id).trans f3;have m0:w5.cell? ⟨w.heap.size,0,none⟩=some (.int .i64 (k:Int)):=za g1 0;have z5:w.heap.size+3<=w5.heap.size:=by have h1:=zd g3;have h2:=hu5.size;have h3:=u4.size;have h4:=zd f3;have h5:=z4;have h6:=H4.o.2.2.2.2;omega
 have H5:=Y4 r5 (u4.trans hu5) g1 g3;clear r4 u4 f1 f3 z4 r5 g1 g3 hu5 hb5 m3;go_wp2_with fail
 generalize hM:w.heap.size=M at*;have HM:=qqh hM;clear hM;refine qZb (S:=fun W=>W.cell? ⟨M,0,none⟩=some (.int .i64 (k:Int))) kR (by rw[qYh];exact m0) (fun hHeld=>?_);refine qYx (i:=1) (v:=?_) rfl kR kR kR (fun _ _ _ h=>h) (Or.inl ⟨by rfl,?_⟩) hHeld ?_
 rotate_left
 .intro W hSw;(try dsimp only at hSw);(try go_split_ands);go_simp;(try with_reducible rfl)
 simp only[Act.put,qXd];refine qYx (i:=2) (v:=?_) rfl kR kR kR (fun _ _ _ h=>h) (Or.inl ⟨by rfl,?_⟩) hHeld ?_
 rotate_left
 .intro W hSw;(try dsimp only at hSw);(try go_split_ands);go_simp;(try with_reducible rfl)
 simp only[Act.put];refine Wl.r 0 (fun K hK=>?_);go_simp
 refine(AD _).mono ?_;rintro e w6 ⟨g,rfl,hW,hge,hB⟩;have hge':w5.heap.size<=g:=hge;refine hK.o _ _ ((uuo (S:=fun _=>False) hB).jS hHeld id) (fun hHeld2=>?_);clear hK K;refine Wl.r 3 (fun K hK=>?_);go_simp
 refine(zca hW k 1 de de jD de).mono ?_;rintro e w7 ⟨rfl,hW2,hU⟩;refine hK.o _ _ (hU.jS hHeld2 oM) (fun hHeld3=>?_);clear hK K;refine Wl.r 4 (fun K hK=>?_);go_simp
 refine hK.o _ _ (hHeld3) (fun _=>?_);clear hK K;refine Wl.d ?_;obtain⟨r5,u5,g1,g3⟩:=H5.o;obtain⟨hs,hN,-,-,hk,hl,hm⟩:=H.o;have u57:Upd (fun j=>j=g) w5 w7:=((uuo (S:=fun _=>False) (yv hB)).mono fE).trans hU;have glt:gl<w5.heap.size\/m=0:=by
  rcases Nat.eq_zero_or_pos m with h|h
  .exact .inr h
  .exact .inl (qYg w5 _ (r5 0 _ (sA oM)))
 have nM:w.heap.size=M:=HM.o;have gslt:gs<w.heap.size\/m=0:=by
  rcases Nat.eq_zero_or_pos m with h|h
  .exact .inr h
  .exact .inl (qYg w _ (hs 0 _ (qw oM)))
 have ws5:=u5.size;have m1:w7.cell? ⟨M,1,none⟩=some (.slice (some ⟨gs,0,none⟩) m cl):=u57.jS (za g1 1) oM;have g3':=(u57.block (M+1+1) (zd g3) oM).trans g3;have hN7:Nib w7:=((hN.keep u5 id).keep u57 (by have:=hN.lt;omega))
 have hlow:Below M w w7:=zj (by rw[<-nM];exact Upd.below u5) u57 (by rw[<-nM];exact qXo _) (fun k e=>oM);have hr7:∀i (hi:i<l.length) W,Upd (fun j=>j=g) w7 W->W.cell? ⟨gl,0+i,none⟩=some (.int .i64 (l[i].1:Int)):=fun i hi W hW=>hW.jS (u57.jS (r5 i _ (sA hi)) oM) oM;have hs7:∀i (hi:i<l.length) W,Upd (fun j=>j=g) w7 W->W.cell? ⟨gs,0+i,none⟩=some (.int .i64 (l[i].2:Int)):=fun i hi W hW=>hW.jS (u57.jS ((u5.range hs id) i _ (qw hi)) oM) oM;have H7:=Y9 hr7 hs7 m1 g3' hN7 hlow hl hm hW2;have hgeM:M<=g:=oM;have hgM:¬M=g:=oM;have hgM2:¬M+1+1=g:=oM;have hMw:=zd g3'
 rename_i hx
 clear hx hHeld hHeld2 hHeld3 hW hge hB hU hW2 hN hs hk hl hm r5 u5 g1 g3 u57 glt gslt nM ws5 m1 g3' hN7 hlow hr7 hs7 m0;go_wp2
 go_loopw[26] (fun s26 wr=>∃i:Nat,i<=m/\s26=.int .i64 i/\WrAt wr g (lowB k 1++encB (l.take i))/\Upd (fun j=>j=g) w7 wr) (fun s26 _=>m-(intOf s26).toNat)
 case atStart=>exact⟨0,qXy _,rfl,by simpa[encB]using H7.o.2.2.2.2.2.2.2.2,uur _ _⟩
 case round=>
  obtain⟨i,hi,rfl,hW,hu⟩:=hrel;by_cases hlt:i<m
  .obtain ⟨hr7,hs7,m1,g3',hN7,hlow,hl,hm,-⟩:=H7.o;have hil:i<l.length:=oM;have x1:=hr7 i hil wr hu;have x2:=hs7 i hil wr hu;have x3:=hu.jS m1 hgM;rw[qXx]at x1 x2;have hfit:=hl.1 l[i] (qyu hil);have hsz:=XX l hil;have hts:Hid (encB (l.take (i+1))=encB (l.take i)++lowB l[i].1 l[i].2):=by show _=_;rw[qXk hil,UP]
   have hlen:(lowB k 1++encB (l.take i)).length+l[i].2<=60:=by
    rw[qyy,zY,uf];have:=hl.2;omega
   have b1:(0:Int)<=(i:Int)/\(i:Int)<(m:Int):=oM;have HX:=Y4 hW hu hfit hlen;clear hr7 hs7 m1 g3' hN7 hlow hl hm hW hu hfit hsz hlen;obtain⟨b1,b2⟩:=b1;generalize l[i]=p at*;go_wp2_with fail
   refine(zca HX.o.1 p.1 p.2 HX.o.2.2.1.2.1 HX.o.2.2.1.2.2 HX.o.2.2.1.1 HX.o.2.2.2).mono ?_;rintro e w8 ⟨rfl,hW8,hU8⟩;have HZ:=Y2 hW8 hU8;clear hW8 hU8;go_wp2
   go_roundw
   case rel=>exact⟨i+1,oM,by go_num,by rw[hts.out,<-qxw];exact HZ.o.1,HX.o.2.1.trans HZ.o.2⟩
   case measure=>simp[intOf];omega
  .obtain rfl:i=m:=oM;obtain⟨hr7,hs7,m1,g3',hN7,hlow,hl,hm,-⟩:=H7.o;have hN8:=hN7.keep hu (by have:=(H.o.2.1).lt;have:=HM.o;omega);rw[qXj oM]at hW;have hg3:=(hu.block (M+1+1) (zd g3') hgM2).trans g3';have hlen:Hid ((sectB k l).length=64):=vn hl.2;have HX:=Y6 hW hN8 hu hg3 hlow hl;have hus:=hu.size;clear hr7 hs7 m1 g3' hN7 hlow hl hm hW hu hN8 hg3;go_wp2_with fail
   refine(zcc HX.o.1 HX.o.2.1).mono ?_;rintro e w9 ⟨rfl,hb9⟩;have hg9:=(hb9.block (M+1+1) (zd HX.o.2.2.2.1)).trans HX.o.2.2.2.1;have hth:w9.there (M+1+1) 0 64:=fun j hj=>by
    rw[za hg9,zf hg9];exact⟨by rw[qXx,qxe oR];rfl,rfl⟩
   have hbl:Hid (Below M w w9):=(zj HX.o.2.2.2.2.1 HX.o.2.2.1 jq (fun k e=>oM)).trans (hb9.mono oM);have hsl:=hlen.out;have hst:w9.there (M+1+1) 0 (bkC (sectB k l)).toArray.size:=by rw[zn _ hsl];exact hth
   have hst2:w9.there (M+1+1) 0 (bkC (sectB k l)).length:=by rw[zm,hsl];exact hth
   have hsz2:(prog.info? 60).map (·.size)=some (bkC (sectB k l)).toArray.size:=by rw[zn _ hsl];exact zF
   have HST:=Y4 hst hsz2 hst2 hsl;clear hst hsz2 hst2 hsl hg9 hth hb9 hlen;rw[show sealB (padB (lowB k 1++encB l))=sectB k l from rfl];generalize hsb:sectB k l=sb at*;have Hsb:=qqh hsb;clear hsb;go_wp2_with (first
    |(refine qZa rfl _ _ _ rfl _ _ (bkC sb).toArray rfl rfl HST.o.1 HST.o.2.1 (qYn (zu _)) ?_)
    |fail)
   refine qYp (zp rfl _ _ (M+1+1) 0 (bkC sb) _ rfl (qYk _ _ _ _ HST.o.2.2.1) underlying60 rfl (zq _ HST.o.2.2.2)) rfl
     ⟨by rw[Hsb.out];rfl,?_⟩
   rw[HM.o];exact zj hbl.out (zo w9 (M+1+1) 0 _) jq (fun k e=>oM)):P:=h
theorem wK{P:Prop}(h:P:=by
 have H:=Y2 htell hmay;have HC:=qqh hcs;clear htell hmay hcs;have hr:((w.alloc (.cells #[.int .i64 (k:Int),.slice (some ⟨gs,0,none⟩) m cl,.func (.func ft) #[] ct,.func (.func fm) #[] cm,bv] Ja)).alloc (.cells cs.toArray Jb)).rangeAt (w.heap.size+1) 0 cs:=zg (zc _ _ oe);go_enter q3c,q4c
 go_wp2_with (first
  |(refine qYy rfl _ _ rfl _ _ rfl _ _ (qYi hr _) q5c rfl HC.o ?_)
  |fail)
 show Calls _ _ _ (((w.alloc (.cells #[.int .i64 (k:Int),.slice (some ⟨gs,0,none⟩) m cl,.func (.func ft) #[] ct,.func (.func fm) #[] cm,bv] Ja)).alloc (.cells cs.toArray Jb)).alloc (.cells (bkC zB).toArray 60)) _;obtain⟨h1,h2,h3,h4,h5⟩:=xp w (.cells #[.int .i64 (k:Int),.slice (some ⟨gs,0,none⟩) m cl,.func (.func ft) #[] ct,.func (.func fm) #[] cm,bv] Ja) (.cells cs.toArray Jb) (.cells (bkC zB).toArray 60);clear hr;generalize ((w.alloc (.cells #[.int .i64 (k:Int),.slice (some ⟨gs,0,none⟩) m cl,.func (.func ft) #[] ct,.func (.func fm) #[] cm,bv] Ja)).alloc (.cells cs.toArray Jb)).alloc (.cells (bkC zB).toArray 60)=w3 at*;refine(H.o.1 w3 (Upd.below h5)).mono ?_;rintro e w4 ⟨gl,c4,rfl,hc4,hc5,hr4,hb4⟩;have hu4:=qqb hb4;have f1:=(hu4.block _ (zd h1) id).trans h1;have f3:=(hu4.block _ (zd h3) id).trans h3;have m3:w4.cell? ⟨w.heap.size,3,none⟩=some (.func (.func fm) #[] cm):=za f1 3;have H4:=Y5 hr4 (h5.trans hu4) f1 f3 h4;clear h1 h2 h3 h4 h5 hr4 hb4 hu4 f1 f3;go_wp2_with fail
 refine(H.o.2 w4 gl c4 hc4 hc5 (Upd.below H4.o.2.1) H4.o.1).mono ?_;rintro e w5 ⟨rfl,hb5⟩;have hu5:=qqb hb5;obtain⟨r4,u4,f1,f3,z4⟩:=H4.o;have g3:=(hu5.block _ (zd f3) id).trans f3;have hth:w5.there (w.heap.size+1+1) 0 64:=fun j hj=>by
  rw[za g3,zf g3];exact⟨by rw[qXx,qxe oR];rfl,rfl⟩
 obtain⟨z,Hz⟩:∃z:Bk,Hid (z=zB):=⟨zB,rfl⟩
 have hst:w5.there (w.heap.size+1+1) 0 (bkC z).toArray.size:=by rw[Hz.out,zn _ zH];exact hth
 have hst2:w5.there (w.heap.size+1+1) 0 (bkC z).length:=by rw[Hz.out,zm,zH];exact hth
 have hsz2:(prog.info? 60).map (·.size)=some (bkC z).toArray.size:=by rw[Hz.out,zn _ zH];exact zF
 have HST:=Y3 hst hsz2 hst2;have HU:=qqh (u4.trans hu5);clear r4 u4 f1 f3 z4 hst hst2 hsz2 hth hu5 hb5 g3 m3;go_wp2_with (first
   |(refine qZa rfl _ _ _ rfl _ _ (bkC z).toArray rfl (by rw[Hz.out];rfl) HST.o.1 HST.o.2.1 (qYn (zu _)) ?_)
   |fail)
 exact qYp (zp rfl _ _ (w.heap.size+1+1) 0 (bkC z) _ rfl (qYk _ _ _ _ HST.o.2.2) underlying60 rfl (by rw[Hz.out];exact zq zB zH)) rfl
  ⟨by rw[Hz.out];rfl,zj (Upd.below HU.o) (zo w5 (w.heap.size+1+1) 0 _) (qXo _) (fun k e=>oM)⟩):P:=h
namespace fPutR
abbrev Ja:Nat:=404
abbrev Jb:Nat:=307
theorem q3c:type_of% @func426:= @func426
theorem q4c:type_of% @ntmps426:= @ntmps426
theorem q5c:type_of% @underlying307:= @underlying307
end fPutR
open fPutR in
theorem YI{w:World}(k:Nat)(hk:k<256)(l:List (Nat×Nat))(hl:Zn l)(m:Nat)(hm:l.length=m)(hm2:m<=100)(gs cl:Nat)(ft fm:Nat)(ct cm:Array Value)(bv:Value)(_hbv:bv.oneCell'=true)(cs:List Value)
  (hcs:(prog.info? 307).map (·.size)=some cs.length) (hs:w.rangeAt gs 0 (ints (wI l))) (hN:Nib w)
  (entT:∀args w,(callFunc ft args).run prog w=.ok (.enter ft args) w) (entM:∀args w,(callFunc fm args).run prog w=.ok (.enter fm args) w)
  (htell:∀W,Below w.heap.size w W->Calls prog ft (#[.agg cs.toArray]++ct) W (zR W m (numsL l)))
  (hmay:∀W gl c,m<=c->c<=maxLen->Below w.heap.size w W->W.rangeAt gl 0 (ints (numsL l))->Calls prog fm (#[.slice (some ⟨gl,0,none⟩) m c]++cm) W fun e W'=>e=.returned (.bool true)/\Below W.heap.size W W'):
  Calls prog 426 #[.agg #[.int .i64 (k:Int),.slice (some ⟨gs,0,none⟩) m cl,.func (.func ft) #[] ct,.func (.func fm) #[] cm,bv],.agg cs.toArray] w
   fun e w'=>e=.returned (.tuple #[.agg (bkC (sectB k l)).toArray,.int .i64 0])/\Below w.heap.size w w':=wj
open fPutR in
theorem Vu{w:World}(k:Nat)(xs:List Int)(m:Nat)(gs cl:Nat)(ft fm:Nat)(ct cm:Array Value)(bv:Value)(_hbv:bv.oneCell'=true)(cs:List Value)
  (hcs:(prog.info? 307).map (·.size)=some cs.length)
  (entT:∀args w,(callFunc ft args).run prog w=.ok (.enter ft args) w) (entM:∀args w,(callFunc fm args).run prog w=.ok (.enter fm args) w)
  (htell:∀W,Below w.heap.size w W->Calls prog ft (#[.agg cs.toArray]++ct) W (zR W m xs))
  (hmay:∀W gl c,m<=c->c<=maxLen->Below w.heap.size w W->W.rangeAt gl 0 (ints xs)->Calls prog fm (#[.slice (some ⟨gl,0,none⟩) m c]++cm) W fun e W'=>e=.returned (.bool false)/\Below W.heap.size W W'):
  Calls prog 426 #[.agg #[.int .i64 (k:Int),.slice (some ⟨gs,0,none⟩) m cl,.func (.func ft) #[] ct,.func (.func fm) #[] cm,bv],.agg cs.toArray] w
   fun e w'=>e=.returned (.tuple #[bkV zB,.int .i64 10])/\Below w.heap.size w w':=wK
namespace fPutS
abbrev Ja:Nat:=141
abbrev Jb:Nat:=44
theorem q3c:type_of% @func76:= @func76
theorem q4c:type_of% @ntmps76:= @ntmps76
theorem q5c:type_of% @underlying44:= @underlying44
end fPutS
open fPutS in
theorem Qq{w:World}(k:Nat)(hk:k<256)(l:List (Nat×Nat))(hl:Zn l)(m:Nat)(hm:l.length=m)(hm2:m<=100)(gs cl:Nat)(ft fm:Nat)(ct cm:Array Value)(bv:Value)(_hbv:bv.oneCell'=true)(cs:List Value)
  (hcs:(prog.info? 44).map (·.size)=some cs.length) (hs:w.rangeAt gs 0 (ints (wI l))) (hN:Nib w)
  (entT:∀args w,(callFunc ft args).run prog w=.ok (.enter ft args) w) (entM:∀args w,(callFunc fm args).run prog w=.ok (.enter fm args) w)
  (htell:∀W,Below w.heap.size w W->Calls prog ft (#[.agg cs.toArray]++ct) W (zR W m (numsL l)))
  (hmay:∀W gl c,m<=c->c<=maxLen->Below w.heap.size w W->W.rangeAt gl 0 (ints (numsL l))->Calls prog fm (#[.slice (some ⟨gl,0,none⟩) m c]++cm) W fun e W'=>e=.returned (.bool true)/\Below W.heap.size W W'):
  Calls prog 76 #[.agg #[.int .i64 (k:Int),.slice (some ⟨gs,0,none⟩) m cl,.func (.func ft) #[] ct,.func (.func fm) #[] cm,bv],.agg cs.toArray] w
   fun e w'=>e=.returned (.tuple #[.agg (bkC (sectB k l)).toArray,.int .i64 0])/\Below w.heap.size w w':=wj
open fPutS in
theorem Jp{w:World}(k:Nat)(xs:List Int)(m:Nat)(gs cl:Nat)(ft fm:Nat)(ct cm:Array Value)(bv:Value)(_hbv:bv.oneCell'=true)(cs:List Value)
  (hcs:(prog.info? 44).map (·.size)=some cs.length)
  (entT:∀args w,(callFunc ft args).run prog w=.ok (.enter ft args) w) (entM:∀args w,(callFunc fm args).run prog w=.ok (.enter fm args) w)
  (htell:∀W,Below w.heap.size w W->Calls prog ft (#[.agg cs.toArray]++ct) W (zR W m xs))
  (hmay:∀W gl c,m<=c->c<=maxLen->Below w.heap.size w W->W.rangeAt gl 0 (ints xs)->Calls prog fm (#[.slice (some ⟨gl,0,none⟩) m c]++cm) W fun e W'=>e=.returned (.bool false)/\Below W.heap.size W W'):
  Calls prog 76 #[.agg #[.int .i64 (k:Int),.slice (some ⟨gs,0,none⟩) m cl,.func (.func ft) #[] ct,.func (.func fm) #[] cm,bv],.agg cs.toArray] w
   fun e w'=>e=.returned (.tuple #[bkV zB,.int .i64 10])/\Below w.heap.size w w':=wK
namespace fPutP
abbrev Ja:Nat:=393
abbrev Jb:Nat:=297
theorem q3c:type_of% @func268:= @func268
theorem q4c:type_of% @ntmps268:= @ntmps268
theorem q5c:type_of% @underlying297:= @underlying297
end fPutP
open fPutP in
theorem YJ{w:World}(k:Nat)(hk:k<256)(l:List (Nat×Nat))(hl:Zn l)(m:Nat)(hm:l.length=m)(hm2:m<=100)(gs cl:Nat)(ft fm:Nat)(ct cm:Array Value)(bv:Value)(_hbv:bv.oneCell'=true)(cs:List Value)
  (hcs:(prog.info? 297).map (·.size)=some cs.length) (hs:w.rangeAt gs 0 (ints (wI l))) (hN:Nib w)
  (entT:∀args w,(callFunc ft args).run prog w=.ok (.enter ft args) w) (entM:∀args w,(callFunc fm args).run prog w=.ok (.enter fm args) w)
  (htell:∀W,Below w.heap.size w W->Calls prog ft (#[.agg cs.toArray]++ct) W (zR W m (numsL l)))
  (hmay:∀W gl c,m<=c->c<=maxLen->Below w.heap.size w W->W.rangeAt gl 0 (ints (numsL l))->Calls prog fm (#[.slice (some ⟨gl,0,none⟩) m c]++cm) W fun e W'=>e=.returned (.bool true)/\Below W.heap.size W W'):
  Calls prog 268 #[.agg #[.int .i64 (k:Int),.slice (some ⟨gs,0,none⟩) m cl,.func (.func ft) #[] ct,.func (.func fm) #[] cm,bv],.agg cs.toArray] w
   fun e w'=>e=.returned (.tuple #[.agg (bkC (sectB k l)).toArray,.int .i64 0])/\Below w.heap.size w w':=wj
open fPutP in
theorem Vv{w:World}(k:Nat)(xs:List Int)(m:Nat)(gs cl:Nat)(ft fm:Nat)(ct cm:Array Value)(bv:Value)(_hbv:bv.oneCell'=true)(cs:List Value)
  (hcs:(prog.info? 297).map (·.size)=some cs.length)
  (entT:∀args w,(callFunc ft args).run prog w=.ok (.enter ft args) w) (entM:∀args w,(callFunc fm args).run prog w=.ok (.enter fm args) w)
  (htell:∀W,Below w.heap.size w W->Calls prog ft (#[.agg cs.toArray]++ct) W (zR W m xs))
  (hmay:∀W gl c,m<=c->c<=maxLen->Below w.heap.size w W->W.rangeAt gl 0 (ints xs)->Calls prog fm (#[.slice (some ⟨gl,0,none⟩) m c]++cm) W fun e W'=>e=.returned (.bool false)/\Below W.heap.size W W'):
  Calls prog 268 #[.agg #[.int .i64 (k:Int),.slice (some ⟨gs,0,none⟩) m cl,.func (.func ft) #[] ct,.func (.func fm) #[] cm,bv],.agg cs.toArray] w
   fun e w'=>e=.returned (.tuple #[bkV zB,.int .i64 10])/\Below w.heap.size w w':=wK
def rowI(xs:List Int)(i:Nat):List Int:=(xs.drop (4+4*i)).take 4
theorem xR{xs:List Int}(h:xs.length=20){i:Nat}(hi:i<4):(rowI xs i).length=4:=by simp[rowI];omega
def bndE:List (Int×Int):=[(0,4095),(0,1023),(0,1),(0,4294967295)]
def entB(xs:List Int)(i:Nat):Bool:=if(i:Int)<xs.getD 3 0 then withinB bndE (rowI xs i)else decide (rowI xs i=[0,0,0,0])
def entsB(xs:List Int):Bool:=(List.range 4).all (entB xs)
def bndP:List (Int×Int):=[(0,1099511627776),(0,255),(1,256),(0,4)]
def mayP(xs:List Int):Bool:=withinB bndP xs&&decide (xs.getD 1 0<xs.getD 2 0)&&entsB xs
theorem Wb:(prog.info? 444).map (·.size)=some 4:=kR
theorem YK(xs:List Int):∀v∈ints xs,v.oneCell'=true:=by
 intro v hv;simp only[ints,qzq]at hv;obtain⟨x,-,rfl⟩:=hv;rfl
theorem Vw{w:World}{g o c:Nat}{xs:List Int}(hr:w.rangeAt g o (ints xs))(hx:xs.length=20)(hc:20<=c)(hm:c<=maxLen)(i:Nat)(hi:i<4):
  Calls prog 347 #[.slice (some ⟨g,o,none⟩) 20 c,.int .i64 (i:Int)] w fun e w'=>e=.returned (.agg (ints (rowI xs i)).toArray)/\Below w.heap.size w w':=by
 have hr2:w.rangeAt g (o+(4+4*i)) (ints (rowI xs i)):=fun j v hv=>by
  have hj:=(qyl.1 hv).1;rw[ints,qzb,xR hx hi]at hj;rw[qXl];refine hr _ v ?_;rw[<-hv,ints,ints,qym,qym,rowI,qyp,if_pos hj,qyi]
 have hl:(ints (rowI xs i)).length=4:=by rw[ints,qzb,xR hx hi]
 have hsz:(prog.info? 444).map (·.size)=some (ints (rowI xs i)).length:=by rw[hl];exact Wb
 have h1:=YK (rowI xs i);have hat:=fun(w:World) (a:Option Addr) (cc:Nat)=>run_arrayAt (P:=prog) w 444 3 4 a (8+4*i-(4+4*i)) cc underlying444 oM;unfold maxLen at hm;have b1:(i:Int)<4:=oM;have b2:(0:Int)<=(i:Int):=oM;have b3:(4:Int)+4*(i:Int)<=8+4*(i:Int):=oM;have b4:(8:Int)+4*(i:Int)<=(c:Int):=oM;have e1:((4:Int)+4*(i:Int)).toNat=4+4*i:=oM;have e2:((8:Int)+4*(i:Int)).toNat=8+4*i:=oM;have hne:¬c=4+4*i:=oM;have hrA:=qYi hr2 (.cells #[.int .i64 0,.int .i64 0,.int .i64 0,.int .i64 0] 444);generalize ints (rowI xs i)=L at*;have H:=Y3 hl hsz h1;clear hr hx hl h1 hr2 hsz;go_enter func347,ntmps347
 go_wp2_with (first
  |refine qYy rfl _ _ rfl _ _ rfl _ _ hrA underlying444 rfl H.o.2.1 ?_
  |(refine zk rfl _ _ _ rfl _ _ _ rfl rfl (by rw[H.o.1];rfl) H.o.2.1 H.o.2.2 ?_)
  |fail)
 exact qYp (zv rfl _ _ w.heap.size 0 L _ rfl (zg (zc w _ rfl)) underlying444 rfl H.o.2.1) rfl ⟨rfl,(qxl _ w).alloc (qXo _) _⟩
theorem Qr{w:World}{g o c:Nat}{xs:List Int}(hr:w.rangeAt g o (ints xs))(hx:xs.length=20)(hc:20<=c)(hm:c<=maxLen):
  Calls prog 345 #[.slice (some ⟨g,o,none⟩) 20 c] w fun e w'=>e=.returned (.bool (entsB xs))/\Below w.heap.size w w':=by
 have hgl:g<w.heap.size:=qYg w _ (yP hr (i:=0) oM);have H:=Y4 hr hx hc hm;clear hr hx hc hm;go_enter func345,ntmps345
 go_wp2
 go_step3
 go_wp2_with fail
 refine(xo).mono ?_;rintro e w1 ⟨rfl,rfl⟩;have hrb:(w.alloc (.cells (bndC bndE).toArray 207)).rangeAt w.heap.size 0 (bndC bndE):=zg (zc w _ rfl);have hz1:(w.alloc (.cells (bndC bndE).toArray 207)).heap.size=w.heap.size+1:=oe;have hBnd:Bnd ((w.alloc (.cells #[.int .i64 0,.int .i64 4095,.int .i64 0,.int .i64 1023,.int .i64 0,.int .i64 1,.int .i64 0,.int .i64 4294967295] 207)).alloc (.cells #[.slice (some ⟨w.heap.size,0,none⟩) 4 4] 294)) (.func (.func 194) #[] #[.pointer (some ⟨w.heap.size+1,0,none⟩)]) bndE:=by
  have:=Bnd.made (c:=4) hrb;rw[hz1]at this;exact this
 have hb2:Below w.heap.size w ((w.alloc (.cells #[.int .i64 0,.int .i64 4095,.int .i64 0,.int .i64 1023,.int .i64 0,.int .i64 1,.int .i64 0,.int .i64 4294967295] 207)).alloc (.cells #[.slice (some ⟨w.heap.size,0,none⟩) 4 4] 294)):=((qxl _ w).alloc (qXo _) _).alloc oe _;clear hrb hz1;go_wp2
 go_step3
 go_wp2
 generalize (w.alloc (.cells #[.int .i64 0,.int .i64 4095,.int .i64 0,.int .i64 1023,.int .i64 0,.int .i64 1,.int .i64 0,.int .i64 4294967295] 207)).alloc (.cells #[.slice (some ⟨w.heap.size,0,none⟩) 4 4] 294)=w2 at*;have HB:=Y2 hBnd hb2;clear hBnd hb2;go_loopw[4,13] (fun s4 s13 wr=>∃k:Nat,k<=4/\s13=.int .i64 k/\s4=.bool true/\(List.range k).all (entB xs)=true/\Below w.heap.size w wr/\Bnd wr (.func (.func 194) #[] #[.pointer (some ⟨w.heap.size+1,0,none⟩)]) bndE) (fun _ s13 _=>4-(intOf s13).toNat)
 case atStart=>exact⟨0,oM,rfl,rfl,oe,HB.o.2,HB.o.1⟩
 case round=>
  obtain⟨k,hk,rfl,rfl,hall,hb,hBn⟩:=hrel;have HA:=Y3 hall hb hBn;by_cases hlt:k<4
  .have hnext:Hid (∀b,entB xs k=b->(List.range (k+1)).all (entB xs)=b):=fun b hb=>by
    rw[qXc,List.all_append,HA.o.1];simp[hb]
   have hstop:Hid (entB xs k=false->entsB xs=false):=fun hb=>by
    unfold entsB;rw[<-Bool.not_eq_true];intro e;rw[qxv]at e;have:=e k og;rw[hb]at this;cases this
   have hxl:=H.o.2.1;obtain⟨x3,hx3⟩:∃x3,xs.getD 3 0=x3:=⟨_,rfl⟩
   have c3:wr.cell? ⟨g,o+3,none⟩=some (.int .i64 x3):=by
    have:=yP (Below.range hb H.o.1) (i:=3) oM;rw[this,<-hx3];simp[List.getD_eq_getElem?_getD,show 3<xs.length by omega]
   have b1:(0:Int)<=(k:Int):=oM;have b2:(k:Int)<4:=oM;have hcc:=H.o.2.2.1;have hcm:=H.o.2.2.2;unfold maxLen at hcm;have hrl:Hid ((rowI xs k).length=4):=xR hxl hlt;have hsz:(prog.info? 444).map (·.size)=some (ints (rowI xs k)).length:=by rw[ints,qzb,hrl.out];exact Wb
   have h1:=YK (rowI xs k);have hRow:=qqh (Vw (Below.range hb H.o.1) hxl hcc H.o.2.2.2 k hlt);have HS:=Y2 hsz h1;have hent:Hid (entB xs k=if(k:Int)<x3 then withinB bndE (rowI xs k)else decide (rowI xs k=[0,0,0,0])):=by show _=_;rw[entB,hx3]
   clear hx3 hall hb hBn hxl hsz h1;by_cases h3:(k:Int)<x3
   .have q3:decide ((k:Int)<x3)=true:=by simpa using h3
    have hent2:Hid (entB xs k=withinB bndE (rowI xs k)):=by show _=_;rw[hent.out,if_pos h3]
    clear hent h3;obtain⟨bb,hbb⟩:∃bb,withinB bndE (rowI xs k)=bb:=⟨_,rfl⟩
    have HBB:=qqh hbb;cases bb
    all_goals
     clear hbb;go_wp2_with fail
     refine hRow.out.mono ?_;rintro e wa ⟨rfl,hba⟩;have hra:(wa.alloc (.cells (ints (rowI xs k)).toArray 444)).rangeAt wa.heap.size 0 (ints (rowI xs k)):=zg (zc wa _ rfl);have hua:Upd (fun _=>False) wr (wa.alloc (.cells (ints (rowI xs k)).toArray 444)):=(uuo hba).alloc _;have hBa:=HA.o.2.2.below (Upd.below hua);have c3a:=hua.jS c3 id;have hbw:Below w.heap.size w (wa.alloc (.cells (ints (rowI xs k)).toArray 444)):=HA.o.2.1.trans ((Upd.below hua).mono HA.o.2.1.size);have HW:=Y3 hra hBa hbw;clear hra hua hBa hbw hba;go_wp2_with (first
      |(refine zk rfl _ _ _ rfl _ _ _ rfl rfl (by rw[ints,qzb,hrl.out];rfl) HS.o.1 HS.o.2 ?_)
      |fail)
     obtain⟨gB,hB',cB,hvB,hcB,hrB⟩:=HW.o.2.1;injection hvB with _ _ hvB
     injection hvB with hvB
     injection hvB with hvB
     injection hvB with hvB
     injection hvB with hvB
     injection hvB with hvB
     subst hvB;refine(yQ bndE (rowI xs k) hcB hrB HW.o.1 hrl.out (by show 4<=4;decide) de).mono ?_;rw[HBB.o];rintro e wb ⟨rfl,hbb⟩;have hbw:Below w.heap.size w wb:=HW.o.2.2.trans (hbb.mono HW.o.2.2.size);have hBb:=HW.o.2.1.below hbb;have HV:=Y2 hbw hBb;clear hbw hBb hbb hcB hrB;go_wp2
    .rw [qxq];go_ret
     exact⟨by rw[hstop.out jy];rfl,HV.o.1⟩
    .go_roundw
     case rel=>exact⟨k+1,oM,by go_num,rfl,hnext.out true jy,HV.o.1,HV.o.2⟩
     case measure=>simp[intOf];omega
   .have q3:decide ((k:Int)<x3)=false:=by simpa using h3
    have hent2:Hid (entB xs k=(rowI xs k==[0,0,0,0])):=by show _=_;rw[hent.out,if_neg h3];exact(Bool.beq_eq_decide_eq _ _).symm
    clear hent h3;obtain⟨bb,hbb⟩:∃bb,(rowI xs k==[0,0,0,0])=bb:=⟨_,rfl⟩
    have HBB:=qqh hbb;have heq:∀w,(binOp .eql 444 (.agg (ints (rowI xs k)).toArray) (.agg #[.int .i64 0,.int .i64 0,.int .i64 0,.int .i64 0])).run prog w=.ok (.bool bb) w:=fun w=>by
     obtain⟨i,hi,hs⟩:=qYb.1 Vt;simp only[qYd]at hs;rw[<-hbb];exact Zl w 444 3 4 underlying444 underlying3 (fun w=>by simp[sizeOf,typeInfo,hi,hs.2.1]) (rowI xs k) [0,0,0,0] hrl.out rfl
    cases bb
    all_goals
     clear hbb;go_wp2_with fail
     refine hRow.out.mono ?_;rintro e wa ⟨rfl,hba⟩;have hra:(wa.alloc (.cells (ints (rowI xs k)).toArray 444)).rangeAt wa.heap.size 0 (ints (rowI xs k)):=zg (zc wa _ rfl);have hua:Upd (fun _=>False) wr (wa.alloc (.cells (ints (rowI xs k)).toArray 444)):=(uuo hba).alloc _;have hBa:=HA.o.2.2.below (Upd.below hua);have c3a:=hua.jS c3 id;have hbw:Below w.heap.size w (wa.alloc (.cells (ints (rowI xs k)).toArray 444)):=HA.o.2.1.trans ((Upd.below hua).mono HA.o.2.1.size);have HW:=Y3 hra hBa hbw;clear hua hBa hbw hba;go_wp2_with (first
      |(refine zk rfl _ _ _ rfl _ _ _ rfl rfl (by rw[ints,qzb,hrl.out];rfl) HS.o.1 HS.o.2 ?_)
      |(refine qYy rfl _ _ rfl _ _ rfl _ _ hra underlying444 rfl HS.o.1 ?_)
      |fail)
    .rw [qxq];go_ret
     exact⟨by rw[hstop.out jy];rfl,HW.o.2.2⟩
    .go_roundw
     case rel=>exact⟨k+1,oM,by go_num,rfl,hnext.out true jy,HW.o.2.2,HW.o.2.1⟩
     case measure=>simp[intOf];omega
  .obtain rfl:k=4:=oM;have hE:Hid (entsB xs=true):=hall;have HZ:=qqh hb;clear hall hb hBn;go_wp2
   rw[qxq];go_ret
   exact⟨by rw[hE.out];rfl,HZ.o⟩
theorem qD{w:World}{gl ol cl gt:Nat}{v:Value}(xs:List Int)(hxl:xs.length=20)(hcl:20<=cl)(hcm:cl<=maxLen)(hv:w.cell? ⟨gt,0,none⟩=some v)(hB:Bnd w v bndP)(hx:w.rangeAt gl ol (ints xs)):
  Calls prog 344 #[.slice (some ⟨gl,ol,none⟩) 20 cl,.pointer (some ⟨gt,0,none⟩)] w fun e w'=>e=.returned (.bool (mayP xs))/\Below w.heap.size w w':=by
 obtain⟨g,h,cc,rfl,hc,hr⟩:=hB;obtain⟨x1,hx1⟩:∃x1,xs.getD 1 0=x1:=⟨_,rfl⟩
 obtain⟨x2,hx2⟩:∃x2,xs.getD 2 0=x2:=⟨_,rfl⟩
 have c1:w.cell? ⟨gl,ol+1,none⟩=some (.int .i64 x1):=by
  rw[yP hx (i:=1) oM,<-hx1];simp[List.getD_eq_getElem?_getD,show 1<xs.length by omega]
 have c2:w.cell? ⟨gl,ol+2,none⟩=some (.int .i64 x2):=by
  rw[yP hx (i:=2) oM,<-hx2];simp[List.getD_eq_getElem?_getD,show 2<xs.length by omega]
 have hud:Upd (fun _=>False) w w.drew:=(uur _ _).drew;have HX:=Y6 (hud.range hx id) (hud.jS hc id) (hud.range hr id) hxl hcl hcm;have HM:Hid (mayP xs=(withinB bndP xs&&decide (x1<x2)&&entsB xs)):=by show _=_;rw[mayP,hx1,hx2]
 clear hx hr hc hud hx1 hx2 hxl hcm;obtain⟨wb,hw⟩:∃wb,withinB bndP xs=wb:=⟨_,rfl⟩
 have HW:=qqh hw;cases wb
 .rw [hw]at HM;clear hw;go_enter func344,ntmps344
  go_wp2
  refine qZb (S:=fun W=>W.cell? ⟨gt,0,none⟩=some (.func (.func 194) #[] #[.pointer (some ⟨g,0,none⟩)])/\W.cell? ⟨gl,ol+1,none⟩=some (.int .i64 x1)/\W.cell? ⟨gl,ol+2,none⟩=some (.int .i64 x2)) kR (by(simp only[qYh]);exact⟨hv,c1,c2⟩) (fun hHeld=>?_);refine Wl.i [0,1] ?_;iterate 2 refine Wl.t hHeld ?_
  refine Wl.o ?_;refine Wl.r 2 (fun K hK=>?_);go_simp
  refine(yQ bndP xs HX.o.2.1 HX.o.2.2.1 HX.o.1 HX.o.2.2.2.1 (by show 4<=20;decide) de).mono ?_;rw[HW.o];rintro e w' ⟨rfl,hb⟩;refine hK.o _ _ (have hU:=uuo (S:=fun _=>False) hb;⟨hU.jS hHeld.1 id,hU.jS hHeld.2.1 id,hU.jS hHeld.2.2 id⟩) (fun hH1=>?_);clear hK K;refine Wl.i [3,4,5,6,7,8,9,10] ?_;iterate 8 refine Wl.t hH1 ?_
  refine Wl.o ?_;refine Wl.r 11 (fun K hK=>?_);go_simp
  refine hK.o _ _ (hH1) (fun hH2=>?_);clear hK K;refine Wl.i [12,13,14] ?_;iterate 3 refine Wl.t hH2 ?_
  refine Wl.o ?_;refine Wl.r 15 (fun K hK=>?_);go_simp
  refine hK.o _ _ (hH2) (fun hH3=>?_);clear hK K;refine Wl.r 16 (fun K hK=>?_);go_simp
  refine hK.o _ _ (hH3) (fun hH4=>?_);clear hK K;refine Wl.d ?_;have HB2:Hid (Below w.heap.size w w'):=yv hb;clear hb;go_wp2
  go_ret
  exact⟨by rw[HM.o];rfl,HB2.o⟩
 .rw [hw]at HM;clear hw;by_cases h12:x1<x2
  .have q12:decide (x1<x2)=true:=by simpa using h12
   rw[q12]at HM;clear h12;obtain⟨eb,he⟩:∃eb,entsB xs=eb:=⟨_,rfl⟩
   have HE:=qqh he;rw[he]at HM;clear he;go_enter func344,ntmps344
   go_wp2
   refine qZb (S:=fun W=>W.cell? ⟨gt,0,none⟩=some (.func (.func 194) #[] #[.pointer (some ⟨g,0,none⟩)])/\W.cell? ⟨gl,ol+1,none⟩=some (.int .i64 x1)/\W.cell? ⟨gl,ol+2,none⟩=some (.int .i64 x2)) kR (by(simp only[qYh]);exact⟨hv,c1,c2⟩) (fun hHeld=>?_);refine Wl.i [0,1] ?_;iterate 2 refine Wl.t hHeld ?_
   refine Wl.o ?_;refine Wl.r 2 (fun K hK=>?_);go_simp
   refine(yQ bndP xs HX.o.2.1 HX.o.2.2.1 HX.o.1 HX.o.2.2.2.1 (by show 4<=20;decide) de).mono ?_;rw[HW.o];rintro e w' ⟨rfl,hb⟩;refine hK.o _ _ (have hU:=uuo (S:=fun _=>False) hb;⟨hU.jS hHeld.1 id,hU.jS hHeld.2.1 id,hU.jS hHeld.2.2 id⟩) (fun hH1=>?_);clear hK K;refine Wl.i [3,4,5,6,7,8,9,10] ?_;iterate 8 refine Wl.t hH1 ?_
   refine Wl.o ?_;refine Wl.r 11 (fun K hK=>?_);go_simp
   refine hK.o _ _ (hH1) (fun hH2=>?_);clear hK K;refine Wl.i [12,13] ?_;iterate 2 refine Wl.t hH2 ?_
   refine Wl.o ?_;refine Wl.r 14 (fun K hK=>?_);go_simp
   refine(Qr (Below.range hb HX.o.1) HX.o.2.2.2.1 HX.o.2.2.2.2.1 HX.o.2.2.2.2.2).mono ?_;rw[HE.o];rintro e w'' ⟨rfl,hb2⟩;refine hK.o _ _ (have hU:=uuo (S:=fun _=>False) hb2;⟨hU.jS hH2.1 id,hU.jS hH2.2.1 id,hU.jS hH2.2.2 id⟩) (fun hH3=>?_);clear hK K;refine Wl.r 15 (fun K hK=>?_);go_simp
   refine hK.o _ _ (hH3) (fun hH4=>?_);clear hK K;refine Wl.r 16 (fun K hK=>?_);go_simp
   refine hK.o _ _ (hH4) (fun hH5=>?_);clear hK K;refine Wl.d ?_;have HB2:Hid (Below w.heap.size w w''):=yv (hb.trans (hb2.mono hb.size));clear hb hb2;go_wp2
   go_ret
   exact⟨by rw[HM.o];cases eb<;>rfl,HB2.o⟩
  .have q12:decide (x1<x2)=false:=by simpa using h12
   rw[q12]at HM;clear h12;go_enter func344,ntmps344
   go_wp2
   refine qZb (S:=fun W=>W.cell? ⟨gt,0,none⟩=some (.func (.func 194) #[] #[.pointer (some ⟨g,0,none⟩)])/\W.cell? ⟨gl,ol+1,none⟩=some (.int .i64 x1)/\W.cell? ⟨gl,ol+2,none⟩=some (.int .i64 x2)) kR (by(simp only[qYh]);exact⟨hv,c1,c2⟩) (fun hHeld=>?_);refine Wl.i [0,1] ?_;iterate 2 refine Wl.t hHeld ?_
   refine Wl.o ?_;refine Wl.r 2 (fun K hK=>?_);go_simp
   refine(yQ bndP xs HX.o.2.1 HX.o.2.2.1 HX.o.1 HX.o.2.2.2.1 (by show 4<=20;decide) de).mono ?_;rw[HW.o];rintro e w' ⟨rfl,hb⟩;refine hK.o _ _ (have hU:=uuo (S:=fun _=>False) hb;⟨hU.jS hHeld.1 id,hU.jS hHeld.2.1 id,hU.jS hHeld.2.2 id⟩) (fun hH1=>?_);clear hK K;refine Wl.i [3,4,5,6,7,8,9,10] ?_;iterate 8 refine Wl.t hH1 ?_
   refine Wl.o ?_;refine Wl.r 11 (fun K hK=>?_);go_simp
   refine hK.o _ _ (hH1) (fun hH2=>?_);clear hK K;refine Wl.i [12,13,14] ?_;iterate 3 refine Wl.t hH2 ?_
   refine Wl.o ?_;refine Wl.r 15 (fun K hK=>?_);go_simp
   refine hK.o _ _ (hH2) (fun hH3=>?_);clear hK K;refine Wl.r 16 (fun K hK=>?_);go_simp
   refine hK.o _ _ (hH3) (fun hH4=>?_);clear hK K;refine Wl.d ?_;have HB2:Hid (Below w.heap.size w w'):=yv hb;clear hb;go_wp2
   go_ret
   exact⟨by rw[HM.o];rfl,HB2.o⟩
theorem zV{B:List (Int×Int)}{xs:List Int}(h:withinB B xs=true){i:Nat}(hi:i<B.length)(hx:i<xs.length):B[i].1<=xs[i]/\xs[i]<=B[i].2:=by
 unfold withinB at h;rw[qxv]at h;have:=h (B[i],xs[i]) (by rw[List.mem_iff_getElem];exact⟨i,by simp;omega,oe⟩);simpa[inB]using this
theorem uV{xs:List Int}(hx:xs.length=20)(h:mayP xs=true):(∀x∈xs,0<=x)/\Zn (numL [6,2,2,1,2,2,1,4,2,2,1,4,2,2,1,4,2,2,1,4] xs):=by
 simp only[mayP,qxo]at h;obtain⟨⟨h1,h2⟩,h3⟩:=h;have a0:=zV h1 (i:=0) de oM;have a1:=zV h1 (i:=1) de oM;have a2:=zV h1 (i:=2) de oM;have a3:=zV h1 (i:=3) de oM;simp[bndP]at a0 a1 a2 a3;unfold entsB at h3;rw[qxv]at h3;have hr:∀i (_:i<4),∀j (_:j<4),∃h:4+4*i+j<xs.length,0<=xs[4+4*i+j]/\xs[4+4*i+j]<=bndE[j]!.2:=by
  intro i hi j hj;refine⟨oM,?_⟩;have hrow:=h3 i ox;have hlen:=xR hx hi;have e:(rowI xs i)[j]'oM =xs[4+4*i+j]'oM:=by simp[rowI]
  rw[<-e];unfold entB at hrow;split at hrow
  .have:=zV hrow (i:=j) (by simpa[bndE]using hj) oM;rcases j with _|_|_|_|j
   all_goals first|omega|(simp[bndE]at this⊢;omega)
  .simp at hrow;have h0:(rowI xs i)[j]'oM =0:=by
    simp only[hrow];rcases j with _|_|_|_|j
    all_goals first|omega|rfl
   rw[h0];rcases j with _|_|_|_|j
   all_goals first|omega|(simp[bndE])
 have hb:∀i (h1:i<xs.length) (h2:i<[6,2,2,1,2,2,1,4,2,2,1,4,2,2,1,4,2,2,1,4].length),0<=xs[i]/\xs[i]<256^[6,2,2,1,2,2,1,4,2,2,1,4,2,2,1,4,2,2,1,4][i]:=by
  intro i hi hi2;by_cases hi4:i<4
  .rcases i with _|_|_|_|i
   all_goals first|omega|(simp;omega)
  .obtain ⟨k,j,hk,hj,rfl⟩:∃k j,k<4/\j<4/\i=4+4*k+j:=⟨(i-4)/4,(i-4)%4,oM,oM,oM⟩
   obtain⟨hh,r1,r2⟩:=hr k hk j hj;refine⟨r1,?_⟩;have hk':k=0\/k=1\/k=2\/k=3:=oM;have hj':j=0\/j=1\/j=2\/j=3:=oM;rcases hk' with rfl|rfl|rfl|rfl<;>rcases hj' with rfl|rfl|rfl|rfl<;>simp[bndE]at r2⊢<;>omega
 refine⟨fun x hx2=>?_,uU (by rw[hx];rfl) de de hb⟩;obtain⟨i,hi,rfl⟩:=qyv hx2;exact(hb i hi og).1
theorem yI{α:Type}{enc:α->List Value}{m:Nat}(hl:∀x,(enc x).length=m){w:World}{g o:Nat}{L:List α}(h:∀j u,(L.flatMap enc)[j]?=some u->w.cell? ⟨g,o+j,none⟩=some u){k:Nat}(hk:k<L.length):w.rangeAt g (o+k*m) (enc L[k]):=by
 intro j v hj;have hj':j<m:=by rw[<-hl L[k]];exact(qyl.1 hj).1
 rw[qXl];refine h _ v ?_;have:∀(L:List α) (k:Nat) (hk:k<L.length),(L.flatMap enc)[k*m+j]?=(enc L[k])[j]?:=by
  intro L
  induction L with
  |nil=>intro k hk;simp at hk
  |cons x L ih=>
   intro k hk;rw[qye];cases k with
   |zero=>rw[qXz,qXx,qyg (by rw[hl];exact hj')];rfl
   |succ k=>
    have e:(k+1)*m+j=m+(k*m+j):=by rw[Nat.succ_mul];omega
    rw[e,qyh (by rw[hl];omega),hl,Nat.add_sub_cancel_left];exact ih k (by simpa using hk)
 rw[this L k hk];exact hj
def bndS:List (Int×Int):=[(0,1099511627776),(1,4096),(1,1024),(1,4096),(1,4096),(1,4096),(1,64)]
def mayS(xs:List Int):Bool:=withinB bndS xs
theorem YL{w:World}{gl ol cl gt:Nat}(xs:List Int)(hxl:xs.length=7)(_hcl:7<=cl)(_hcm:cl<=maxLen)(hB:Bnd w (.func (.func 194) #[] #[.pointer (some ⟨gt,0,none⟩)]) bndS)(hx:w.rangeAt gl ol (ints xs)):
  Calls prog 194 (#[.slice (some ⟨gl,ol,none⟩) 7 cl]++ #[.pointer (some ⟨gt,0,none⟩)]) w fun e w'=>e=.returned (.bool (mayS xs))/\Below w.heap.size w w':=by
 obtain⟨g,h,c,hv,hc,hb⟩:=hB;cases hv;exact yQ (cl:=cl) bndS xs hc hb hx hxl (by show 7<=7;decide) de
theorem sD{xs:List Int}(hx:xs.length=7)(h:mayS xs=true):(∀x∈xs,0<=x)/\Zn (numL [6,2,2,2,2,2,1] xs):=by
 have h1:withinB bndS xs=true:=h;have a0:=zE h1 (i:=0) de oM;have a1:=zE h1 (i:=1) de oM;have a2:=zE h1 (i:=2) de oM;have a3:=zE h1 (i:=3) de oM;have a4:=zE h1 (i:=4) de oM;have a5:=zE h1 (i:=5) de oM;have a6:=zE h1 (i:=6) de oM;simp[bndS]at a0 a1 a2 a3 a4 a5 a6;have hb:∀i (h1:i<xs.length) (h2:i<[6,2,2,2,2,2,1].length),0<=xs[i]/\xs[i]<256^[6,2,2,2,2,2,1][i]:=by
  intro i hi hi2;rcases i with _|_|_|_|_|_|_|i
  all_goals first|(simp at hi2;omega)|(simp;omega)
 refine⟨fun x hx'=>?_,uU (by rw[hx];rfl) de de hb⟩;obtain⟨i,hi,rfl⟩:=qyv hx';exact(hb i hi (by rw[hx]at hi;exact hi)).1
theorem xy{x:Bk}(hx:x.length=64){p s:Nat}(h:p+s<=60):((sealB x).drop p).take s=(x.drop p).take s:=by
 apply List.ext_getElem?
 intro i;by_cases hi:i<s
 .rw [List.getElem?_take_of_lt hi,List.getElem?_take_of_lt hi,qyi,qyi];unfold sealB;rw[qyg og,List.getElem?_take_of_lt oM]
 .rw [List.getElem?_take_eq_none oM,List.getElem?_take_eq_none oM]
theorem vC{pre mid post:List UInt8}:((padB (pre++mid++post)).drop pre.length).take mid.length=mid:=by
 unfold padB;rw[qxw,qxw,List.drop_left' rfl,List.take_left' rfl]
theorem YM(l:List (Nat×Nat)):∀(pre:List UInt8),pre.length+sizes l<=60->(∀p∈l,p.1<256^p.2)->numsAt (sealB (padB (pre++encB l))) pre.length (l.map (·.2))=l.map (·.1):=by
 induction l with
 |nil=>intro pre _ _;rfl
 |cons p l ih=>
  intro pre hp hf;have hsz:sizes (p::l)=p.2+sizes l:=by simp[sizes]
  have he:encB (p::l)=lowB p.1 p.2++encB l:=by simp[encB]
  simp only[qzh,numsAt,List.cons.injEq];constructor
  .rw [xy (wG (by rw[qyy,uf];omega)) oM,he,<-qxw];have:=vC (pre:=pre) (mid:=lowB p.1 p.2) (post:=encB l);rw[zY]at this;rw[this];exact Yt _ _ (hf p oe)
  .have:=ih (pre++lowB p.1 p.2) (by rw[qyy,zY];omega) (fun q hq=>hf q (by simp[hq]));rw[qyy,zY,qxw]at this;rw[he];exact this
theorem Jq{k:Nat}(hk:k<256){l:List (Nat×Nat)}(hl:Zn l)(mb:Bool):okGet (sectB k l) k (l.map (·.2)) mb=mb/\numsAt (sectB k l) 1 (l.map (·.2))=l.map (·.1):=by
 have hpl:=ug (k:=k) hl.2;have hsz:(l.map (·.2)).sum=sizes l:=rfl;have hbl:(lowB k 1++encB l).length=1+sizes l:=by rw[qyy,zY,uf]
 have h1:sealB (sectB k l)=sectB k l:=XR hpl;have h2:numB ((sectB k l).take 1)=k:=by
  have:=xy hpl (p:=0) (s:=1) oM;rw[List.drop_zero,List.drop_zero]at this;have h3:=vC (pre:=[]) (mid:=lowB k 1) (post:=encB l);rw[zY,qzu,qzc,List.drop_zero]at h3;unfold sectB;rw[this,h3];exact Yt _ _ oM
 have h3:endB (sectB k l) (1+sizes l)=true:=by
  unfold endB sectB;rw[xy hpl (by have:=hl.2;omega)];unfold padB;rw[<-hbl,List.drop_left' rfl,qxv];intro x hx;have:=List.mem_of_mem_take hx;rw[List.mem_replicate]at this;simpa using this.2
 refine⟨?_,?_⟩
 .unfold okGet;rw[hsz,h1,h2,h3];simp
 .have:=YM l (lowB k 1) (by rw[zY];have:=hl.2;omega) (fun p hp=>(hl.1 p hp).1);rw[zY]at this;exact this
def zch:List (Int×Int):=[(0,1099511627776),(0,1099511627776),(0,4096),(1,4096),(0,1048576),(0,1048576)]
theorem Qs:(prog.info? 187).map (·.size)=some 6:=kR
def AJ(gs gt:Nat):Value:=.agg #[.int .i64 5,.slice (some ⟨gs,0,none⟩) 6 6,.func (.func 293) #[] #[],.func (.func 294) #[] #[.pointer (some ⟨gt,0,none⟩)],.func (.func 295) #[] #[]]
def zci(w:World)(gs gt:Nat):Prop:=w.rangeAt gs 0 (ints [6,6,2,2,3,3])/\∃v,w.cell? ⟨gt,0,none⟩=some v/\Bnd w v zch
theorem Jr:(prog.info? 348).map (·.size)=some 5:=kR
theorem sE(w:World):Calls prog 221 #[] w fun e w'=>∃gs gt,e=.returned (AJ gs gt)/\zci w' gs gt/\Below w.heap.size w w':=by
 have hmf:=qqf;go_enter func221,ntmps221
 go_wp2_with fail
 refine(xo).mono ?_;rintro e w1 ⟨rfl,rfl⟩;go_wp2
 obtain⟨h1,h2,h3,h4,h5,h6,h7⟩:=ue w (.cells #[.int .i64 5,.slice (some ⟨w.heap.size+1+1+1+1,0,none⟩) 6 6,.func (.func 293) #[] #[],.func (.func 294) #[] #[.pointer (some ⟨w.heap.size+1+1+1,0,none⟩)],.func (.func 295) #[] #[]] 348)
  (.cells (bndC zch).toArray 207) (.cells #[.slice (some ⟨w.heap.size+1,0,none⟩) 6 6] 294) (.cells #[.func (.func 194) #[] #[.pointer (some ⟨w.heap.size+1+1,0,none⟩)]] 138) (.cells (ints [6,6,2,2,3,3]).toArray 3)
 refine qYp (zv rfl _ _ w.heap.size 0 [.int .i64 5,.slice (some ⟨w.heap.size+1+1+1+1,0,none⟩) 6 6,.func (.func 293) #[] #[],.func (.func 294) #[] #[.pointer (some ⟨w.heap.size+1+1+1,0,none⟩)],.func (.func 295) #[] #[]] _ rfl (zg h1) underlying348 rfl Jr) rfl
  ⟨w.heap.size+1+1+1+1,w.heap.size+1+1+1,rfl,⟨zg h5,_,za h4 0,w.heap.size+1+1,w.heap.size+1,6,rfl,za h3 0,zg h2⟩,Upd.below h7⟩
def zcj:List (Int×Int):=[(0,1099511627776),(0,1099511627776),(0,4096),(1,4096),(1,8)]
theorem Qt:(prog.info? 192).map (·.size)=some 13:=kR
end Go.Proofs.YtpejdgiccaijfaaGreatDoor
