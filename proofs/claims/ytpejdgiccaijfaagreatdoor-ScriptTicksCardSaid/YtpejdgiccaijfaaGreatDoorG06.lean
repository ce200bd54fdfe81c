/- Bounds of numb -/
import Derived.Test.YtpejdgiccaijfaaGreatDoorG02
import Derived.Laws.EntriesVeiled
import Derived.Laws.Cover3
import Derived.Test.YtpejdgiccaijfaaGreatDoorG04
import Derived.Test.YtpejdgiccaijfaaGreatDoorG05
set_option maxRecDepth 100000
set_option maxHeartbeats 2000000
namespace Go.Proofs.YtpejdgiccaijfaaGreatDoor
open Go Go.RowKit Tryz
variable{i k g c o h:Nat}{xs:List Int}{w:World}{B:List (Int×Int)}{l:List (Nat×Nat)}{sz:List Nat}
def bndC(B:List (Int×Int)):List Value:=B.flatMap fun p=>[.int .i64 p.1,.int .i64 p.2]
theorem UN(hi:i<B.length):(bndC B)[i*2]?=some (.int .i64 B[i].1)/\(bndC B)[i*2+1]?=some (.int .i64 B[i].2):=by
 induction B generalizing i with
 |nil=>simp at hi
 |cons b B a=>
  cases i with
  |zero=>exact⟨rfl,rfl⟩
  |succ i=>
   have:=a (i:=i) oz;rw[show(i+1)*2=i*2+2 by omega];exact this
def inB(p:Int×Int)(x:Int):Bool:=decide (p.1<=x)&&decide (x<=p.2)
def withinB(B:List (Int×Int))(xs:List Int):Bool:=(B.zip xs).all fun q=>inB q.1 q.2
def Bnd(w:World)(v:Value)(B:List (Int×Int)):Prop:=
 ∃g h c,v=.func (.func 194) #[] #[.pointer (some ⟨g,0,none⟩)]/\w.cell? ⟨g,0,none⟩=some (.slice (some ⟨h,0,none⟩) B.length c)/\w.rangeAt h 0 (bndC B)
theorem Bnd.below{w':World}{v:Value}(h:Bnd w v B)(a:Below w.heap.size w w'):Bnd w' v B:=by
 obtain⟨g,k,c,b,j,n⟩:=h;exact⟨g,k,c,b,(uuo (S:=fun _=>False) a).j3 j id,Below.range a n⟩
theorem yU(h:w.rangeAt g o (ints xs))(a:i<xs.length):w.cell? ⟨g,o+i,none⟩=some (.int .i64 xs[i]):=h i _ (yh a)
theorem uT{a:Type}{l:List a}{p:a->Bool}(b:k<l.length)(h:p l[k]=false):l.all p=false:=by
 rw[<-Bool.not_eq_true];intro e;rw[qxv]at e;have:=e _ (qyv b);rw[h]at this;cases this
theorem xG{n:Nat}:Calls prog 126 #[.slice (some ⟨h,0,none⟩) n c] w fun e a=>e=.returned (.func (.func 194) #[] #[.pointer (some ⟨w.heap.size,0,none⟩)])/\a=w.alloc (.cells #[.slice (some ⟨h,0,none⟩) n c] 294):=by
 have b:=qqf;go_enter func126,ntmps126
 go_wp2
 go_ret
 exact⟨rfl,rfl⟩
theorem Bnd.made(a:w.rangeAt h 0 (bndC B)):Bnd (w.alloc (.cells #[.slice (some ⟨h,0,none⟩) B.length c] 294)) (.func (.func 194) #[] #[.pointer (some ⟨w.heap.size,0,none⟩)]) B:=
 ⟨w.heap.size,h,c,rfl,za (zc w _ rfl) 0,qYj a _⟩
theorem yV{gl ol m cl:Nat}(B:List (Int×Int))(xs:List Int)(W:w.cell? ⟨g,0,none⟩=some (.slice (some ⟨h,0,none⟩) B.length c))(j:w.rangeAt h 0 (bndC B))(hx:w.rangeAt gl ol (ints xs))(A:xs.length=m)(X:B.length<=m)(Y:m<=100):
  Calls prog 194 #[.slice (some ⟨gl,ol,none⟩) m cl,.pointer (some ⟨g,0,none⟩)] w fun e S=>e=.returned (.bool (withinB B xs))/\Below w.heap.size w S:=by
 have T:=Y3 j hx A;clear j hx A;go_enter func194,ntmps194
 go_wp2
 go_loopw[8] (fun D wr=>∃k:Nat,k<=B.length/\D=.int .i64 k/\Below w.heap.size w wr/\((B.zip xs).take k).all (fun M=>inB M.1 M.2)=true) (fun D _=>B.length-(intOf D).toNat)
 case atStart=>exact⟨0,qXz _,rfl,qxl _ _,oe⟩
 case round=>
  obtain⟨k,Z,rfl,q,N⟩:=hrel;have s:=Y2 N q;by_cases hlt:k<B.length
  .obtain ⟨j,hx,A⟩:=T.o;have U:k<xs.length:=oM;have E:=(Below.range q j) (k*2) _ (UN hlt).1;have F:=(Below.range q j) (k*2+1) _ (UN hlt).2;have O:=yU (Below.range q hx) U;rw[qXy]at E F;have V:Hid (((B.zip xs).take (k+1))=(B.zip xs).take k++[(B[k],xs[k])]):=by
    show _=_;rw[qXl jx,List.getElem_zip]
   obtain⟨a,n,G⟩:∃a n,B[k]=(a,n):=⟨_,_,rfl⟩
   have H:=qqh G;rw[G]at E F;simp only at E F;have Q:(0:Int)<=(k:Int)/\(k:Int)<(B.length:Int)/\(k:Int)<(m:Int):=oM;have a6:wr.heap.size<=wr.heap.size:=qXp _;clear G N j hx A q;obtain⟨Q,a7,a8⟩:=Q;obtain⟨x,J⟩:∃x,xs[k]=x:=⟨_,rfl⟩
   have L:=qqh J;rw[J]at O;have aa:gl<wr.heap.size:=qYh wr _ O;clear J;have p:Below w.heap.size w (wr.alloc (.cells #[.int .i64 a,.int .i64 n] 207)):=s.o.2.alloc s.o.2.size _;by_cases h1:x<a
   .have b:Hid (withinB B xs=false):=by
     show _=_;refine uT (k:=k) jx ?_;rw[List.getElem_zip,H.o,L.o];simp[inB];omega
    have q1:decide (x<a)=true:=by simpa using h1
    clear h1;have v:=qqh p;clear p;go_wp2
    go_quiet(fail)
    go_wp2
    go_ret
    exact⟨by rw[b.out];rfl,zP v.o _⟩
   .by_cases h2:n<x
    .have b:Hid (withinB B xs=false):=by
      show _=_;refine uT (k:=k) jx ?_;rw[List.getElem_zip,H.o,L.o];simp[inB];omega
     have q1:decide (x<a)=false:=by simpa using h1
     have q2:decide (n<x)=true:=by simpa using h2
     clear h1 h2;have v:=qqh p;clear p;go_wp2
     go_quiet(fail)
     go_wp2
     go_ret
     exact⟨by rw[b.out];rfl,zP v.o _⟩
    .have b:Hid (inB (B[k],xs[k]).1 (B[k],xs[k]).2=true):=by
      show _=_;rw[H.o,L.o];simp[inB];omega
     have q1:decide (x<a)=false:=by simpa using h1
     have q2:decide (n<x)=false:=by simpa using h2
     clear h1 h2;have v:=qqh p;clear p;go_wp2
     go_quiet(fail)
     go_wp2
     go_roundw
     case rel=>exact⟨k+1,oM,by go_num,zP v.o _,by rw[V.out,List.all_append,s.o.1];simpa using b.out⟩
     case measure=>simp[intOf];omega
  .obtain rfl:k=B.length:=oM;have b:Hid (withinB B xs=true):=by
    have:=s.o.1;rw[qXk jx]at this;exact this
   go_wp2
   go_ret
   exact⟨by rw[b.out];rfl,s.o.2⟩
def zeF:List (Int×Int):=[(0,1099511627776),(0,1099511627776)]
theorem tT:(prog.info? 117).map (·.size)=some 4:=kR
theorem uU(w:World)(b B C D E:Obj):let a:=((((w.alloc b).alloc B).alloc C).alloc D).alloc E
  a.heap[w.heap.size]?=some b/\a.heap[w.heap.size+1]?=some B/\a.heap[w.heap.size+1+1]?=some C/\a.heap[w.heap.size+1+1+1]?=some D/\a.heap[w.heap.size+1+1+1+1]?=some E/\a.heap.size=w.heap.size+5/\Upd (fun _=>False) w a:=by
 obtain⟨h1,h2,j,n,q,p⟩:=xK w b B C D;refine⟨?_,?_,?_,?_,zc _ _ oe,oe,p.alloc _⟩
 .rw [qxk _ _ _ (zd h1)];exact h1
 .rw [qxk _ _ _ (zd h2)];exact h2
 .rw [qxk _ _ _ (zd j)];exact j
 .rw [qxk _ _ _ (zd n)];exact n
def zcb(gs gt:Nat):Value:=.agg #[.int .i64 4,.slice (some ⟨gs,0,none⟩) 4 4,.func (.func 289) #[] #[],.func (.func 290) #[] #[.pointer (some ⟨gt,0,none⟩)],.func (.func 292) #[] #[]]
def zeG(w:World)(gs gt:Nat):Prop:=w.rangeAt gs 0 (ints [6,6,2,2])/\∃v,w.cell? ⟨gt,0,none⟩=some v/\Bnd w v zeF
theorem AA:(prog.info? 341).map (·.size)=some 5:=kR
theorem qp(w:World):Calls prog 218 #[] w fun e a=>∃gs b,e=.returned (zcb gs b)/\zeG a gs b/\Below w.heap.size w a:=by
 have s:=qqf;go_enter func218,ntmps218
 go_wp2_with fail
 refine(xG).mono ?_;rintro e w1 ⟨rfl,rfl⟩;go_wp2
 obtain⟨h1,h2,j,n,p,v,q⟩:=uU w (.cells #[.int .i64 4,.slice (some ⟨w.heap.size+1+1+1+1,0,none⟩) 4 4,.func (.func 289) #[] #[],.func (.func 290) #[] #[.pointer (some ⟨w.heap.size+1+1+1,0,none⟩)],.func (.func 292) #[] #[]] 341)
  (.cells (bndC zeF).toArray 207) (.cells #[.slice (some ⟨w.heap.size+1,0,none⟩) 2 2] 294) (.cells #[.func (.func 194) #[] #[.pointer (some ⟨w.heap.size+1+1,0,none⟩)]] 138) (.cells (ints [6,6,2,2]).toArray 3)
 refine qYq (zq rfl _ _ w.heap.size 0 [.int .i64 4,.slice (some ⟨w.heap.size+1+1+1+1,0,none⟩) 4 4,.func (.func 289) #[] #[],.func (.func 290) #[] #[.pointer (some ⟨w.heap.size+1+1+1,0,none⟩)],.func (.func 292) #[] #[]] _ rfl (zg h1) underlying341 rfl AA) rfl
  ⟨w.heap.size+1+1+1+1,w.heap.size+1+1+1,rfl,⟨zg p,_,za n 0,w.heap.size+1+1,w.heap.size+1,2,rfl,za j 0,zg h2⟩,Upd.below q⟩
def encB(l:List (Nat×Nat)):List UInt8:=l.flatMap fun p=>lowB p.1 p.2
theorem Qu(l:List (Nat×Nat))(p:Nat×Nat):encB (l++[p])=encB l++lowB p.1 p.2:=by simp[encB]
def sizes(l:List (Nat×Nat)):Nat:=(l.map (·.2)).sum
theorem uV(l:List (Nat×Nat)):(encB l).length=sizes l:=by
 induction l with
 |nil=>rfl
 |cons b l a=>simp only[encB,sizes,qyf,qyz,yi,qzi,List.sum_cons]at a⊢;rw[a]
theorem Vq(l:List (Nat×Nat))(a:i<l.length):sizes (l.take i)+l[i].2<=sizes l:=by
 have h:=congrArg sizes (qXj (i+1) l);rw[qXl a]at h;simp only[sizes,qzh,List.sum_append,qzi,qzk,List.sum_cons,List.sum_nil]at h⊢;omega
def Yk(l:List (Nat×Nat)):Prop:=(∀p∈l,p.1<256^p.2/\1<=p.2/\p.2<=7)/\sizes l<=59
def numsL(l:List (Nat×Nat)):List Int:=l.map fun p=>(p.1:Int)
def vm(l:List (Nat×Nat)):List Int:=l.map fun p=>(p.2:Int)
theorem Zz(h:i<l.length):(ints (numsL l))[i]?=some (.int .i64 (l[i].1:Int)):=by
 rw[yh (by simpa[numsL]using h)];simp[numsL]
theorem rH(h:i<l.length):(ints (vm l))[i]?=some (.int .i64 (l[i].2:Int)):=by
 rw[yh (by simpa[vm]using h)];simp[vm]
def sectB(k:Nat)(l:List (Nat×Nat)):Bk:=sealB (padB (lowB k 1++encB l))
theorem uW(h:sizes l<=59):(padB (lowB k 1++encB l)).length=64:=vl (by simp[yi,uV];omega)
theorem vQ(h:sizes l<=59):(sectB k l).length=64:=vN (uW h)
theorem xH(w:World)(A B C:Obj):let W:=((w.alloc A).alloc B).alloc C
  W.heap[w.heap.size]?=some A/\W.heap[w.heap.size+1]?=some B/\W.heap[w.heap.size+1+1]?=some C/\W.heap.size=w.heap.size+3/\Upd (fun _=>False) w W:=by
 refine⟨?_,?_,zc _ _ oe,oe,(((uur _ w).alloc _).alloc _).alloc _⟩
 .rw [qxk _ _ _ ke,qxk _ _ _ oe];exact zc w _ rfl
 .rw [qxk _ _ _ oe];exact zc _ _ oe
def numsAt(b:Bk):Nat->List Nat->List Nat
 |_,[]=>[]
 |p,s::ss=>numB ((b.drop p).take s)::numsAt b (p+s) ss
theorem zR(b:Bk)(p:Nat)(ss:List Nat):(numsAt b p ss).length=ss.length:=by
 induction ss generalizing p with
 |nil=>rfl
 |cons j ss a=>simp[numsAt,a]
theorem Vr(b:Bk)(p:Nat)(ss:List Nat)(i:Nat)(hi:i<ss.length):(numsAt b p ss)[i]'(by rw[zR];exact hi)=numB ((b.drop (p+(ss.take i).sum)).take ss[i]):=by
 induction ss generalizing p i with
 |nil=>simp at hi
 |cons a ss j=>
  cases i with
  |zero=>simp[numsAt]
  |succ i=>
   simp only[numsAt,qys,List.take_succ_cons,List.sum_cons];rw[j (p+a) i oz,qXm]
theorem Si(ss:List Nat)(a:i<ss.length):(ss.take (i+1)).sum=(ss.take i).sum+ss[i]/\(ss.take i).sum+ss[i]<=ss.sum:=by
 have h:=congrArg List.sum (qXj (i+1) ss);rw[qXl a]at h⊢;simp only[List.sum_append,List.sum_cons,List.sum_nil]at h⊢;omega
def natsI(l:List Nat):List Int:=l.map fun(n:Nat)=>(n:Int)
theorem ZA{l:List Nat}(h:i<l.length):(ints (natsI l))[i]?=some (.int .i64 (l[i]:Int)):=by
 rw[yh (by simpa[natsI]using h)];simp[natsI]
theorem zcc(n:Nat):madeCells #[Value.int .i64 0] (n*1)=(ints (List.replicate n 0)).toArray:=by
 apply Array.ext
 .simp [size_madeCells]
 .intro i h1 h2;have:i%1=0:=Nat.mod_one i;simp[madeCells,ints,this]
theorem AB:(prog.info? 3).map (fun i=>(i.zero,i.size,i.bytes))=some (some (.int .i64 0),1,8):=kR
theorem XD(n:Nat)(q:n<=100000)(w:World):(Instr.makeSlice 87 (.int .i64 n) (.int .i64 n)).run prog w=.ok (.slice (some ⟨w.heap.size,0,none⟩) n n) (w.alloc (.cells (ints (List.replicate n 0)).toArray 3)):=by
 obtain⟨a,b,j,p,hz2⟩:=qYt AB;have:=run_make (P:=prog) w 87 3 a (.int .i64 0) underlying87 b j .i64 .i64 n n oM oM jK oM;rw[this];simp only[qxt,p,Value.cells];rw[zcc]
def fillI(l:List Nat)(i:Nat):List Int:=natsI (l.take i)++List.replicate (l.length-i) 0
theorem Qv(l:List Nat)(a:i<=l.length):(fillI l i).length=l.length:=by simp[fillI,natsI];omega
theorem Qw(l:List Nat)(a:i<l.length):(fillI l i).set i (l[i]:Int)=fillI l (i+1):=by
 unfold fillI;have h1:(natsI (l.take i)).length=i:=by simp[natsI];omega
 rw[qXf _ _ oM,h1,Nat.sub_self,show l.length-i=(l.length-(i+1))+1 by omega,List.replicate_succ,qXh,qXl a];simp only[natsI,qzh,qzi,qzk,qxw,qxz,qzv]
theorem Qx(l:List Nat):fillI l l.length=natsI l:=by simp[fillI]
theorem XE(l:List Int)(i:Nat)(x:Int):(ints l).set i (.int .i64 x)=ints (l.set i x):=by simp[ints,List.map_set]
def okGet(b:Bk)(k:Nat)(ss:List Nat)(mb:Bool):Bool:=decide (sealB b=b)&&(decide (numB (b.take 1)=k)&&(endB b (1+ss.sum)&&mb))
def xu(b:Bk)(k:Nat)(ss:List Nat)(mb:Bool):Int:=if okGet b k ss mb=true then 0 else if sealB b=b then 12 else 13
def yq(w:World)(ok:Bool)(ds zs:List Value)(cd:Int)(e:Ending)(w':World):Prop:=
 (∃rs:List Value,(ok=true->rs=ds)/\(ok=false->rs=zs)/\e=.returned (.tuple #[.agg rs.toArray,.int .i64 cd]))/\Below w.heap.size w w'
theorem Vs{b:Bk}{ss:List Nat}{mb:Bool}(h:sealB b≠b):okGet b k ss mb=false/\xu b k ss mb=13:=by
 have:okGet b k ss mb=false:=by simp[okGet,h]
 exact⟨this,by simp[xu,this,h]⟩
theorem rI{b:Bk}{ss:List Nat}{mb:Bool}(a:sealB b=b)(h:okGet b k ss mb=false):xu b k ss mb=12:=by simp[xu,h,a]
def zS(W:World)(m:Nat)(xs:List Int)(e:Ending)(W':World):Prop:=∃g c,e=.returned (.slice (some ⟨g,0,none⟩) m c)/\m<=c/\c<=maxLen/\W'.rangeAt g 0 (ints xs)/\Below W.heap.size W W'
def numL(sz:List Nat)(xs:List Int):List (Nat×Nat):=(xs.map Int.toNat).zip sz
theorem rJ(h:xs.length=sz.length):(numL sz xs).length=sz.length:=by simp[numL,h]
theorem XF(h:xs.length=sz.length):vm (numL sz xs)=natsI sz:=by
 unfold vm natsI numL;rw[show(fun(p:Nat×Nat)=>(p.2:Int))=(fun(n:Nat)=>(n:Int))∘Prod.snd from rfl,<-qzj,List.map_snd_zip (by simp[h])]
theorem wM(h:xs.length=sz.length):sizes (numL sz xs)=sz.sum:=by
 unfold sizes numL;rw[List.map_snd_zip (by simp[h])]
theorem tU(h:xs.length=sz.length)(a:∀x∈xs,0<=x):numsL (numL sz xs)=xs:=by
 unfold numsL numL;rw[show(fun(b:Nat×Nat)=>(b.1:Int))=(fun(j:Nat)=>(j:Int))∘Prod.fst from rfl,<-qzj,List.map_fst_zip (by simp[h]),qzj]
 conv=>rhs;rw[<-List.map_id xs]
 exact List.map_congr_left (fun x hx=>by simp[Int.toNat_of_nonneg (a x hx)])
theorem tV(h:xs.length=sz.length)(n:sz.sum<=59)(p:∀b∈sz,1<=b/\b<=7)(q:∀i (h1:i<xs.length) (h2:i<sz.length),0<=xs[i]/\xs[i]<256^sz[i]):Yk (numL sz xs):=by
 refine⟨fun v s=>?_,by rw[wM h];exact n⟩;obtain⟨i,a,rfl⟩:=qyw s;rw[rJ h]at a;have h1:i<xs.length:=oM;have:=q i h1 a;simp only[numL,List.getElem_zip,qyu];have j:=p sz[i] (qyv a);refine⟨?_,j.1,j.2⟩;have A:((256^sz[i]:Nat):Int)=(256:Int)^sz[i]:=oe;omega
structure Ent where
 b:Nat
 s:Nat
 d:Bool
 m:Nat
def Ent.none:Ent:=⟨0,0,false,0⟩
def bitN(d:Bool):Nat:=if d then 1 else 0
def entC(x:Ent):List Value:=[.int .i64 (x.b:Int),.int .i64 (x.s:Int),.bool x.d,.int .i64 (x.m:Int)]
def entN(x:Ent):List Nat:=[x.b,x.s,bitN x.d,x.m]
def pgC(seq no of many:Nat)(E:List Ent):List Value:=[.int .i64 (seq:Int),.int .i64 (no:Int),.int .i64 (of:Int),.int .i64 (many:Int)]++E.flatMap entC
def pgN(seq no of many:Nat)(E:List Ent):List Nat:=[seq,no,of,many]++E.flatMap entN
theorem rK(x:Ent):(entC x).length=4:=rfl
theorem XG(x:Ent):∀a∈entC x,a.oneCell'=true:=by
 intro a b;simp only[entC,qzn,qzz,qYu]at b;rcases b with rfl|rfl|rfl|rfl<;>rfl
theorem wn(E:List Ent):(E.flatMap entC).length=E.length*4:=yI (f:=entC) (fun _=>rfl) E
theorem UO{E:List Ent}(hi:i<E.length):((E.flatMap entC).drop (i*4)).take 4=entC (E.getD i Ent.none):=by
 induction E generalizing i with
 |nil=>simp at hi
 |cons x E a=>
  cases i with
  |zero=>rfl
  |succ i=>
   rw[qyf,show(i+1)*4=(entC x).length+i*4 by rw[rK];omega,List.drop_length_add_append];simpa using a (i:=i) oz
theorem UP(d:Bool)(w:World):Calls prog 343 #[.bool d] w fun e a=>e=.returned (.int .i64 (bitN d:Int))/\w=a:=by
 cases d
 all_goals
  go_enter func343,ntmps343
  go_wp2
  go_ret
  exact⟨rfl,rfl⟩
theorem vn:(prog.info? 297).map (·.size)=some 20:=kR
theorem zcd:(prog.info? 295).map (·.size)=some 16:=kR
theorem Yl:(prog.info? 155).map (·.size)=some 4:=kR
theorem rN{E:List Ent}(q:E.length=4)(a:k<4)(w:World):
  (Instr.index 295 (.agg (E.flatMap entC).toArray) (.int .i64 (k:Int))).run prog w=.ok (.agg (entC (E.getD k Ent.none)).toArray) w:=by
 have b:=underlying155;obtain⟨i,j,n⟩:=qYc.1 Yl;have s:(Array.extract (E.flatMap entC).toArray (k*4) (k*4+4))=(entC (E.getD k Ent.none)).toArray:=by
  apply Array.toList_inj.1;rw[Array.toList_extract];simp only[List.extract];rw[show k*4+4-k*4=4 by omega];exact UO oM
 have p:=UO (E:=E) (i:=k) oM;simp[Instr.index,asIntOf,run_underlying underlying295,sizeOf,typeInfo,j,n,part,isAgg,run_underlying b,a,p]
theorem UQ:(prog.info? 3).map (fun i=>(i.zero,i.size,i.bytes))=some (some (.int .i64 0),1,8):=kR
theorem zbJ(seq no of p:Nat)(E:List Ent)(H:E.length=4):
  Calls prog 342 #[.agg (pgC seq no of p E).toArray] w (zS w 20 (natsI (pgN seq no of p E))):=by
 obtain⟨aq,ar,au,av,aw⟩:=qYt UQ;obtain⟨s,hL⟩:=qqe ((pgC seq no of p E).toArray);have q:=zc w (.cells s 297) rfl;have O:(w.alloc (.cells s 297)).cell? ⟨w.heap.size,0,none⟩=some (.int .i64 (seq:Int)):=(za q 0).trans jc;have Q:(w.alloc (.cells s 297)).cell? ⟨w.heap.size,1,none⟩=some (.int .i64 (no:Int)):=(za q 1).trans jc;have T:(w.alloc (.cells s 297)).cell? ⟨w.heap.size,2,none⟩=some (.int .i64 (of:Int)):=(za q 2).trans jc;have U:(w.alloc (.cells s 297)).cell? ⟨w.heap.size,3,none⟩=some (.int .i64 (p:Int)):=(za q 3).trans jc;have a8:(w.alloc (.cells s 297)).rangeAt w.heap.size 4 (E.flatMap entC):=fun A aa V=>by
  rw[za q,hL,qyr,pgC,qyi oe];rw[<-V];congr 1;simp
 have ab:(prog.info? 295).map (·.size)=some (E.flatMap entC).length:=by rw[wn,H];exact zcd
 have ad:=fun(k:Nat) (ae:k<4) (w:World)=>rN H ae w;have W:=Y2 ad H;rw[<-hL];have af:=qYj a8 (.cells #[.int .i64 (seq:Int),.int .i64 (no:Int),.int .i64 (of:Int),.int .i64 (p:Int)] 3);have aJ:=qqh hL;clear hL ad H q a8;go_enter func342,ntmps342
 go_wp2_with (first
  |refine qYz rfl _ _ rfl _ _ rfl _ _ af underlying295 rfl ab ?_
  |fail)
 have ax:(w.alloc (.cells s 297)).alloc (.cells #[.int .i64 (seq:Int),.int .i64 (no:Int),.int .i64 (of:Int),.int .i64 (p:Int)] 3)=(w.alloc (.cells s 297)).alloc (.cells #[.int .i64 (seq:Int),.int .i64 (no:Int),.int .i64 (of:Int),.int .i64 (p:Int)] 3):=rfl;have v:((w.alloc (.cells s 297)).alloc (.cells #[.int .i64 (seq:Int),.int .i64 (no:Int),.int .i64 (of:Int),.int .i64 (p:Int)] 3)).ownsRow w.heap.size 3 1 (.slice (some ⟨w.heap.size+1,0,none⟩) 4 4) 4 (ints (natsI ([seq,no,of,p]++(E.take 0).flatMap entN))):=by
  refine⟨by simp[natsI],.inr ⟨w.heap.size+1,4,_,rfl,oM,zc _ _ oe,oM,by unfold maxLen;omega,oe,by simp[natsI,ints]⟩⟩
 have ag:Below w.heap.size w ((w.alloc (.cells s 297)).alloc (.cells #[.int .i64 (seq:Int),.int .i64 (no:Int),.int .i64 (of:Int),.int .i64 (p:Int)] 3)):=((qxl _ w).alloc (qXp _) _).alloc oe _;generalize (w.alloc (.cells s 297)).alloc (.cells #[.int .i64 (seq:Int),.int .i64 (no:Int),.int .i64 (of:Int),.int .i64 (p:Int)] 3)=aK at*;have ah:=Y2 v ag;clear v ag af ab O Q T U ax;go_loopw[3,17] (fun ay X wr=>∃k:Nat,k<=4/\X=.int .i64 k/\wr.ownsRow w.heap.size 3 1 ay (4+4*k) (ints (natsI ([seq,no,of,p]++(E.take k).flatMap entN)))/\Below w.heap.size w wr) (fun _ X _=>4-(intOf X).toNat)
 case atStart=>exact⟨0,oM,rfl,ah.o.1,ah.o.2⟩
 case round=>
  obtain⟨k,ae,rfl,v,D⟩:=hrel;by_cases hlt:k<4
  .have ai:=W.o.1 k hlt;have az:Hid ((E.take (k+1)).flatMap entN=(E.take k).flatMap entN++entN (E.getD k Ent.none)):=by
    show _=_;have aj:k<E.length:=by have:=W.o.2;omega
    rw[qXl aj,qye];simp[List.getD_eq_getElem?_getD,aj]
   generalize E.getD k Ent.none=x at*;obtain⟨a,xs,b,j⟩:=x;have aA:Hid ((entC ⟨a,xs,b,j⟩).toArray= #[Value.int .i64 (a:Int),.int .i64 (xs:Int),.bool b,.int .i64 (j:Int)]):=rfl;rw[aA.out]at ai;have aL:(0:Int)<=(k:Int):=oM;have aM:(k:Int)<4:=oM;have J:=Y2 v D;have F:=zc wr (.cells #[Value.int .i64 (a:Int),.int .i64 (xs:Int),.bool b,.int .i64 (j:Int)] 155) rfl;have ak:=J.out.1.alloc (.cells #[Value.int .i64 (a:Int),.int .i64 (xs:Int),.bool b,.int .i64 (j:Int)] 155);have Y:=J.out.2.alloc J.out.2.size (.cells #[Value.int .i64 (a:Int),.int .i64 (xs:Int),.bool b,.int .i64 (j:Int)] 155);have L:¬u3.ownBlock=some wr.heap.size:=fun e=>by have:=(J.out.1.lt _ e).2;omega
   clear v D;go_wp2
   generalize wr.alloc (.cells #[Value.int .i64 (a:Int),.int .i64 (xs:Int),.bool b,.int .i64 (j:Int)] 155)=n at*;generalize wr.heap.size=m at*;have O:n.cell? ⟨m,0,none⟩=some (.int .i64 (a:Int)):=za F 0;have Q:n.cell? ⟨m,1,none⟩=some (.int .i64 (xs:Int)):=za F 1;have T:n.cell? ⟨m,2,none⟩=some (.bool b):=za F 2;have U:n.cell? ⟨m,3,none⟩=some (.int .i64 (j:Int)):=za F 3;have Z:=(ak.alloc (.cells #[Value.int .i64 (a:Int),.int .i64 (xs:Int),.int .i64 (bitN b:Int),.int .i64 (j:Int)] 3)).drew;have a6:Below w.heap.size w (n.alloc (.cells #[Value.int .i64 (a:Int),.int .i64 (xs:Int),.int .i64 (bitN b:Int),.int .i64 (j:Int)] 3)).drew:=zP (Y.alloc Y.size _) 1;have am:(n.alloc (.cells #[Value.int .i64 (a:Int),.int .i64 (xs:Int),.int .i64 (bitN b:Int),.int .i64 (j:Int)] 3)).drew.heap[n.heap.size]?=_:=zc n (.cells #[Value.int .i64 (a:Int),.int .i64 (xs:Int),.int .i64 (bitN b:Int),.int .i64 (j:Int)] 3) rfl;obtain⟨aN,w1,aB,an,a7,-⟩:=run_append_own (P:=prog) (w:=(n.alloc (.cells #[Value.int .i64 (a:Int),.int .i64 (xs:Int),.int .i64 (bitN b:Int),.int .i64 (j:Int)] 3)).drew) w.heap.size 87 87 3 aq (.int .i64 0) 1 8 underlying87 ar au av aw rfl de u3 (4+4*k) _ Z ⟨n.heap.size,0,none⟩ 4 4 [.int .i64 (a:Int),.int .i64 (xs:Int),.int .i64 (bitN b:Int),.int .i64 (j:Int)] rfl
    (fun A u aC=>by rw[qxa,za am];simpa using aC) jk oj oM a6.size
   have ao:Below w.heap.size w w1:=zj a6 (Upd.kC (S:=fun A=>w.heap.size<=A) a7 (fun g q _=>(Z.lt g q).1)) (qXp _) (fun k h=>h);have G:Upd (fun A=>u3.ownBlock=some A) _ w1:=Upd.kC (S:=fun A=>u3.ownBlock=some A) a7 (fun g q _=>q);have aO:=G.j3 (w:=(n.alloc (.cells #[Value.int .i64 (a:Int),.int .i64 (xs:Int),.int .i64 (bitN b:Int),.int .i64 (j:Int)] 3)).drew) (zl O _) L;have q1:=G.j3 (w:=(n.alloc (.cells #[Value.int .i64 (a:Int),.int .i64 (xs:Int),.int .i64 (bitN b:Int),.int .i64 (j:Int)] 3)).drew) (zl Q _) L;have q2:=G.j3 (w:=(n.alloc (.cells #[Value.int .i64 (a:Int),.int .i64 (xs:Int),.int .i64 (bitN b:Int),.int .i64 (j:Int)] 3)).drew) (zl T _) L;have aP:=G.j3 (w:=(n.alloc (.cells #[Value.int .i64 (a:Int),.int .i64 (xs:Int),.int .i64 (bitN b:Int),.int .i64 (j:Int)] 3)).drew) (zl U _) L;have ap:=Y2 an ao;clear Z a6 am an a7 ao ak Y F ai G
   go_region_held3 (fun M=>M.cell? ⟨m,0,none⟩=some (.int .i64 (a:Int))/\M.cell? ⟨m,1,none⟩=some (.int .i64 (xs:Int))/\M.cell? ⟨m,2,none⟩=some (.bool b)/\M.cell? ⟨m,3,none⟩=some (.int .i64 (j:Int)))
    ((go_split_ands;(simp only[qYi]at*);((repeat' constructor)<;>first|assumption|(apply zl;assumption)|exact trivial)))
    (first|(go_at_call 343;refine(UP _ _).mono ?_;rintro e aQ ⟨rfl,rfl⟩)|(refine zV rfl _ _ _ rfl rfl rfl aB ?_))
   go_wp2
   go_roundw
   case rel=>
    refine⟨k+1,oM,by go_num,?_,ap.o.2⟩;have:=ap.o.1;rw[az.out,show 4+4*(k+1)=4+4*k+4 by omega];simpa[ints,natsI,entN]using this
   case measure=>simp[intOf];omega
  .obtain rfl:k=4:=oM;have aD:=Y2 v D;clear v D;go_wp2
   go_ret
   obtain⟨v,D⟩:=aD.o;rw[qXk (by have:=W.o.2;omega)]at v;obtain⟨aR,⟨_,aS⟩|⟨g,aE,aF,rfl,-,q,aG,aH,aT,aI⟩⟩:=v
   .omega
   .refine ⟨g,aE,rfl,aG,aH,fun A aa V=>?_,D⟩;rw[za q,<-Array.getElem?_toList];have N:(aF.toList.take ((4+4*4)*1))[A]?=some aa:=by rw[aI];exact V
    rw[qyq]at N;split at N
    .simpa using N
    .cases N
def bndR:List (Int×Int):=[(1,1099511627776),(0,1099511627776),(0,1),(0,4095),(0,1023),(0,1),(0,4294967295)]
def mayR(xs:List Int):Bool:=withinB bndR xs&&(decide (xs.getD 2 0=0)||(decide (xs.getD 4 0=0)&&decide (xs.getD 5 0=0)&&decide (xs.getD 6 0=0)))
theorem yx(b:w.rangeAt g o (ints xs))(i:Nat)(a:i<xs.length):w.cell? ⟨g,o+i,none⟩=some (.int .i64 (xs.getD i 0)):=by
 rw[yU b (i:=i) a];simp[List.getD_eq_getElem?_getD,a]
theorem rQ{w:World}{gl ol cl F:Nat}{v:Value}(xs:List Int)(G:xs.length=7)(_hcl:7<=cl)(_hcm:cl<=maxLen)(hv:w.cell? ⟨F,0,none⟩=some v)(T:Bnd w v bndR)(hx:w.rangeAt gl ol (ints xs)):
  Calls prog 350 #[.slice (some ⟨gl,ol,none⟩) 7 cl,.pointer (some ⟨F,0,none⟩)] w fun e H=>e=.returned (.bool (mayR xs))/\Below w.heap.size w H:=by
 obtain⟨g,h,a6,rfl,J,L⟩:=T;have U:=qqh (yV (cl:=cl) bndR xs J L hx G (by show 7<=7;decide) de);have a:Hid (mayR xs=(withinB bndR xs&&(decide (xs.getD 2 0=0)||(decide (xs.getD 4 0=0)&&decide (xs.getD 5 0=0)&&decide (xs.getD 6 0=0))))):=rfl;have b:=Y4 (yx hx 2 oM) (yx hx 4 oM) (yx hx 5 oM) (yx hx 6 oM);generalize xs.getD 2 0=M at a b;generalize xs.getD 4 0=N at a b;generalize xs.getD 5 0=O at a b;generalize xs.getD 6 0=V at a b;clear hx L J G;go_enter func350,ntmps350
 go_wp2_with fail
 refine U.o.mono ?_;rintro e H ⟨rfl,A⟩;have j:=uuo (S:=fun _=>False) A;have c2:=j.j3 b.o.1 id;have Q:=j.j3 b.o.2.1 id;have D:=j.j3 b.o.2.2.1 id;have p:=j.j3 b.o.2.2.2 id;have n:=qqh A;clear j A;generalize withinB bndR xs=W at a⊢;cases W with
 |false=>
  clear c2 Q D p;go_wp2
  go_ret
  exact⟨by rw[a.o];rfl,n.o⟩
 |true=>
  by_cases h2:M=0
  .subst h2;clear Q D p;go_wp2
   go_ret
   exact⟨by rw[a.o];rfl,n.o⟩
  .have q2:(M==0)=false:=by simpa using h2
   have E:=qqh h2;clear h2;by_cases q:N=0
   .subst q;by_cases s:O=0
    .subst s;go_wp2
     go_ret
     refine⟨?_,n.o⟩;rw[a.o];simp[E.o];by_cases X:V=0<;>simp[X]
    .have a7:(O==0)=false:=by simpa using s
     have Y:=qqh s;clear s p;go_wp2
     go_ret
     refine⟨?_,n.o⟩;rw[a.o];simp[E.o,Y.o]
   .have a8:(N==0)=false:=by simpa using q
    have Z:=qqh q;clear q D p;go_wp2
    go_ret
    refine⟨?_,n.o⟩;rw[a.o];simp[E.o,Z.o]
theorem zG(h:withinB B xs=true)(h1:i<B.length)(h2:i<xs.length):B[i].1<=xs[i]/\xs[i]<=B[i].2:=by
 have h:=qxv.1 h (B[i],xs[i]) (List.mem_iff_getElem.2 ⟨i,by simp;omega,oe⟩);simpa[inB]using h
theorem Zcg06{P:Prop}(h:P:=by
  refine⟨fun x p=>?_,tV (by rw[hx];rfl) de de b⟩;obtain⟨i,a,rfl⟩:=qyw p;exact(b i a (by rw[hx]at a;exact a)).1):P:=h
theorem ZC{xs:List Int}(hx:xs.length=7)(h:mayR xs=true):(∀x∈xs,0<=x)/\Yk (numL [6,6,1,2,2,1,4] xs):=by
 simp only[mayR,qxo]at h;obtain⟨h1,-⟩:=h;have a0:=zG h1 (i:=0) de oM;have a1:=zG h1 (i:=1) de oM;have a2:=zG h1 (i:=2) de oM;have a3:=zG h1 (i:=3) de oM;have a4:=zG h1 (i:=4) de oM;have a5:=zG h1 (i:=5) de oM;have j:=zG h1 (i:=6) de oM;simp[bndR]at a0 a1 a2 a3 a4 a5 j;have b:∀i (h1:i<xs.length) (h2:i<[6,6,1,2,2,1,4].length),0<=xs[i]/\xs[i]<256^[6,6,1,2,2,1,4][i]:=by
  intro i a n;rcases i with _|_|_|_|_|_|_|i
  all_goals first|(simp at n;omega)|(simp;omega)
 exact Zcg06
theorem wN{P:Prop}(h:P:=by
 have H:=Y7 hs hN htell hmay hk hl hm;have HC:=qqh hcs;clear hs hN htell hmay hk hl hm hcs;have hr:((w.alloc (.cells #[.int .i64 (k:Int),.slice (some ⟨gs,0,none⟩) m cl,.func (.func ft) #[] ct,.func (.func fm) #[] cm,bv] Ao)).alloc (.cells cs.toArray Aq)).rangeAt (w.heap.size+1) 0 cs:=zg (zc _ _ oe);go_enter q3c,q4c
 go_wp2_with (first
  |(refine qYz rfl _ _ rfl _ _ rfl _ _ (qYj hr _) q5c rfl HC.o ?_)
  |fail)
 show Calls _ _ _ (((w.alloc (.cells #[.int .i64 (k:Int),.slice (some ⟨gs,0,none⟩) m cl,.func (.func ft) #[] ct,.func (.func fm) #[] cm,bv] Ao)).alloc (.cells cs.toArray Aq)).alloc (.cells (bkC zB).toArray 60)) _;obtain⟨h1,h2,h3,h4,h5⟩:=xH w (.cells #[.int .i64 (k:Int),.slice (some ⟨gs,0,none⟩) m cl,.func (.func ft) #[] ct,.func (.func fm) #[] cm,bv] Ao) (.cells cs.toArray Aq) (.cells (bkC zB).toArray 60);clear hr;generalize ((w.alloc (.cells #[.int .i64 (k:Int),.slice (some ⟨gs,0,none⟩) m cl,.func (.func ft) #[] ct,.func (.func fm) #[] cm,bv] Ao)).alloc (.cells cs.toArray Aq)).alloc (.cells (bkC zB).toArray 60)=w3 at*;refine(H.o.2.2.1 w3 (Upd.below h5)).mono ?_;rintro e w4 ⟨gl,c4,rfl,hc4,hc5,hr4,hb4⟩;have hu4:=qqb hb4;have f1:=(hu4.block _ (zd h1) id).trans h1;have f3:=(hu4.block _ (zd h3) id).trans h3;have m3:w4.cell? ⟨w.heap.size,3,none⟩=some (.func (.func fm) #[] cm):=za f1 3;have H4:=Y5 hr4 (h5.trans hu4) f1 f3 h4;clear h1 h2 h3 h4 h5 hr4 hb4 hu4 f1 f3;go_wp2_with fail
 refine(H.o.2.2.2.1 w4 gl c4 hc4 hc5 (Upd.below H4.o.2.1) H4.o.1).mono ?_;rintro e w5 ⟨rfl,hb5⟩;have hu5:=qqb hb5;obtain⟨r4,u4,f1,f3,z4⟩:=H4.o;have r5:=hu5.range r4 id;have g1:=(hu5.block _ (zd f1) id).trans f1;have g3:=(hu5.block _ (zd f3) id).trans f3;have m0:w5.cell? ⟨w.heap.size,0,none⟩=some (.int .i64 (k:Int)):=za g1 0;have z5:w.heap.size+3<=w5.heap.size:=by have h1:=zd g3;have h2:=hu5.size;have h3:=u4.size;have h4:=zd f3;have h5:=z4;have h6:=H4.o.2.2.2.2;omega
 have H5:=Y4 r5 (u4.trans hu5) g1 g3;clear r4 u4 f1 f3 z4 r5 g1 g3 hu5 hb5 m3;go_wp2_with fail
 generalize hM:w.heap.size=M at*;have HM:=qqh hM;clear hM;refine qZc (S:=fun W=>W.cell? ⟨M,0,none⟩=some (.int .i64 (k:Int))) kR (by rw[qYi];exact m0) (fun hHeld=>?_);refine qYy (i:=1) (v:=?_) rfl kR kR kR (fun _ _ _ h=>h) (Or.inl ⟨by rfl,?_⟩) hHeld ?_
 rotate_left
 .intro W hSw;(try dsimp only at hSw);(try go_split_ands);go_simp;(try with_reducible rfl)
 simp only[Act.put,qXe];refine qYy (i:=2) (v:=?_) rfl kR kR kR (fun _ _ _ h=>h) (Or.inl ⟨by rfl,?_⟩) hHeld ?_
 rotate_left
 .intro W hSw;(try dsimp only at hSw);(try go_split_ands);go_simp;(try with_reducible rfl)
 simp only[Act.put];refine Wl.r 0 (fun K hK=>?_);go_simp
 refine(zbY _).mono ?_;rintro e w6 ⟨g,rfl,hW,hge,hB⟩;have hge':w5.heap.size<=g:=hge;refine hK.o _ _ ((uuo (S:=fun _=>False) hB).j3 hHeld id) (fun hHeld2=>?_);clear hK K;refine Wl.r 3 (fun K hK=>?_);go_simp
 refine(zez hW k 1 de de jP de).mono ?_;rintro e w7 ⟨rfl,hW2,hU⟩;refine hK.o _ _ (hU.j3 hHeld2 oM) (fun hHeld3=>?_);clear hK K;refine Wl.r 4 (fun K hK=>?_);go_simp
 refine hK.o _ _ (hHeld3) (fun _=>?_);clear hK K;refine Wl.d ?_;obtain⟨r5,u5,g1,g3⟩:=H5.o;obtain⟨hs,hN,-,-,hk,hl,hm⟩:=H.o;have u57:Upd (fun j=>j=g) w5 w7:=((uuo (S:=fun _=>False) (yy hB)).mono fE).trans hU;have glt:gl<w5.heap.size\/m=0:=by
  rcases Nat.eq_zero_or_pos m with h|h
  .exact .inr h
  .exact .inl (qYh w5 _ (r5 0 _ (Zz oM)))
 have nM:w.heap.size=M:=HM.o;have gslt:gs<w.heap.size\/m=0:=by
  rcases Nat.eq_zero_or_pos m with h|h
  .exact .inr h
  .exact .inl (qYh w _ (hs 0 _ (rH oM)))
 have ws5:=u5.size;have m1:w7.cell? ⟨M,1,none⟩=some (.slice (some ⟨gs,0,none⟩) m cl):=u57.j3 (za g1 1) oM;have g3':=(u57.block (M+1+1) (zd g3) oM).trans g3;have hN7:Nib w7:=((hN.keep u5 id).keep u57 (by have:=hN.lt;omega))
 have hlow:Below M w w7:=zj (by rw[<-nM];exact Upd.below u5) u57 (by rw[<-nM];exact qXp _) (fun k e=>oM);have hr7:∀i (hi:i<l.length) W,Upd (fun j=>j=g) w7 W->W.cell? ⟨gl,0+i,none⟩=some (.int .i64 (l[i].1:Int)):=fun i hi W hW=>hW.j3 (u57.j3 (r5 i _ (Zz hi)) oM) oM;have hs7:∀i (hi:i<l.length) W,Upd (fun j=>j=g) w7 W->W.cell? ⟨gs,0+i,none⟩=some (.int .i64 (l[i].2:Int)):=fun i hi W hW=>hW.j3 (u57.j3 ((u5.range hs id) i _ (rH hi)) oM) oM;have H7:=Y9 hr7 hs7 m1 g3' hN7 hlow hl hm hW2;have hgeM:M<=g:=oM;have hgM:¬M=g:=oM;have hgM2:¬M+1+1=g:=oM;have hMw:=zd g3'
 rename_i hx
 clear hx hHeld hHeld2 hHeld3 hW hge hB hU hW2 hN hs hk hl hm r5 u5 g1 g3 u57 glt gslt nM ws5 m1 g3' hN7 hlow hr7 hs7 m0;go_wp2
 go_loopw[26] (fun s26 wr=>∃i:Nat,i<=m/\s26=.int .i64 i/\WrAt wr g (lowB k 1++encB (l.take i))/\Upd (fun j=>j=g) w7 wr) (fun s26 _=>m-(intOf s26).toNat)
 case atStart=>exact⟨0,qXz _,rfl,by simpa[encB]using H7.o.2.2.2.2.2.2.2.2,uur _ _⟩
 case round=>
  obtain⟨i,hi,rfl,hW,hu⟩:=hrel;by_cases hlt:i<m
  .obtain ⟨hr7,hs7,m1,g3',hN7,hlow,hl,hm,-⟩:=H7.o;have hil:i<l.length:=oM;have x1:=hr7 i hil wr hu;have x2:=hs7 i hil wr hu;have x3:=hu.j3 m1 hgM;rw[qXy]at x1 x2;have hfit:=hl.1 l[i] (qyv hil);have hsz:=Vq l hil;have hts:Hid (encB (l.take (i+1))=encB (l.take i)++lowB l[i].1 l[i].2):=by show _=_;rw[qXl hil,Qu]
   have hlen:(lowB k 1++encB (l.take i)).length+l[i].2<=60:=by
    rw[qyz,yi,uV];have:=hl.2;omega
   have b1:(0:Int)<=(i:Int)/\(i:Int)<(m:Int):=oM;have HX:=Y4 hW hu hfit hlen;clear hr7 hs7 m1 g3' hN7 hlow hl hm hW hu hfit hsz hlen;obtain⟨b1,b2⟩:=b1;generalize l[i]=p at*;go_wp2_with fail
   refine(zez HX.o.1 p.1 p.2 HX.o.2.2.1.2.1 HX.o.2.2.1.2.2 HX.o.2.2.1.1 HX.o.2.2.2).mono ?_;rintro e w8 ⟨rfl,hW8,hU8⟩;have HZ:=Y2 hW8 hU8;clear hW8 hU8;go_wp2
   go_roundw
   case rel=>exact⟨i+1,oM,by go_num,by rw[hts.out,<-qxw];exact HZ.o.1,HX.o.2.1.trans HZ.o.2⟩
   case measure=>simp[intOf];omega
  .obtain rfl:i=m:=oM;obtain⟨hr7,hs7,m1,g3',hN7,hlow,hl,hm,-⟩:=H7.o;have hN8:=hN7.keep hu (by have:=(H.o.2.1).lt;have:=HM.o;omega);rw[qXk oM]at hW;have hg3:=(hu.block (M+1+1) (zd g3') hgM2).trans g3';have hlen:Hid ((sectB k l).length=64):=vQ hl.2;have HX:=Y6 hW hN8 hu hg3 hlow hl;have hus:=hu.size;clear hr7 hs7 m1 g3' hN7 hlow hl hm hW hu hN8 hg3;go_wp2_with fail
   refine(zeB HX.o.1 HX.o.2.1).mono ?_;rintro e w9 ⟨rfl,hb9⟩;have hg9:=(hb9.block (M+1+1) (zd HX.o.2.2.2.1)).trans HX.o.2.2.2.1;have hth:w9.there (M+1+1) 0 64:=fun j hj=>by
    rw[za hg9,zf hg9];exact⟨by rw[qXy,qxe oY];rfl,rfl⟩
   have hbl:Hid (Below M w w9):=(zj HX.o.2.2.2.2.1 HX.o.2.2.1 jB (fun k e=>oM)).trans (hb9.mono oM);have hsl:=hlen.out;have hst:w9.there (M+1+1) 0 (bkC (sectB k l)).toArray.size:=by rw[zo _ hsl];exact hth
   have hst2:w9.there (M+1+1) 0 (bkC (sectB k l)).length:=by rw[zm,hsl];exact hth
   have hsz2:(prog.info? 60).map (·.size)=some (bkC (sectB k l)).toArray.size:=by rw[zo _ hsl];exact zM
   have HST:=Y4 hst hsz2 hst2 hsl;clear hst hsz2 hst2 hsl hg9 hth hb9 hlen;rw[show sealB (padB (lowB k 1++encB l))=sectB k l from rfl];generalize hsb:sectB k l=sb at*;have Hsb:=qqh hsb;clear hsb;go_wp2_with (first
    |(refine qZb rfl _ _ _ rfl _ _ (bkC sb).toArray rfl rfl HST.o.1 HST.o.2.1 (qYo (zx _)) ?_)
    |fail)
   refine qYq (zp rfl _ _ (M+1+1) 0 (bkC sb) _ rfl (qYl _ _ _ _ HST.o.2.2.1) underlying60 rfl (zu _ HST.o.2.2.2)) rfl
     ⟨by rw[Hsb.out];rfl,?_⟩
   rw[HM.o];exact zj hbl.out (zn w9 (M+1+1) 0 _) jB (fun k e=>oM)):P:=h
theorem vq{P:Prop}(h:P:=by
 have H:=Y2 htell hmay;have HC:=qqh hcs;clear htell hmay hcs;have hr:((w.alloc (.cells #[.int .i64 (k:Int),.slice (some ⟨gs,0,none⟩) m cl,.func (.func ft) #[] ct,.func (.func fm) #[] cm,bv] Ao)).alloc (.cells cs.toArray Aq)).rangeAt (w.heap.size+1) 0 cs:=zg (zc _ _ oe);go_enter q3c,q4c
 go_wp2_with (first
  |(refine qYz rfl _ _ rfl _ _ rfl _ _ (qYj hr _) q5c rfl HC.o ?_)
  |fail)
 show Calls _ _ _ (((w.alloc (.cells #[.int .i64 (k:Int),.slice (some ⟨gs,0,none⟩) m cl,.func (.func ft) #[] ct,.func (.func fm) #[] cm,bv] Ao)).alloc (.cells cs.toArray Aq)).alloc (.cells (bkC zB).toArray 60)) _;obtain⟨h1,h2,h3,h4,h5⟩:=xH w (.cells #[.int .i64 (k:Int),.slice (some ⟨gs,0,none⟩) m cl,.func (.func ft) #[] ct,.func (.func fm) #[] cm,bv] Ao) (.cells cs.toArray Aq) (.cells (bkC zB).toArray 60);clear hr;generalize ((w.alloc (.cells #[.int .i64 (k:Int),.slice (some ⟨gs,0,none⟩) m cl,.func (.func ft) #[] ct,.func (.func fm) #[] cm,bv] Ao)).alloc (.cells cs.toArray Aq)).alloc (.cells (bkC zB).toArray 60)=w3 at*;refine(H.o.1 w3 (Upd.below h5)).mono ?_;rintro e w4 ⟨gl,c4,rfl,hc4,hc5,hr4,hb4⟩;have hu4:=qqb hb4;have f1:=(hu4.block _ (zd h1) id).trans h1;have f3:=(hu4.block _ (zd h3) id).trans h3;have m3:w4.cell? ⟨w.heap.size,3,none⟩=some (.func (.func fm) #[] cm):=za f1 3;have H4:=Y5 hr4 (h5.trans hu4) f1 f3 h4;clear h1 h2 h3 h4 h5 hr4 hb4 hu4 f1 f3;go_wp2_with fail
 refine(H.o.2 w4 gl c4 hc4 hc5 (Upd.below H4.o.2.1) H4.o.1).mono ?_;rintro e w5 ⟨rfl,hb5⟩;have hu5:=qqb hb5;obtain⟨r4,u4,f1,f3,z4⟩:=H4.o;have g3:=(hu5.block _ (zd f3) id).trans f3;have hth:w5.there (w.heap.size+1+1) 0 64:=fun j hj=>by
  rw[za g3,zf g3];exact⟨by rw[qXy,qxe oY];rfl,rfl⟩
 obtain⟨z,Hz⟩:∃z:Bk,Hid (z=zB):=⟨zB,rfl⟩
 have hst:w5.there (w.heap.size+1+1) 0 (bkC z).toArray.size:=by rw[Hz.out,zo _ zH];exact hth
 have hst2:w5.there (w.heap.size+1+1) 0 (bkC z).length:=by rw[Hz.out,zm,zH];exact hth
 have hsz2:(prog.info? 60).map (·.size)=some (bkC z).toArray.size:=by rw[Hz.out,zo _ zH];exact zM
 have HST:=Y3 hst hsz2 hst2;have HU:=qqh (u4.trans hu5);clear r4 u4 f1 f3 z4 hst hst2 hsz2 hth hu5 hb5 g3 m3;go_wp2_with (first
   |(refine qZb rfl _ _ _ rfl _ _ (bkC z).toArray rfl (by rw[Hz.out];rfl) HST.o.1 HST.o.2.1 (qYo (zx _)) ?_)
   |fail)
 exact qYq (zp rfl _ _ (w.heap.size+1+1) 0 (bkC z) _ rfl (qYl _ _ _ _ HST.o.2.2) underlying60 rfl (by rw[Hz.out];exact zu zB zH)) rfl
  ⟨by rw[Hz.out];rfl,zj (Upd.below HU.o) (zn w5 (w.heap.size+1+1) 0 _) (qXp _) (fun k e=>oM)⟩):P:=h
namespace fPutR
abbrev Ao:Nat:=404
abbrev Aq:Nat:=307
theorem q3c:type_of% @func426:= @func426
theorem q4c:type_of% @ntmps426:= @ntmps426
theorem q5c:type_of% @underlying307:= @underlying307
end fPutR
open fPutR in
theorem XH{w:World}(k:Nat)(hk:k<256)(l:List (Nat×Nat))(hl:Yk l)(m:Nat)(hm:l.length=m)(q:m<=100)(gs cl:Nat)(ft fm:Nat)(ct cm:Array Value)(bv:Value)(_hbv:bv.oneCell'=true)(cs:List Value)
  (hcs:(prog.info? 307).map (·.size)=some cs.length) (hs:w.rangeAt gs 0 (ints (vm l))) (hN:Nib w)
  (s:∀a w,(callFunc ft a).run prog w=.ok (.enter ft a) w) (A:∀a w,(callFunc fm a).run prog w=.ok (.enter fm a) w)
  (htell:∀W,Below w.heap.size w W->Calls prog ft (#[.agg cs.toArray]++ct) W (zS W m (numsL l)))
  (hmay:∀W gl c,m<=c->c<=maxLen->Below w.heap.size w W->W.rangeAt gl 0 (ints (numsL l))->Calls prog fm (#[.slice (some ⟨gl,0,none⟩) m c]++cm) W fun e b=>e=.returned (.bool true)/\Below W.heap.size W b):
  Calls prog 426 #[.agg #[.int .i64 (k:Int),.slice (some ⟨gs,0,none⟩) m cl,.func (.func ft) #[] ct,.func (.func fm) #[] cm,bv],.agg cs.toArray] w
   fun e n=>e=.returned (.tuple #[.agg (bkC (sectB k l)).toArray,.int .i64 0])/\Below w.heap.size w n:=wN
open fPutR in
theorem UR{w:World}(k:Nat)(xs:List Int)(m:Nat)(gs cl:Nat)(ft fm:Nat)(ct cm:Array Value)(bv:Value)(_hbv:bv.oneCell'=true)(cs:List Value)
  (hcs:(prog.info? 307).map (·.size)=some cs.length)
  (q:∀b w,(callFunc ft b).run prog w=.ok (.enter ft b) w) (s:∀b w,(callFunc fm b).run prog w=.ok (.enter fm b) w)
  (htell:∀a,Below w.heap.size w a->Calls prog ft (#[.agg cs.toArray]++ct) a (zS a m xs))
  (hmay:∀a gl c,m<=c->c<=maxLen->Below w.heap.size w a->a.rangeAt gl 0 (ints xs)->Calls prog fm (#[.slice (some ⟨gl,0,none⟩) m c]++cm) a fun e n=>e=.returned (.bool false)/\Below a.heap.size a n):
  Calls prog 426 #[.agg #[.int .i64 (k:Int),.slice (some ⟨gs,0,none⟩) m cl,.func (.func ft) #[] ct,.func (.func fm) #[] cm,bv],.agg cs.toArray] w
   fun e p=>e=.returned (.tuple #[bkV zB,.int .i64 10])/\Below w.heap.size w p:=vq
namespace fPutS
abbrev Ao:Nat:=141
abbrev Aq:Nat:=44
theorem q3c:type_of% @func76:= @func76
theorem q4c:type_of% @ntmps76:= @ntmps76
theorem q5c:type_of% @underlying44:= @underlying44
end fPutS
open fPutS in
theorem Sj(k:Nat)(hk:k<256)(l:List (Nat×Nat))(hl:Yk l)(m:Nat)(hm:l.length=m)(q:m<=100)(gs cl:Nat)(ft fm:Nat)(ct cm:Array Value)(bv:Value)(_hbv:bv.oneCell'=true)(cs:List Value)
  (hcs:(prog.info? 44).map (·.size)=some cs.length) (hs:w.rangeAt gs 0 (ints (vm l))) (hN:Nib w)
  (s:∀a w,(callFunc ft a).run prog w=.ok (.enter ft a) w) (A:∀a w,(callFunc fm a).run prog w=.ok (.enter fm a) w)
  (htell:∀W,Below w.heap.size w W->Calls prog ft (#[.agg cs.toArray]++ct) W (zS W m (numsL l)))
  (hmay:∀W gl c,m<=c->c<=maxLen->Below w.heap.size w W->W.rangeAt gl 0 (ints (numsL l))->Calls prog fm (#[.slice (some ⟨gl,0,none⟩) m c]++cm) W fun e b=>e=.returned (.bool true)/\Below W.heap.size W b):
  Calls prog 76 #[.agg #[.int .i64 (k:Int),.slice (some ⟨gs,0,none⟩) m cl,.func (.func ft) #[] ct,.func (.func fm) #[] cm,bv],.agg cs.toArray] w
   fun e n=>e=.returned (.tuple #[.agg (bkC (sectB k l)).toArray,.int .i64 0])/\Below w.heap.size w n:=wN
open fPutS in
theorem AC(k:Nat)(xs:List Int)(m:Nat)(gs cl:Nat)(ft fm:Nat)(ct cm:Array Value)(bv:Value)(_hbv:bv.oneCell'=true)(cs:List Value)
  (hcs:(prog.info? 44).map (·.size)=some cs.length)
  (q:∀b w,(callFunc ft b).run prog w=.ok (.enter ft b) w) (s:∀b w,(callFunc fm b).run prog w=.ok (.enter fm b) w)
  (htell:∀a,Below w.heap.size w a->Calls prog ft (#[.agg cs.toArray]++ct) a (zS a m xs))
  (hmay:∀a gl c,m<=c->c<=maxLen->Below w.heap.size w a->a.rangeAt gl 0 (ints xs)->Calls prog fm (#[.slice (some ⟨gl,0,none⟩) m c]++cm) a fun e n=>e=.returned (.bool false)/\Below a.heap.size a n):
  Calls prog 76 #[.agg #[.int .i64 (k:Int),.slice (some ⟨gs,0,none⟩) m cl,.func (.func ft) #[] ct,.func (.func fm) #[] cm,bv],.agg cs.toArray] w
   fun e p=>e=.returned (.tuple #[bkV zB,.int .i64 10])/\Below w.heap.size w p:=vq
namespace fPutP
abbrev Ao:Nat:=393
abbrev Aq:Nat:=297
theorem q3c:type_of% @func268:= @func268
theorem q4c:type_of% @ntmps268:= @ntmps268
theorem q5c:type_of% @underlying297:= @underlying297
end fPutP
open fPutP in
theorem XI{w:World}(k:Nat)(hk:k<256)(l:List (Nat×Nat))(hl:Yk l)(m:Nat)(hm:l.length=m)(q:m<=100)(gs cl:Nat)(ft fm:Nat)(ct cm:Array Value)(bv:Value)(_hbv:bv.oneCell'=true)(cs:List Value)
  (hcs:(prog.info? 297).map (·.size)=some cs.length) (hs:w.rangeAt gs 0 (ints (vm l))) (hN:Nib w)
  (s:∀a w,(callFunc ft a).run prog w=.ok (.enter ft a) w) (A:∀a w,(callFunc fm a).run prog w=.ok (.enter fm a) w)
  (htell:∀W,Below w.heap.size w W->Calls prog ft (#[.agg cs.toArray]++ct) W (zS W m (numsL l)))
  (hmay:∀W gl c,m<=c->c<=maxLen->Below w.heap.size w W->W.rangeAt gl 0 (ints (numsL l))->Calls prog fm (#[.slice (some ⟨gl,0,none⟩) m c]++cm) W fun e b=>e=.returned (.bool true)/\Below W.heap.size W b):
  Calls prog 268 #[.agg #[.int .i64 (k:Int),.slice (some ⟨gs,0,none⟩) m cl,.func (.func ft) #[] ct,.func (.func fm) #[] cm,bv],.agg cs.toArray] w
   fun e n=>e=.returned (.tuple #[.agg (bkC (sectB k l)).toArray,.int .i64 0])/\Below w.heap.size w n:=wN
open fPutP in
theorem US{w:World}(k:Nat)(xs:List Int)(m:Nat)(gs cl:Nat)(ft fm:Nat)(ct cm:Array Value)(bv:Value)(_hbv:bv.oneCell'=true)(cs:List Value)
  (hcs:(prog.info? 297).map (·.size)=some cs.length)
  (q:∀b w,(callFunc ft b).run prog w=.ok (.enter ft b) w) (s:∀b w,(callFunc fm b).run prog w=.ok (.enter fm b) w)
  (htell:∀a,Below w.heap.size w a->Calls prog ft (#[.agg cs.toArray]++ct) a (zS a m xs))
  (hmay:∀a gl c,m<=c->c<=maxLen->Below w.heap.size w a->a.rangeAt gl 0 (ints xs)->Calls prog fm (#[.slice (some ⟨gl,0,none⟩) m c]++cm) a fun e n=>e=.returned (.bool false)/\Below a.heap.size a n):
  Calls prog 268 #[.agg #[.int .i64 (k:Int),.slice (some ⟨gs,0,none⟩) m cl,.func (.func ft) #[] ct,.func (.func fm) #[] cm,bv],.agg cs.toArray] w
   fun e p=>e=.returned (.tuple #[bkV zB,.int .i64 10])/\Below w.heap.size w p:=vq
def rowI(xs:List Int)(i:Nat):List Int:=(xs.drop (4+4*i)).take 4
theorem wo(h:xs.length=20)(a:i<4):(rowI xs i).length=4:=by simp[rowI];omega
def bndE:List (Int×Int):=[(0,4095),(0,1023),(0,1),(0,4294967295)]
def entB(xs:List Int)(i:Nat):Bool:=if(i:Int)<xs.getD 3 0 then withinB bndE (rowI xs i)else decide (rowI xs i=[0,0,0,0])
def entsB(xs:List Int):Bool:=(List.range 4).all (entB xs)
def bndP:List (Int×Int):=[(0,1099511627776),(0,255),(1,256),(0,4)]
def mayP(xs:List Int):Bool:=withinB bndP xs&&decide (xs.getD 1 0<xs.getD 2 0)&&entsB xs
theorem Vt:(prog.info? 444).map (·.size)=some 4:=kR
theorem XJ(xs:List Int):∀a∈ints xs,a.oneCell'=true:=by
 intro a b;simp only[ints,qzr]at b;obtain⟨x,-,rfl⟩:=b;rfl
theorem UT(j:w.rangeAt g o (ints xs))(hx:xs.length=20)(L:20<=c)(A:c<=maxLen)(i:Nat)(n:i<4):
  Calls prog 347 #[.slice (some ⟨g,o,none⟩) 20 c,.int .i64 (i:Int)] w fun e D=>e=.returned (.agg (ints (rowI xs i)).toArray)/\Below w.heap.size w D:=by
 have p:w.rangeAt g (o+(4+4*i)) (ints (rowI xs i)):=fun M E q=>by
  have s:=(qym.1 q).1;rw[ints,qzc,wo hx n]at s;rw[qXm];refine j _ E ?_;rw[<-q,ints,ints,qyn,qyn,rowI,qyq,if_pos s,qyj]
 have b:(ints (rowI xs i)).length=4:=by rw[ints,qzc,wo hx n]
 have v:(prog.info? 444).map (·.size)=some (ints (rowI xs i)).length:=by rw[b];exact Vt
 have h1:=XJ (rowI xs i);have N:=fun(w:World) (F:Option Addr) (G:Nat)=>run_arrayAt (P:=prog) w 444 3 4 F (8+4*i-(4+4*i)) G underlying444 oM;unfold maxLen at A;have O:(i:Int)<4:=oM;have Q:(0:Int)<=(i:Int):=oM;have S:(4:Int)+4*(i:Int)<=8+4*(i:Int):=oM;have T:(8:Int)+4*(i:Int)<=(c:Int):=oM;have U:((4:Int)+4*(i:Int)).toNat=4+4*i:=oM;have V:((8:Int)+4*(i:Int)).toNat=8+4*i:=oM;have W:¬c=4+4*i:=oM;have H:=qYj p (.cells #[.int .i64 0,.int .i64 0,.int .i64 0,.int .i64 0] 444);generalize ints (rowI xs i)=J at*;have a:=Y3 b v h1;clear j hx b h1 p v;go_enter func347,ntmps347
 go_wp2_with (first
  |refine qYz rfl _ _ rfl _ _ rfl _ _ H underlying444 rfl a.o.2.1 ?_
  |(refine zk rfl _ _ _ rfl _ _ _ rfl rfl (by rw[a.o.1];rfl) a.o.2.1 a.o.2.2 ?_)
  |fail)
 exact qYq (zq rfl _ _ w.heap.size 0 J _ rfl (zg (zc w _ rfl)) underlying444 rfl a.o.2.1) rfl ⟨rfl,(qxl _ w).alloc (qXp _) _⟩
theorem Sk(Q:w.rangeAt g o (ints xs))(hx:xs.length=20)(Y:20<=c)(Z:c<=maxLen):
  Calls prog 345 #[.slice (some ⟨g,o,none⟩) 20 c] w fun e an=>e=.returned (.bool (entsB xs))/\Below w.heap.size w an:=by
 have az:g<w.heap.size:=qYh w _ (yU Q (i:=0) oM);have E:=Y4 Q hx Y Z;clear Q hx Y Z;go_enter func345,ntmps345
 go_wp2
 go_step3
 go_wp2_with fail
 refine(xG).mono ?_;rintro e w1 ⟨rfl,rfl⟩;have a6:(w.alloc (.cells (bndC bndE).toArray 207)).rangeAt w.heap.size 0 (bndC bndE):=zg (zc w _ rfl);have a7:(w.alloc (.cells (bndC bndE).toArray 207)).heap.size=w.heap.size+1:=oe;have a8:Bnd ((w.alloc (.cells #[.int .i64 0,.int .i64 4095,.int .i64 0,.int .i64 1023,.int .i64 0,.int .i64 1,.int .i64 0,.int .i64 4294967295] 207)).alloc (.cells #[.slice (some ⟨w.heap.size,0,none⟩) 4 4] 294)) (.func (.func 194) #[] #[.pointer (some ⟨w.heap.size+1,0,none⟩)]) bndE:=by
  have:=Bnd.made (c:=4) a6;rw[a7]at this;exact this
 have aa:Below w.heap.size w ((w.alloc (.cells #[.int .i64 0,.int .i64 4095,.int .i64 0,.int .i64 1023,.int .i64 0,.int .i64 1,.int .i64 0,.int .i64 4294967295] 207)).alloc (.cells #[.slice (some ⟨w.heap.size,0,none⟩) 4 4] 294)):=((qxl _ w).alloc (qXp _) _).alloc oe _;clear a6 a7;go_wp2
 go_step3
 go_wp2
 generalize (w.alloc (.cells #[.int .i64 0,.int .i64 4095,.int .i64 0,.int .i64 1023,.int .i64 0,.int .i64 1,.int .i64 0,.int .i64 4294967295] 207)).alloc (.cells #[.slice (some ⟨w.heap.size,0,none⟩) 4 4] 294)=aA at*;have ab:=Y2 a8 aa;clear a8 aa;go_loopw[4,13] (fun ao S wr=>∃k:Nat,k<=4/\S=.int .i64 k/\ao=.bool true/\(List.range k).all (entB xs)=true/\Below w.heap.size w wr/\Bnd wr (.func (.func 194) #[] #[.pointer (some ⟨w.heap.size+1,0,none⟩)]) bndE) (fun _ S _=>4-(intOf S).toNat)
 case atStart=>exact⟨0,oM,rfl,rfl,oe,ab.o.2,ab.o.1⟩
 case round=>
  obtain⟨k,aB,rfl,rfl,N,j,T⟩:=hrel;have A:=Y3 N j T;by_cases hlt:k<4
  .have ad:Hid (∀U,entB xs k=U->(List.range (k+1)).all (entB xs)=U):=fun U j=>by
    rw[qXd,List.all_append,A.o.1];simp[j]
   have ae:Hid (entB xs k=false->entsB xs=false):=fun j=>by
    unfold entsB;rw[<-Bool.not_eq_true];intro e;rw[qxv]at e;have:=e k og;rw[j]at this;cases this
   have V:=E.o.2.1;obtain⟨D,W⟩:∃D,xs.getD 3 0=D:=⟨_,rfl⟩
   have af:wr.cell? ⟨g,o+3,none⟩=some (.int .i64 D):=by
    have:=yU (Below.range j E.o.1) (i:=3) oM;rw[this,<-W];simp[List.getD_eq_getElem?_getD,show 3<xs.length by omega]
   have aC:(0:Int)<=(k:Int):=oM;have aD:(k:Int)<4:=oM;have ap:=E.o.2.2.1;have aq:=E.o.2.2.2;unfold maxLen at aq;have G:Hid ((rowI xs k).length=4):=wo V hlt;have ag:(prog.info? 444).map (·.size)=some (ints (rowI xs k)).length:=by rw[ints,qzc,G.out];exact Vt
   have h1:=XJ (rowI xs k);have ah:=qqh (UT (Below.range j E.o.1) V ap E.o.2.2.2 k hlt);have H:=Y2 ag h1;have O:Hid (entB xs k=if(k:Int)<D then withinB bndE (rowI xs k)else decide (rowI xs k=[0,0,0,0])):=by show _=_;rw[entB,W]
   clear W N j T V ag h1;by_cases F:(k:Int)<D
   .have ar:decide ((k:Int)<D)=true:=by simpa using F
    have hent2:Hid (entB xs k=withinB bndE (rowI xs k)):=by show _=_;rw[O.out,if_pos F]
    clear O F;obtain⟨s,n⟩:∃s,withinB bndE (rowI xs k)=s:=⟨_,rfl⟩
    have HBB:=qqh n;cases s
    all_goals
     clear n;go_wp2_with fail
     refine ah.out.mono ?_;rintro e b ⟨rfl,J⟩;have L:(b.alloc (.cells (ints (rowI xs k)).toArray 444)).rangeAt b.heap.size 0 (ints (rowI xs k)):=zg (zc b _ rfl);have p:Upd (fun _=>False) wr (b.alloc (.cells (ints (rowI xs k)).toArray 444)):=(uuo J).alloc _;have M:=A.o.2.2.below (Upd.below p);have au:=p.j3 af id;have v:Below w.heap.size w (b.alloc (.cells (ints (rowI xs k)).toArray 444)):=A.o.2.1.trans ((Upd.below p).mono A.o.2.1.size);have q:=Y3 L M v;clear L p M v J;go_wp2_with (first
      |(refine zk rfl _ _ _ rfl _ _ _ rfl rfl (by rw[ints,qzc,G.out];rfl) H.o.1 H.o.2 ?_)
      |fail)
     obtain⟨aE,aF,aG,a,ai,aj⟩:=q.o.2.1;injection a with _ _ a
     injection a with a
     injection a with a
     injection a with a
     injection a with a
     injection a with a
     subst a;refine(yV bndE (rowI xs k) ai aj q.o.1 G.out (by show 4<=4;decide) de).mono ?_;rw[HBB.o];rintro e av ⟨rfl,n⟩;have v:Below w.heap.size w av:=q.o.2.2.trans (n.mono q.o.2.2.size);have ak:=q.o.2.1.below n;have X:=Y2 v ak;clear v ak n ai aj;go_wp2
    .rw [qxr];go_ret
     exact⟨by rw[ae.out jI];rfl,X.o.1⟩
    .go_roundw
     case rel=>exact⟨k+1,oM,by go_num,rfl,ad.out true jI,X.o.1,X.o.2⟩
     case measure=>simp[intOf];omega
   .have ar:decide ((k:Int)<D)=false:=by simpa using F
    have hent2:Hid (entB xs k=(rowI xs k==[0,0,0,0])):=by show _=_;rw[O.out,if_neg F];exact(Bool.beq_eq_decide_eq _ _).symm
    clear O F;obtain⟨s,n⟩:∃s,(rowI xs k==[0,0,0,0])=s:=⟨_,rfl⟩
    have HBB:=qqh n;have aH:∀w,(binOp .eql 444 (.agg (ints (rowI xs k)).toArray) (.agg #[.int .i64 0,.int .i64 0,.int .i64 0,.int .i64 0])).run prog w=.ok (.bool s) w:=fun w=>by
     obtain⟨i,aw,am⟩:=qYc.1 UQ;simp only[qYe]at am;rw[<-n];exact Yj w 444 3 4 underlying444 underlying3 (fun w=>by simp[sizeOf,typeInfo,aw,am.2.1]) (rowI xs k) [0,0,0,0] G.out rfl
    cases s
    all_goals
     clear n;go_wp2_with fail
     refine ah.out.mono ?_;rintro e b ⟨rfl,J⟩;have L:(b.alloc (.cells (ints (rowI xs k)).toArray 444)).rangeAt b.heap.size 0 (ints (rowI xs k)):=zg (zc b _ rfl);have p:Upd (fun _=>False) wr (b.alloc (.cells (ints (rowI xs k)).toArray 444)):=(uuo J).alloc _;have M:=A.o.2.2.below (Upd.below p);have au:=p.j3 af id;have v:Below w.heap.size w (b.alloc (.cells (ints (rowI xs k)).toArray 444)):=A.o.2.1.trans ((Upd.below p).mono A.o.2.1.size);have q:=Y3 L M v;clear p M v J;go_wp2_with (first
      |(refine zk rfl _ _ _ rfl _ _ _ rfl rfl (by rw[ints,qzc,G.out];rfl) H.o.1 H.o.2 ?_)
      |(refine qYz rfl _ _ rfl _ _ rfl _ _ L underlying444 rfl H.o.1 ?_)
      |fail)
    .rw [qxr];go_ret
     exact⟨by rw[ae.out jI];rfl,q.o.2.2⟩
    .go_roundw
     case rel=>exact⟨k+1,oM,by go_num,rfl,ad.out true jI,q.o.2.2,q.o.2.1⟩
     case measure=>simp[intOf];omega
  .obtain rfl:k=4:=oM;have ax:Hid (entsB xs=true):=N;have ay:=qqh j;clear N j T;go_wp2
   rw[qxr];go_ret
   exact⟨by rw[ax.out];rfl,ay.o⟩
theorem rR{w:World}{gl ol cl H:Nat}{v:Value}(xs:List Int)(a7:xs.length=20)(ad:20<=cl)(a8:cl<=maxLen)(hv:w.cell? ⟨H,0,none⟩=some v)(ae:Bnd w v bndP)(hx:w.rangeAt gl ol (ints xs)):
  Calls prog 344 #[.slice (some ⟨gl,ol,none⟩) 20 cl,.pointer (some ⟨H,0,none⟩)] w fun e G=>e=.returned (.bool (mayP xs))/\Below w.heap.size w G:=by
 obtain⟨g,h,ah,rfl,aa,ab⟩:=ae;obtain⟨s,Q⟩:∃s,xs.getD 1 0=s:=⟨_,rfl⟩
 obtain⟨A,T⟩:∃A,xs.getD 2 0=A:=⟨_,rfl⟩
 have c1:w.cell? ⟨gl,ol+1,none⟩=some (.int .i64 s):=by
  rw[yU hx (i:=1) oM,<-Q];simp[List.getD_eq_getElem?_getD,show 1<xs.length by omega]
 have c2:w.cell? ⟨gl,ol+2,none⟩=some (.int .i64 A):=by
  rw[yU hx (i:=2) oM,<-T];simp[List.getD_eq_getElem?_getD,show 2<xs.length by omega]
 have N:Upd (fun _=>False) w w.drew:=(uur _ _).drew;have b:=Y6 (N.range hx id) (N.j3 aa id) (N.range ab id) a7 ad a8;have E:Hid (mayP xs=(withinB bndP xs&&decide (s<A)&&entsB xs)):=by show _=_;rw[mayP,Q,T]
 clear hx ab aa N Q T a7 a8;obtain⟨U,J⟩:∃U,withinB bndP xs=U:=⟨_,rfl⟩
 have V:=qqh J;cases U
 .rw [J]at E;clear J;go_enter func344,ntmps344
  go_wp2
  refine qZc (S:=fun q=>q.cell? ⟨H,0,none⟩=some (.func (.func 194) #[] #[.pointer (some ⟨g,0,none⟩)])/\q.cell? ⟨gl,ol+1,none⟩=some (.int .i64 s)/\q.cell? ⟨gl,ol+2,none⟩=some (.int .i64 A)) kR (by(simp only[qYi]);exact⟨hv,c1,c2⟩) (fun n=>?_);refine Wl.i [0,1] ?_;iterate 2 refine Wl.t n ?_
  refine Wl.o ?_;refine Wl.r 2 (fun K a=>?_);go_simp
  refine(yV bndP xs b.o.2.1 b.o.2.2.1 b.o.1 b.o.2.2.2.1 (by show 4<=20;decide) de).mono ?_;rw[V.o];rintro e G ⟨rfl,p⟩;refine a.o _ _ (have j:=uuo (S:=fun _=>False) p;⟨j.j3 n.1 id,j.j3 n.2.1 id,j.j3 n.2.2 id⟩) (fun F=>?_);clear a K;refine Wl.i [3,4,5,6,7,8,9,10] ?_;iterate 8 refine Wl.t F ?_
  refine Wl.o ?_;refine Wl.r 11 (fun K a=>?_);go_simp
  refine a.o _ _ (F) (fun D=>?_);clear a K;refine Wl.i [12,13,14] ?_;iterate 3 refine Wl.t D ?_
  refine Wl.o ?_;refine Wl.r 15 (fun K a=>?_);go_simp
  refine a.o _ _ (D) (fun L=>?_);clear a K;refine Wl.r 16 (fun K a=>?_);go_simp
  refine a.o _ _ (L) (fun W=>?_);clear a K;refine Wl.d ?_;have M:Hid (Below w.heap.size w G):=yy p;clear p;go_wp2
  go_ret
  exact⟨by rw[E.o];rfl,M.o⟩
 .rw [J]at E;clear J;by_cases O:s<A
  .have X:decide (s<A)=true:=by simpa using O
   rw[X]at E;clear O;obtain⟨Y,Z⟩:∃Y,entsB xs=Y:=⟨_,rfl⟩
   have af:=qqh Z;rw[Z]at E;clear Z;go_enter func344,ntmps344
   go_wp2
   refine qZc (S:=fun q=>q.cell? ⟨H,0,none⟩=some (.func (.func 194) #[] #[.pointer (some ⟨g,0,none⟩)])/\q.cell? ⟨gl,ol+1,none⟩=some (.int .i64 s)/\q.cell? ⟨gl,ol+2,none⟩=some (.int .i64 A)) kR (by(simp only[qYi]);exact⟨hv,c1,c2⟩) (fun n=>?_);refine Wl.i [0,1] ?_;iterate 2 refine Wl.t n ?_
   refine Wl.o ?_;refine Wl.r 2 (fun K a=>?_);go_simp
   refine(yV bndP xs b.o.2.1 b.o.2.2.1 b.o.1 b.o.2.2.2.1 (by show 4<=20;decide) de).mono ?_;rw[V.o];rintro e G ⟨rfl,p⟩;refine a.o _ _ (have j:=uuo (S:=fun _=>False) p;⟨j.j3 n.1 id,j.j3 n.2.1 id,j.j3 n.2.2 id⟩) (fun F=>?_);clear a K;refine Wl.i [3,4,5,6,7,8,9,10] ?_;iterate 8 refine Wl.t F ?_
   refine Wl.o ?_;refine Wl.r 11 (fun K a=>?_);go_simp
   refine a.o _ _ (F) (fun D=>?_);clear a K;refine Wl.i [12,13] ?_;iterate 2 refine Wl.t D ?_
   refine Wl.o ?_;refine Wl.r 14 (fun K a=>?_);go_simp
   refine(Sk (Below.range p b.o.1) b.o.2.2.2.1 b.o.2.2.2.2.1 b.o.2.2.2.2.2).mono ?_;rw[af.o];rintro e ag ⟨rfl,a6⟩;refine a.o _ _ (have j:=uuo (S:=fun _=>False) a6;⟨j.j3 D.1 id,j.j3 D.2.1 id,j.j3 D.2.2 id⟩) (fun L=>?_);clear a K;refine Wl.r 15 (fun K a=>?_);go_simp
   refine a.o _ _ (L) (fun W=>?_);clear a K;refine Wl.r 16 (fun K a=>?_);go_simp
   refine a.o _ _ (W) (fun ai=>?_);clear a K;refine Wl.d ?_;have M:Hid (Below w.heap.size w ag):=yy (p.trans (a6.mono p.size));clear p a6;go_wp2
   go_ret
   exact⟨by rw[E.o];cases Y<;>rfl,M.o⟩
  .have X:decide (s<A)=false:=by simpa using O
   rw[X]at E;clear O;go_enter func344,ntmps344
   go_wp2
   refine qZc (S:=fun q=>q.cell? ⟨H,0,none⟩=some (.func (.func 194) #[] #[.pointer (some ⟨g,0,none⟩)])/\q.cell? ⟨gl,ol+1,none⟩=some (.int .i64 s)/\q.cell? ⟨gl,ol+2,none⟩=some (.int .i64 A)) kR (by(simp only[qYi]);exact⟨hv,c1,c2⟩) (fun n=>?_);refine Wl.i [0,1] ?_;iterate 2 refine Wl.t n ?_
   refine Wl.o ?_;refine Wl.r 2 (fun K a=>?_);go_simp
   refine(yV bndP xs b.o.2.1 b.o.2.2.1 b.o.1 b.o.2.2.2.1 (by show 4<=20;decide) de).mono ?_;rw[V.o];rintro e G ⟨rfl,p⟩;refine a.o _ _ (have j:=uuo (S:=fun _=>False) p;⟨j.j3 n.1 id,j.j3 n.2.1 id,j.j3 n.2.2 id⟩) (fun F=>?_);clear a K;refine Wl.i [3,4,5,6,7,8,9,10] ?_;iterate 8 refine Wl.t F ?_
   refine Wl.o ?_;refine Wl.r 11 (fun K a=>?_);go_simp
   refine a.o _ _ (F) (fun D=>?_);clear a K;refine Wl.i [12,13,14] ?_;iterate 3 refine Wl.t D ?_
   refine Wl.o ?_;refine Wl.r 15 (fun K a=>?_);go_simp
   refine a.o _ _ (D) (fun L=>?_);clear a K;refine Wl.r 16 (fun K a=>?_);go_simp
   refine a.o _ _ (L) (fun W=>?_);clear a K;refine Wl.d ?_;have M:Hid (Below w.heap.size w G):=yy p;clear p;go_wp2
   go_ret
   exact⟨by rw[E.o];rfl,M.o⟩
theorem yg(h:withinB B xs=true)(a:i<B.length)(hx:i<xs.length):B[i].1<=xs[i]/\xs[i]<=B[i].2:=by
 unfold withinB at h;rw[qxv]at h;have:=h (B[i],xs[i]) (by rw[List.mem_iff_getElem];exact⟨i,by simp;omega,oe⟩);simpa[inB]using this
theorem tW{xs:List Int}(hx:xs.length=20)(h:mayP xs=true):(∀x∈xs,0<=x)/\Yk (numL [6,2,2,1,2,2,1,4,2,2,1,4,2,2,1,4,2,2,1,4] xs):=by
 simp only[mayP,qxo]at h;obtain⟨⟨h1,h2⟩,j⟩:=h;have a0:=yg h1 (i:=0) de oM;have a1:=yg h1 (i:=1) de oM;have a2:=yg h1 (i:=2) de oM;have a3:=yg h1 (i:=3) de oM;simp[bndP]at a0 a1 a2 a3;unfold entsB at j;rw[qxv]at j;have q:∀i (_:i<4),∀a (_:a<4),∃h:4+4*i+a<xs.length,0<=xs[4+4*i+a]/\xs[4+4*i+a]<=bndE[a]!.2:=by
  intro i hi a n;refine⟨oM,?_⟩;have b:=j i oz;have H:=wo hx hi;have e:(rowI xs i)[a]'oM =xs[4+4*i+a]'oM:=by simp[rowI]
  rw[<-e];unfold entB at b;split at b
  .have:=yg b (i:=a) (by simpa[bndE]using n) oM;rcases a with _|_|_|_|a
   all_goals first|omega|(simp[bndE]at this⊢;omega)
  .simp at b;have s:(rowI xs i)[a]'oM =0:=by
    simp only[b];rcases a with _|_|_|_|a
    all_goals first|omega|rfl
   rw[s];rcases a with _|_|_|_|a
   all_goals first|omega|(simp[bndE])
 have p:∀i (h1:i<xs.length) (h2:i<[6,2,2,1,2,2,1,4,2,2,1,4,2,2,1,4,2,2,1,4].length),0<=xs[i]/\xs[i]<256^[6,2,2,1,2,2,1,4,2,2,1,4,2,2,1,4,2,2,1,4][i]:=by
  intro i hi J;by_cases L:i<4
  .rcases i with _|_|_|_|i
   all_goals first|omega|(simp;omega)
  .obtain ⟨k,a,v,n,rfl⟩:∃k a,k<4/\a<4/\i=4+4*k+a:=⟨(i-4)/4,(i-4)%4,oM,oM,oM⟩
   obtain⟨M,A,D⟩:=q k v a n;refine⟨A,?_⟩;have E:k=0\/k=1\/k=2\/k=3:=oM;have F:a=0\/a=1\/a=2\/a=3:=oM;rcases E with rfl|rfl|rfl|rfl<;>rcases F with rfl|rfl|rfl|rfl<;>simp[bndE]at D⊢<;>omega
 refine⟨fun x G=>?_,tV (by rw[hx];rfl) de de p⟩;obtain⟨i,hi,rfl⟩:=qyw G;exact(p i hi og).1
def bndS:List (Int×Int):=[(0,1099511627776),(1,4096),(1,1024),(1,4096),(1,4096),(1,4096),(1,64)]
def mayS(xs:List Int):Bool:=withinB bndS xs
theorem XK{gl ol cl a:Nat}(xs:List Int)(b:xs.length=7)(_hcl:7<=cl)(_hcm:cl<=maxLen)(j:Bnd w (.func (.func 194) #[] #[.pointer (some ⟨a,0,none⟩)]) bndS)(hx:w.rangeAt gl ol (ints xs)):
  Calls prog 194 (#[.slice (some ⟨gl,ol,none⟩) 7 cl]++ #[.pointer (some ⟨a,0,none⟩)]) w fun e n=>e=.returned (.bool (mayS xs))/\Below w.heap.size w n:=by
 obtain⟨g,h,c,p,q,s⟩:=j;cases p;exact yV (cl:=cl) bndS xs q s hx b (by show 7<=7;decide) de
theorem ZD(hx:xs.length=7)(h:mayS xs=true):(∀x∈xs,0<=x)/\Yk (numL [6,2,2,2,2,2,1] xs):=by
 have h1:withinB bndS xs=true:=h;have a0:=zG h1 (i:=0) de oM;have a1:=zG h1 (i:=1) de oM;have a2:=zG h1 (i:=2) de oM;have a3:=zG h1 (i:=3) de oM;have a4:=zG h1 (i:=4) de oM;have a5:=zG h1 (i:=5) de oM;have j:=zG h1 (i:=6) de oM;simp[bndS]at a0 a1 a2 a3 a4 a5 j;have b:∀i (h1:i<xs.length) (h2:i<[6,2,2,2,2,2,1].length),0<=xs[i]/\xs[i]<256^[6,2,2,2,2,2,1][i]:=by
  intro i a n;rcases i with _|_|_|_|_|_|_|i
  all_goals first|(simp at n;omega)|(simp;omega)
 exact Zcg06
theorem xM{x:Bk}(hx:x.length=64){p s:Nat}(h:p+s<=60):((sealB x).drop p).take s=(x.drop p).take s:=by
 apply List.ext_getElem?
 intro i;by_cases a:i<s
 .rw [List.getElem?_take_of_lt a,List.getElem?_take_of_lt a,qyj,qyj];unfold sealB;rw[qyh og,List.getElem?_take_of_lt oM]
 .rw [List.getElem?_take_eq_none oM,List.getElem?_take_eq_none oM]
theorem um{pre mid post:List UInt8}:((padB (pre++mid++post)).drop pre.length).take mid.length=mid:=by
 unfold padB;rw[qxw,qxw,List.drop_left' rfl,List.take_left' rfl]
theorem XL(l:List (Nat×Nat)):∀(pre:List UInt8),pre.length+sizes l<=60->(∀a∈l,a.1<256^a.2)->numsAt (sealB (padB (pre++encB l))) pre.length (l.map (·.2))=l.map (·.1):=by
 induction l with
 |nil=>intro pre _ _;rfl
 |cons a l n=>
  intro pre s b;have v:sizes (a::l)=a.2+sizes l:=by simp[sizes]
  have j:encB (a::l)=lowB a.1 a.2++encB l:=by simp[encB]
  simp only[qzi,numsAt,List.cons.injEq];constructor
  .rw [xM (vl (by rw[qyz,uV];omega)) oM,j,<-qxw];have:=um (pre:=pre) (mid:=lowB a.1 a.2) (post:=encB l);rw[yi]at this;rw[this];exact Xs _ _ (b a oe)
  .have:=n (pre++lowB a.1 a.2) (by rw[qyz,yi];omega) (fun p q=>b p (by simp[q]));rw[qyz,yi,qxw]at this;rw[j];exact this
theorem AD(D:k<256)(a:Yk l)(mb:Bool):okGet (sectB k l) k (l.map (·.2)) mb=mb/\numsAt (sectB k l) 1 (l.map (·.2))=l.map (·.1):=by
 have j:=uW (k:=k) a.2;have n:(l.map (·.2)).sum=sizes l:=rfl;have q:(lowB k 1++encB l).length=1+sizes l:=by rw[qyz,yi,uV]
 have h1:sealB (sectB k l)=sectB k l:=Vi j;have h2:numB ((sectB k l).take 1)=k:=by
  have:=xM j (p:=0) (s:=1) oM;rw[qyb,qyb]at this;have b:=um (pre:=[]) (mid:=lowB k 1) (post:=encB l);rw[yi,qzv,qzd,qyb]at b;unfold sectB;rw[this,b];exact Xs _ _ oM
 have b:endB (sectB k l) (1+sizes l)=true:=by
  unfold endB sectB;rw[xM j (by have:=a.2;omega)];unfold padB;rw[<-q,List.drop_left' rfl,qxv];intro x hx;have:=List.mem_of_mem_take hx;rw[List.mem_replicate]at this;simpa using this.2
 refine⟨?_,?_⟩
 .unfold okGet;rw[n,h1,h2,b];simp
 .have:=XL l (lowB k 1) (by rw[yi];have:=a.2;omega) (fun v A=>(a.1 v A).1);rw[yi]at this;exact this
end Go.Proofs.YtpejdgiccaijfaaGreatDoor
