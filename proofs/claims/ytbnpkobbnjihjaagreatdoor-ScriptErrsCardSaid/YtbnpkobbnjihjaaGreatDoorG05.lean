/- Numbers, one b -/
import Derived.Test.YtbnpkobbnjihjaaGreatDoorG02
import Derived.Laws.Cover3
set_option maxRecDepth 100000
set_option maxHeartbeats 2000000
namespace Go.Proofs.YtbnpkobbnjihjaaGreatDoor
open Go Go.RowKit Tryz
variable{i k c:Nat}{xs:List Int}{l:List (Nat×Nat)}{sz:List Nat}{w:World}
def encB(l:List (Nat×Nat)):List UInt8:=l.flatMap fun p=>lowB p.1 p.2
theorem sS(l:List (Nat×Nat))(p:Nat×Nat):encB (l++[p])=encB l++lowB p.1 p.2:=by simp[encB]
def sizes(l:List (Nat×Nat)):Nat:=(l.map (·.2)).sum
theorem wY(l:List (Nat×Nat)):(encB l).length=sizes l:=by
 induction l with
 |nil=>rfl
 |cons h l b=>simp only[encB,sizes,qye,qyy,zY,qzh,List.sum_cons]at b⊢;rw[b]
theorem qR(l:List (Nat×Nat))(h:i<l.length):sizes (l.take i)+l[i].2<=sizes l:=by
 have b:=congrArg sizes (qXi (i+1) l);rw[qXk h]at b;simp only[sizes,qzg,List.sum_append,qzh,qzj,List.sum_cons,List.sum_nil]at b⊢;omega
def qS(l:List (Nat×Nat)):Prop:=(∀p∈l,p.1<256^p.2/\1<=p.2/\p.2<=7)/\sizes l<=59
def numsL(l:List (Nat×Nat)):List Int:=l.map fun p=>(p.1:Int)
def wy(l:List (Nat×Nat)):List Int:=l.map fun p=>(p.2:Int)
theorem vF(h:i<l.length):(ints (numsL l))[i]?=some (.int .i64 (l[i].1:Int)):=by
 rw[yp (by simpa[numsL]using h)];simp[numsL]
theorem wB(h:i<l.length):(ints (wy l))[i]?=some (.int .i64 (l[i].2:Int)):=by
 rw[yp (by simpa[wy]using h)];simp[wy]
def sectB(k:Nat)(l:List (Nat×Nat)):Bk:=sealB (padB (lowB k 1++encB l))
theorem uF(h:sizes l<=59):(padB (lowB k 1++encB l)).length=64:=wX (by simp[zY,wY];omega)
theorem yT(h:sizes l<=59):(sectB k l).length=64:=vC (uF h)
def Xg(W:World)(m:Nat)(xs:List Int)(e:Ending)(W':World):Prop:=∃g c,e=.returned (.slice (some ⟨g,0,none⟩) m c)/\W'.rangeAt g 0 (ints xs)/\Below W.heap.size W W'
theorem yU(w:World)(A B C:Obj):let W:=((w.alloc A).alloc B).alloc C
  W.heap[w.heap.size]?=some A/\W.heap[w.heap.size+1]?=some B/\W.heap[w.heap.size+1+1]?=some C/\W.heap.size=w.heap.size+3/\Upd (fun _=>False) w W:=by
 refine⟨?_,?_,zc _ _ oe,oe,(((uur _ w).alloc _).alloc _).alloc _⟩
 .rw [qxk _ _ _ jO,qxk _ _ _ oe];exact zc w _ rfl
 .rw [qxk _ _ _ oe];exact zc _ _ oe
theorem Sd(k:Nat)(ah:k<256)(l:List (Nat×Nat))(n:qS l)(m:Nat)(A:l.length=m)(bk:m<=100)(gs cl:Nat)(F D:Nat)(V cm:Array Value)(W:Value)(_hbv:W.oneCell'=true)(cs:List Value)
  (aC:(prog.info? 107).map (·.size)=some cs.length) (X:w.rangeAt gs 0 (ints (wy l))) (Y:Nib w)
  (bl:∀ab w,(callFunc F ab).run prog w=.ok (.enter F ab) w) (bn:∀ab w,(callFunc D ab).run prog w=.ok (.enter D ab) w)
  (aD:∀b,Below w.heap.size w b->Calls prog F (#[.agg cs.toArray]++V) b (Xg b m (numsL l)))
  (aE:∀b gl c,Below w.heap.size w b->b.rangeAt gl 0 (ints (numsL l))->Calls prog D (#[.slice (some ⟨gl,0,none⟩) m c]++cm) b fun e b2=>e=.returned (.bool true)/\Below b.heap.size b b2):
  Calls prog 190 #[.agg #[.int .i64 (k:Int),.slice (some ⟨gs,0,none⟩) m cl,.func (.func F) #[] V,.func (.func D) #[] cm,W],.agg cs.toArray] w
   fun e b3=>e=.returned (.tuple #[.agg (bkC (sectB k l)).toArray,.int .i64 0])/\Below w.heap.size w b3:=by
 have H:=Y7 X Y aD aE ah n A;have b4:=qqh aC;clear X Y aD aE ah n A aC;have aF:((w.alloc (.cells #[.int .i64 (k:Int),.slice (some ⟨gs,0,none⟩) m cl,.func (.func F) #[] V,.func (.func D) #[] cm,W] 308)).alloc (.cells cs.toArray 107)).rangeAt (w.heap.size+1) 0 cs:=zf (zc _ _ oe);go_enter func190,ntmps190
 go_wp2_with (first
  |(refine qZa rfl _ _ rfl _ _ rfl _ _ (qYj aF _) underlying107 rfl b4.o ?_)
  |fail)
 show Calls _ _ _ (((w.alloc (.cells #[.int .i64 (k:Int),.slice (some ⟨gs,0,none⟩) m cl,.func (.func F) #[] V,.func (.func D) #[] cm,W] 308)).alloc (.cells cs.toArray 107)).alloc (.cells (bkC zB).toArray 54)) _;obtain⟨h1,h2,ai,ap,aj⟩:=yU w (.cells #[.int .i64 (k:Int),.slice (some ⟨gs,0,none⟩) m cl,.func (.func F) #[] V,.func (.func D) #[] cm,W] 308) (.cells cs.toArray 107) (.cells (bkC zB).toArray 54);clear aF;generalize ((w.alloc (.cells #[.int .i64 (k:Int),.slice (some ⟨gs,0,none⟩) m cl,.func (.func F) #[] V,.func (.func D) #[] cm,W] 308)).alloc (.cells cs.toArray 107)).alloc (.cells (bkC zB).toArray 54)=b5 at*;refine(H.o.2.2.1 b5 (Upd.below aj)).mono ?_;rintro e aG ⟨gl,b6,rfl,aH,aI⟩;have ak:=qqb aI;have K:=(ak.block _ (zd h1) id).trans h1;have L:=(ak.block _ (zd ai) id).trans ai;have b7:aG.cell? ⟨w.heap.size,3,none⟩=some (.func (.func D) #[] cm):=za K 3;have am:=Y5 aH (aj.trans ak) K L ap;clear h1 h2 ai ap aj aH aI ak K L;go_wp2_with fail
 refine(H.o.2.2.2.1 aG gl b6 (Upd.below am.o.2.1) am.o.1).mono ?_;rintro e Z ⟨rfl,aJ⟩;have a6:=qqb aJ;obtain⟨aK,aq,K,L,z4⟩:=am.o;have a7:=a6.range aK id;have a8:=(a6.block _ (zd K) id).trans K;have M:=(a6.block _ (zd L) id).trans L;have aL:Z.cell? ⟨w.heap.size,0,none⟩=some (.int .i64 (k:Int)):=za a8 0;have z5:w.heap.size+3<=Z.heap.size:=by have h1:=zd M;have h2:=a6.size;have ai:=aq.size;have ap:=zd L;have aj:=z4;have bo:=am.o.2.2.2.2;omega
 have b8:=Y4 a7 (aq.trans a6) a8 M;clear aK aq K L z4 a7 a8 M a6 aJ b7;go_wp2_with fail
 generalize aM:w.heap.size=j at*;have HM:=qqh aM;clear aM;refine qZd (S:=fun b=>b.cell? ⟨j,0,none⟩=some (.int .i64 (k:Int))) kR (by rw[qYi];exact aL) (fun an=>?_);refine qYz (i:=1) (v:=?_) rfl kR kR kR (fun _ _ _ h=>h) (Or.inl ⟨by rfl,?_⟩) an ?_
 rotate_left
 .intro b ar;(try dsimp only at ar);(try go_split_ands);go_simp;(try with_reducible rfl)
 simp only[Act.put,qXd];refine qYz (i:=2) (v:=?_) rfl kR kR kR (fun _ _ _ h=>h) (Or.inl ⟨by rfl,?_⟩) an ?_
 rotate_left
 .intro b ar;(try dsimp only at ar);(try go_split_ands);go_simp;(try with_reducible rfl)
 simp only[Act.put];refine Wl.r 0 (fun ad G=>?_);go_simp
 refine(RV _).mono ?_;rintro e bp ⟨g,rfl,q,hge,au⟩;have bq:Z.heap.size<=g:=hge;refine G.o _ _ ((uuo (S:=fun _=>False) au).jU an id) (fun aN=>?_);clear G ad;refine Wl.r 3 (fun ad G=>?_);go_simp
 refine(AI q k 1 de de oZ de).mono ?_;rintro e N ⟨rfl,aO,av⟩;refine G.o _ _ (av.jU aN oM) (fun aP=>?_);clear G ad;refine Wl.r 4 (fun ad G=>?_);go_simp
 refine G.o _ _ (aP) (fun _=>?_);clear G ad;refine Wl.d ?_;obtain⟨a7,u5,a8,M⟩:=b8.o;obtain⟨X,Y,-,-,ah,n,A⟩:=H.o;have O:Upd (fun J=>J=g) Z N:=((uuo (S:=fun _=>False) (yj au)).mono fE).trans av;have b9:gl<Z.heap.size\/m=0:=by
  rcases qXn m with h|h
  .exact .inr h
  .exact .inl (qYh Z _ (a7 0 _ (vF oM)))
 have aw:w.heap.size=j:=HM.o;have ba:gs<w.heap.size\/m=0:=by
  rcases qXn m with h|h
  .exact .inr h
  .exact .inl (qYh w _ (X 0 _ (wB oM)))
 have bb:=u5.size;have m1:N.cell? ⟨j,1,none⟩=some (.slice (some ⟨gs,0,none⟩) m cl):=O.jU (za a8 1) oM;have E:=(O.block (j+1+1) (zd M) oM).trans M;have Q:Nib N:=((Y.keep u5 id).keep O (by have:=Y.lt;omega))
 have R:Below j w N:=zj (by rw[<-aw];exact Upd.below u5) O (by rw[<-aw];exact qXp _) (fun k e=>oM);have T:∀i (aa:i<l.length) b,Upd (fun J=>J=g) N b->b.cell? ⟨gl,0+i,none⟩=some (.int .i64 (l[i].1:Int)):=fun i aa b q=>q.jU (O.jU (a7 i _ (vF aa)) oM) oM;have U:∀i (aa:i<l.length) b,Upd (fun J=>J=g) N b->b.cell? ⟨gs,0+i,none⟩=some (.int .i64 (l[i].2:Int)):=fun i aa b q=>q.jU (O.jU ((u5.range X id) i _ (wB aa)) oM) oM;have ax:=Y9 T U m1 E Q R n A aO;have br:j<=g:=oM;have bc:¬j=g:=oM;have bd:¬j+1+1=g:=oM;have bs:=zd E
 rename_i hx
 clear hx an aN aP q hge au av aO Y X ah n A a7 u5 a8 M O b9 ba aw bb m1 E Q R T U aL;go_wp2
 go_loopw[26] (fun ay wr=>∃i:Nat,i<=m/\ay=.int .i64 i/\WrAt wr g (lowB k 1++encB (l.take i))/\Upd (fun J=>J=g) N wr) (fun ay _=>m-(intOf ay).toNat)
 case atStart=>exact⟨0,qXz _,rfl,by simpa[encB]using ax.o.2.2.2.2.2.2.2.2,uur _ _⟩
 case round=>
  obtain⟨i,aa,rfl,q,s⟩:=hrel;by_cases hlt:i<m
  .obtain ⟨T,U,m1,E,Q,R,n,A,-⟩:=ax.o;have ae:i<l.length:=oM;have be:=T i ae wr s;have bf:=U i ae wr s;have bt:=s.jU m1 bc;rw[qXy]at be bf;have aQ:=n.1 l[i] (qyu ae);have bg:=qR l ae;have bh:Hid (encB (l.take (i+1))=encB (l.take i)++lowB l[i].1 l[i].2):=by show _=_;rw[qXk ae,sS]
   have af:(lowB k 1++encB (l.take i)).length+l[i].2<=60:=by
    rw[qyy,zY,wY];have:=n.2;omega
   have aR:(0:Int)<=(i:Int)/\(i:Int)<(m:Int):=oM;have p:=Y4 q s aQ af;clear T U m1 E Q R n A q s aQ bg af;obtain⟨aR,bu⟩:=aR;generalize l[i]=aS at*;go_wp2_with fail
   refine(AI p.o.1 aS.1 aS.2 p.o.2.2.1.2.1 p.o.2.2.1.2.2 p.o.2.2.1.1 p.o.2.2.2).mono ?_;rintro e bv ⟨rfl,aT,aU⟩;have aV:=Y2 aT aU;clear aT aU;go_wp2
   go_roundw
   case rel=>exact⟨i+1,oM,by go_num,by rw[bh.out,<-qxv];exact aV.o.1,p.o.2.1.trans aV.o.2⟩
   case measure=>simp[intOf];omega
  .obtain rfl:i=m:=oM;obtain⟨T,U,m1,E,Q,R,n,A,-⟩:=ax.o;have aW:=Q.keep s (by have:=(H.o.2.1).lt;have:=HM.o;omega);rw[qXj oM]at q;have aX:=(s.block (j+1+1) (zd E) bd).trans E;have af:Hid ((sectB k l).length=64):=yT n.2;have p:=Y6 q aW s aX R n;have bx:=s.size;clear T U m1 E Q R n A q s aW aX;go_wp2_with fail
   refine(zbV p.o.1 p.o.2.1).mono ?_;rintro e ag ⟨rfl,az⟩;have aA:=(az.block (j+1+1) (zd p.o.2.2.2.1)).trans p.o.2.2.2.1;have aB:ag.there (j+1+1) 0 64:=fun J hj=>by
    rw[za aA,zg aA];exact⟨by rw[qXy,qxe oD];rfl,rfl⟩
   have bi:Hid (Below j w ag):=(zj p.o.2.2.2.2.1 p.o.2.2.1 oK (fun k e=>oM)).trans (az.mono oM);have hsl:=af.out;have aY:ag.there (j+1+1) 0 (bkC (sectB k l)).toArray.size:=by rw[zm _ hsl];exact aB
   have aZ:ag.there (j+1+1) 0 (bkC (sectB k l)).length:=by rw[zn,hsl];exact aB
   have b0:(prog.info? 54).map (·.size)=some (bkC (sectB k l)).toArray.size:=by rw[zm _ hsl];exact zI
   have ao:=Y4 aY b0 aZ hsl;clear aY b0 aZ hsl aA aB az af;rw[show sealB (padB (lowB k 1++encB l))=sectB k l from rfl];generalize b1:sectB k l=sb at*;have bj:=qqh b1;clear b1;go_wp2_with (first
    |(refine qZc rfl _ _ _ rfl _ _ (bkC sb).toArray rfl rfl ao.o.1 ao.o.2.1 (qYo (zu _)) ?_)
    |fail)
   refine qYq (zp rfl _ _ (j+1+1) 0 (bkC sb) _ rfl (qYl _ _ _ _ ao.o.2.2.1) underlying54 rfl (zv _ ao.o.2.2.2)) rfl
     ⟨by rw[bj.out];rfl,?_⟩
   rw[HM.o];exact zj bi.out (zo ag (j+1+1) 0 _) oK (fun k e=>oM)
def intentL(a b c d:Nat):List (Nat×Nat):=[(a,6),(b,6),(c,2),(d,2)]
def qt(a b c d:Nat):Bk:=sectB 4 (intentL a b c d)
theorem Xh{a b c d:Int}:mayI [a,b,c,d]=true↔((0<=a/\a<=1099511627776)/\(0<=b/\b<=1099511627776))/\0<=c/\1<=d/\d<=4096/\c<=4096-d:=by
 simp[mayI,withinB,ZG,inB,spanB];omega
theorem vG{n s:Nat}(h1:n<256^s)(h2:1<=s)(j:s<=7)(p:∀b∈l,b.1<256^b.2/\1<=b.2/\b.2<=7):∀b∈(n,s)::l,b.1<256^b.2/\1<=b.2/\b.2<=7:=by
 intro b h;rcases qzm.1 h with rfl|h
 .exact ⟨h1,h2,j⟩
 .exact p b h
theorem Xi{a b d:Nat}(j:a<=1099511627776)(n:b<=1099511627776)(p:c<=4096)(q:d<=4096):qS (intentL a b c d):=
 ⟨vG (Nat.lt_of_le_of_lt j de) de de (vG (Nat.lt_of_le_of_lt n de) de de (vG (Nat.lt_of_le_of_lt p de) de de
  (vG (Nat.lt_of_le_of_lt q de) de de (fun _ h=>by cases h)))),by show 16<=59;decide⟩
def numsAt(b:Bk):Nat->List Nat->List Nat
 |_,[]=>[]
 |p,s::ss=>numB ((b.drop p).take s)::numsAt b (p+s) ss
theorem zR(b:Bk)(p:Nat)(ss:List Nat):(numsAt b p ss).length=ss.length:=by
 induction ss generalizing p with
 |nil=>rfl
 |cons j ss h=>simp[numsAt,h]
theorem Vc(b:Bk)(p:Nat)(ss:List Nat)(i:Nat)(hi:i<ss.length):(numsAt b p ss)[i]'(by rw[zR];exact hi)=numB ((b.drop (p+(ss.take i).sum)).take ss[i]):=by
 induction ss generalizing p i with
 |nil=>simp at hi
 |cons j ss n=>
  cases i with
  |zero=>simp[numsAt]
  |succ i=>
   simp only[numsAt,qyr,List.take_succ_cons,List.sum_cons];rw[n (p+j) i oB,qXl]
theorem Se(ss:List Nat)(h:i<ss.length):(ss.take (i+1)).sum=(ss.take i).sum+ss[i]/\(ss.take i).sum+ss[i]<=ss.sum:=by
 have b:=congrArg List.sum (qXi (i+1) ss);rw[qXk h]at b⊢;simp only[List.sum_append,List.sum_cons,List.sum_nil]at b⊢;omega
def natsI(l:List Nat):List Int:=l.map fun(n:Nat)=>(n:Int)
theorem sU{l:List Nat}(h:i<l.length):(ints (natsI l))[i]?=some (.int .i64 (l[i]:Int)):=by
 rw[yp (by simpa[natsI]using h)];simp[natsI]
theorem zcr(n:Nat):madeCells #[Value.int .i64 0] (n*1)=(ints (List.replicate n 0)).toArray:=by
 apply Array.ext
 .simp [size_madeCells]
 .intro i h1 h2;have:i%1=0:=Nat.mod_one i;simp[madeCells,ints,this]
theorem ZK:(prog.info? 3).map (fun i=>(i.zero,i.size,i.bytes))=some (some (.int .i64 0),1,8):=kR
theorem Xj(n:Nat)(s:n<=100000)(w:World):(Instr.makeSlice 77 (.int .i64 n) (.int .i64 n)).run prog w=.ok (.slice (some ⟨w.heap.size,0,none⟩) n n) (w.alloc (.cells (ints (List.replicate n 0)).toArray 3)):=by
 obtain⟨b,j,p,q,hz2⟩:=qYu ZK;have:=run_make (P:=prog) w 77 3 b (.int .i64 0) underlying77 j p .i64 .i64 n n oM oM jm oM;rw[this];simp only[qxs,q,Value.cells];rw[zcr]
def fillI(l:List Nat)(i:Nat):List Int:=natsI (l.take i)++List.replicate (l.length-i) 0
theorem TW(l:List Nat)(b:i<=l.length):(fillI l i).length=l.length:=by simp[fillI,natsI];omega
theorem TX(l:List Nat)(b:i<l.length):(fillI l i).set i (l[i]:Int)=fillI l (i+1):=by
 unfold fillI;have h1:(natsI (l.take i)).length=i:=by simp[natsI];omega
 rw[qXe _ _ oM,h1,Nat.sub_self,show l.length-i=(l.length-(i+1))+1 by omega,List.replicate_succ,qXg,qXk b];simp only[natsI,qzg,qzh,qzj,qxv,qxy,qzu]
theorem TY(l:List Nat):fillI l l.length=natsI l:=by simp[fillI]
theorem Xk(l:List Int)(i:Nat)(x:Int):(ints l).set i (.int .i64 x)=ints (l.set i x):=by simp[ints,List.map_set]
def okGet(b:Bk)(k:Nat)(ss:List Nat)(mb:Bool):Bool:=decide (sealB b=b)&&(decide (numB (b.take 1)=k)&&(endB b (1+ss.sum)&&mb))
def xp(b:Bk)(k:Nat)(ss:List Nat)(mb:Bool):Int:=if okGet b k ss mb=true then 0 else if sealB b=b then 12 else 13
def vH(w:World)(ok:Bool)(ds zs:List Value)(cd:Int)(e:Ending)(w':World):Prop:=
 (∃rs:List Value,(ok=true->rs=ds)/\(ok=false->rs=zs)/\e=.returned (.tuple #[.agg rs.toArray,.int .i64 cd]))/\Below w.heap.size w w'
theorem Vd{b:Bk}{ss:List Nat}{mb:Bool}(h:sealB b≠b):okGet b k ss mb=false/\xp b k ss mb=13:=by
 have:okGet b k ss mb=false:=by simp[okGet,h]
 exact⟨this,by simp[xp,this,h]⟩
theorem qT{b:Bk}{ss:List Nat}{mb:Bool}(h:sealB b=b)(j:okGet b k ss mb=false):xp b k ss mb=12:=by simp[xp,j,h]
def zS(W:World)(m:Nat)(xs:List Int)(e:Ending)(W':World):Prop:=∃g c,e=.returned (.slice (some ⟨g,0,none⟩) m c)/\m<=c/\c<=maxLen/\W'.rangeAt g 0 (ints xs)/\Below W.heap.size W W'
def numL(sz:List Nat)(xs:List Int):List (Nat×Nat):=(xs.map Int.toNat).zip sz
theorem qU(h:xs.length=sz.length):(numL sz xs).length=sz.length:=by simp[numL,h]
theorem Xl(h:xs.length=sz.length):wy (numL sz xs)=natsI sz:=by
 unfold wy natsI numL;rw[show(fun(p:Nat×Nat)=>(p.2:Int))=(fun(n:Nat)=>(n:Int))∘Prod.snd from rfl,<-qzi,List.map_snd_zip (by simp[h])]
theorem wC(h:xs.length=sz.length):sizes (numL sz xs)=sz.sum:=by
 unfold sizes numL;rw[List.map_snd_zip (by simp[h])]
theorem tB(b:xs.length=sz.length)(h:∀x∈xs,0<=x):numsL (numL sz xs)=xs:=by
 unfold numsL numL;rw[show(fun(j:Nat×Nat)=>(j.1:Int))=(fun(n:Nat)=>(n:Int))∘Prod.fst from rfl,<-qzi,List.map_fst_zip (by simp[b]),qzi]
 conv=>rhs;rw[<-List.map_id xs]
 exact List.map_congr_left (fun x hx=>by simp[Int.toNat_of_nonneg (h x hx)])
theorem tC(h:xs.length=sz.length)(p:sz.sum<=59)(q:∀j∈sz,1<=j/\j<=7)(s:∀i (h1:i<xs.length) (h2:i<sz.length),0<=xs[i]/\xs[i]<256^sz[i]):qS (numL sz xs):=by
 refine⟨fun A v=>?_,by rw[wC h];exact p⟩;obtain⟨i,b,rfl⟩:=qyv v;rw[qU h]at b;have h1:i<xs.length:=oM;have:=s i h1 b;simp only[numL,List.getElem_zip,qyt];have n:=q sz[i] (qyu b);refine⟨?_,n.1,n.2⟩;have D:((256^sz[i]:Nat):Int)=(256:Int)^sz[i]:=oe;omega
structure Ent where
 b:Nat
 s:Nat
 d:Bool
 m:Nat
def Ent.none:Ent:=⟨0,0,false,0⟩
def bitN(d:Bool):Nat:=if d then 1 else 0
def entC(x:Ent):List Value:=[.int .i64 (x.b:Int),.int .i64 (x.s:Int),.bool x.d,.int .i64 (x.m:Int)]
def entN(x:Ent):List Nat:=[x.b,x.s,bitN x.d,x.m]
def pgC(seq no of many:Nat)(E:List Ent):List Value:=[.int .i64 (seq:Int),.int .i64 (no:Int),.int .i64 (of:Int),.int .i64 (many:Int)]++E.flatMap entC
def pgN(seq no of many:Nat)(E:List Ent):List Nat:=[seq,no,of,many]++E.flatMap entN
theorem qV(x:Ent):(entC x).length=4:=rfl
theorem Xm(x:Ent):∀b∈entC x,b.oneCell'=true:=by
 intro b h;simp only[entC,qzm,qzy,qYv]at h;rcases h with rfl|rfl|rfl|rfl<;>rfl
theorem xU(E:List Ent):(E.flatMap entC).length=E.length*4:=xJ (f:=entC) (fun _=>rfl) E
theorem UF{E:List Ent}(hi:i<E.length):((E.flatMap entC).drop (i*4)).take 4=entC (E.getD i Ent.none):=by
 induction E generalizing i with
 |nil=>simp at hi
 |cons x E b=>
  cases i with
  |zero=>rfl
  |succ i=>
   rw[qye,show(i+1)*4=(entC x).length+i*4 by rw[qV];omega,List.drop_length_add_append];simpa using b (i:=i) oB
theorem UG(d:Bool)(w:World):Calls prog 299 #[.bool d] w fun e b=>e=.returned (.int .i64 (bitN d:Int))/\w=b:=by
 cases d
 all_goals
  go_enter func299,ntmps299
  go_wp2
  go_ret
  exact⟨rfl,rfl⟩
theorem wZ:(prog.info? 263).map (·.size)=some 20:=kR
theorem zcs:(prog.info? 261).map (·.size)=some 16:=kR
theorem ZL:(prog.info? 132).map (·.size)=some 4:=kR
theorem qW{E:List Ent}(s:E.length=4)(b:k<4)(w:World):
  (Instr.index 261 (.agg (E.flatMap entC).toArray) (.int .i64 (k:Int))).run prog w=.ok (.agg (entC (E.getD k Ent.none)).toArray) w:=by
 have j:=underlying132;obtain⟨i,n,p⟩:=qYc.1 ZL;have v:(Array.extract (E.flatMap entC).toArray (k*4) (k*4+4))=(entC (E.getD k Ent.none)).toArray:=by
  apply Array.toList_inj.1;rw[Array.toList_extract];simp only[List.extract];rw[show k*4+4-k*4=4 by omega];exact UF oM
 have q:=UF (E:=E) (i:=k) oM;simp[Instr.index,asIntOf,run_underlying underlying261,sizeOf,typeInfo,n,p,part,isAgg,run_underlying j,b,q]
theorem UH:(prog.info? 3).map (fun i=>(i.zero,i.size,i.bytes))=some (some (.int .i64 0),1,8):=kR
theorem zbZ(seq no of q:Nat)(E:List Ent)(J:E.length=4):
  Calls prog 298 #[.agg (pgC seq no of q E).toArray] w (zS w 20 (natsI (pgN seq no of q E))):=by
 obtain⟨ap,aq,ar,au,av⟩:=qYu UH;obtain⟨v,hL⟩:=qqe ((pgC seq no of q E).toArray);have s:=zc w (.cells v 263) rfl;have O:(w.alloc (.cells v 263)).cell? ⟨w.heap.size,0,none⟩=some (.int .i64 (seq:Int)):=(za s 0).trans oS;have Q:(w.alloc (.cells v 263)).cell? ⟨w.heap.size,1,none⟩=some (.int .i64 (no:Int)):=(za s 1).trans oS;have R:(w.alloc (.cells v 263)).cell? ⟨w.heap.size,2,none⟩=some (.int .i64 (of:Int)):=(za s 2).trans oS;have T:(w.alloc (.cells v 263)).cell? ⟨w.heap.size,3,none⟩=some (.int .i64 (q:Int)):=(za s 3).trans oS;have a7:(w.alloc (.cells v 263)).rangeAt w.heap.size 4 (E.flatMap entC):=fun D a8 U=>by
  rw[za s,hL,qyq,pgC,qyh oe];rw[<-U];congr 1;simp
 have aa:(prog.info? 261).map (·.size)=some (E.flatMap entC).length:=by rw[xU,J];exact zcs
 have ab:=fun(k:Nat) (ad:k<4) (w:World)=>qW J ad w;have V:=Y2 ab J;rw[<-hL];have ae:=qYj a7 (.cells #[.int .i64 (seq:Int),.int .i64 (no:Int),.int .i64 (of:Int),.int .i64 (q:Int)] 3);have aI:=qqh hL;clear hL ab J s a7;go_enter func298,ntmps298
 go_wp2_with (first
  |refine qZa rfl _ _ rfl _ _ rfl _ _ ae underlying261 rfl aa ?_
  |fail)
 have aw:(w.alloc (.cells v 263)).alloc (.cells #[.int .i64 (seq:Int),.int .i64 (no:Int),.int .i64 (of:Int),.int .i64 (q:Int)] 3)=(w.alloc (.cells v 263)).alloc (.cells #[.int .i64 (seq:Int),.int .i64 (no:Int),.int .i64 (of:Int),.int .i64 (q:Int)] 3):=rfl;have A:((w.alloc (.cells v 263)).alloc (.cells #[.int .i64 (seq:Int),.int .i64 (no:Int),.int .i64 (of:Int),.int .i64 (q:Int)] 3)).ownsRow w.heap.size 3 1 (.slice (some ⟨w.heap.size+1,0,none⟩) 4 4) 4 (ints (natsI ([seq,no,of,q]++(E.take 0).flatMap entN))):=by
  refine⟨by simp[natsI],.inr ⟨w.heap.size+1,4,_,rfl,oM,zc _ _ oe,oM,by unfold maxLen;omega,oe,by simp[natsI,ints]⟩⟩
 have af:Below w.heap.size w ((w.alloc (.cells v 263)).alloc (.cells #[.int .i64 (seq:Int),.int .i64 (no:Int),.int .i64 (of:Int),.int .i64 (q:Int)] 3)):=((qxl _ w).alloc (qXp _) _).alloc oe _;generalize (w.alloc (.cells v 263)).alloc (.cells #[.int .i64 (seq:Int),.int .i64 (no:Int),.int .i64 (of:Int),.int .i64 (q:Int)] 3)=aJ at*;have ag:=Y2 A af;clear A af ae aa O Q R T aw;go_loopw[3,17] (fun ax W wr=>∃k:Nat,k<=4/\W=.int .i64 k/\wr.ownsRow w.heap.size 3 1 ax (4+4*k) (ints (natsI ([seq,no,of,q]++(E.take k).flatMap entN)))/\Below w.heap.size w wr) (fun _ W _=>4-(intOf W).toNat)
 case atStart=>exact⟨0,oM,rfl,ag.o.1,ag.o.2⟩
 case round=>
  obtain⟨k,ad,rfl,A,F⟩:=hrel;by_cases hlt:k<4
  .have ah:=V.o.1 k hlt;have ay:Hid ((E.take (k+1)).flatMap entN=(E.take k).flatMap entN++entN (E.getD k Ent.none)):=by
    show _=_;have ai:k<E.length:=by have:=V.o.2;omega
    rw[qXk ai,qyd];simp[List.getD_eq_getElem?_getD,ai]
   generalize E.getD k Ent.none=x at*;obtain⟨b,xs,j,n⟩:=x;have az:Hid ((entC ⟨b,xs,j,n⟩).toArray= #[Value.int .i64 (b:Int),.int .i64 (xs:Int),.bool j,.int .i64 (n:Int)]):=rfl;rw[az.out]at ah;have aK:(0:Int)<=(k:Int):=oM;have aL:(k:Int)<4:=oM;have K:=Y2 A F;have G:=zc wr (.cells #[Value.int .i64 (b:Int),.int .i64 (xs:Int),.bool j,.int .i64 (n:Int)] 132) rfl;have aj:=K.out.1.alloc (.cells #[Value.int .i64 (b:Int),.int .i64 (xs:Int),.bool j,.int .i64 (n:Int)] 132);have X:=K.out.2.alloc K.out.2.size (.cells #[Value.int .i64 (b:Int),.int .i64 (xs:Int),.bool j,.int .i64 (n:Int)] 132);have L:¬u3.ownBlock=some wr.heap.size:=fun e=>by have:=(K.out.1.lt _ e).2;omega
   clear A F;go_wp2
   generalize wr.alloc (.cells #[Value.int .i64 (b:Int),.int .i64 (xs:Int),.bool j,.int .i64 (n:Int)] 132)=p at*;generalize wr.heap.size=m at*;have O:p.cell? ⟨m,0,none⟩=some (.int .i64 (b:Int)):=za G 0;have Q:p.cell? ⟨m,1,none⟩=some (.int .i64 (xs:Int)):=za G 1;have R:p.cell? ⟨m,2,none⟩=some (.bool j):=za G 2;have T:p.cell? ⟨m,3,none⟩=some (.int .i64 (n:Int)):=za G 3;have Y:=(aj.alloc (.cells #[Value.int .i64 (b:Int),.int .i64 (xs:Int),.int .i64 (bitN j:Int),.int .i64 (n:Int)] 3)).drew;have Z:Below w.heap.size w (p.alloc (.cells #[Value.int .i64 (b:Int),.int .i64 (xs:Int),.int .i64 (bitN j:Int),.int .i64 (n:Int)] 3)).drew:=zN (X.alloc X.size _) 1;have ak:(p.alloc (.cells #[Value.int .i64 (b:Int),.int .i64 (xs:Int),.int .i64 (bitN j:Int),.int .i64 (n:Int)] 3)).drew.heap[p.heap.size]?=_:=zc p (.cells #[Value.int .i64 (b:Int),.int .i64 (xs:Int),.int .i64 (bitN j:Int),.int .i64 (n:Int)] 3) rfl;obtain⟨aM,w1,aA,am,a6,-⟩:=run_append_own (P:=prog) (w:=(p.alloc (.cells #[Value.int .i64 (b:Int),.int .i64 (xs:Int),.int .i64 (bitN j:Int),.int .i64 (n:Int)] 3)).drew) w.heap.size 77 77 3 ap (.int .i64 0) 1 8 underlying77 aq ar au av rfl de u3 (4+4*k) _ Y ⟨p.heap.size,0,none⟩ 4 4 [.int .i64 (b:Int),.int .i64 (xs:Int),.int .i64 (bitN j:Int),.int .i64 (n:Int)] rfl
    (fun D u aB=>by rw[qxa,za ak];simpa using aB) oX oh oM Z.size
   have an:Below w.heap.size w w1:=zj Z (Upd.kj (S:=fun D=>w.heap.size<=D) a6 (fun g s _=>(Y.lt g s).1)) (qXp _) (fun k h=>h);have H:Upd (fun D=>u3.ownBlock=some D) _ w1:=Upd.kj (S:=fun D=>u3.ownBlock=some D) a6 (fun g s _=>s);have aN:=H.jU (w:=(p.alloc (.cells #[Value.int .i64 (b:Int),.int .i64 (xs:Int),.int .i64 (bitN j:Int),.int .i64 (n:Int)] 3)).drew) (zl O _) L;have q1:=H.jU (w:=(p.alloc (.cells #[Value.int .i64 (b:Int),.int .i64 (xs:Int),.int .i64 (bitN j:Int),.int .i64 (n:Int)] 3)).drew) (zl Q _) L;have q2:=H.jU (w:=(p.alloc (.cells #[Value.int .i64 (b:Int),.int .i64 (xs:Int),.int .i64 (bitN j:Int),.int .i64 (n:Int)] 3)).drew) (zl R _) L;have aO:=H.jU (w:=(p.alloc (.cells #[Value.int .i64 (b:Int),.int .i64 (xs:Int),.int .i64 (bitN j:Int),.int .i64 (n:Int)] 3)).drew) (zl T _) L;have ao:=Y2 am an;clear Y Z ak am a6 an aj X G ah H
   go_region_held3 (fun M=>M.cell? ⟨m,0,none⟩=some (.int .i64 (b:Int))/\M.cell? ⟨m,1,none⟩=some (.int .i64 (xs:Int))/\M.cell? ⟨m,2,none⟩=some (.bool j)/\M.cell? ⟨m,3,none⟩=some (.int .i64 (n:Int)))
    ((go_split_ands;(simp only[qYi]at*);((repeat' constructor)<;>first|assumption|(apply zl;assumption)|exact trivial)))
    (first|(go_at_call 299;refine(UG _ _).mono ?_;rintro e aP ⟨rfl,rfl⟩)|(refine zQ rfl _ _ _ rfl rfl rfl aA ?_))
   go_wp2
   go_roundw
   case rel=>
    refine⟨k+1,oM,by go_num,?_,ao.o.2⟩;have:=ao.o.1;rw[ay.out,show 4+4*(k+1)=4+4*k+4 by omega];simpa[ints,natsI,entN]using this
   case measure=>simp[intOf];omega
  .obtain rfl:k=4:=oM;have aC:=Y2 A F;clear A F;go_wp2
   go_ret
   obtain⟨A,F⟩:=aC.o;rw[qXj (by have:=V.o.2;omega)]at A;obtain⟨aQ,⟨_,aR⟩|⟨g,aD,aE,rfl,-,s,aF,aG,aS,aH⟩⟩:=A
   .omega
   .refine ⟨g,aD,rfl,aF,aG,fun D a8 U=>?_,F⟩;rw[za s,<-Array.getElem?_toList];have N:(aE.toList.take ((4+4*4)*1))[D]?=some a8:=by rw[aH];exact U
    rw[qyp]at N;split at N
    .simpa using N
    .cases N
def rowI(xs:List Int)(i:Nat):List Int:=(xs.drop (4+4*i)).take 4
theorem xV(b:xs.length=20)(h:i<4):(rowI xs i).length=4:=by simp[rowI];omega
def bndE:List (Int×Int):=[(0,4095),(0,1023),(0,1),(0,4294967295)]
def entB(xs:List Int)(i:Nat):Bool:=if(i:Int)<xs.getD 3 0 then withinB bndE (rowI xs i)else decide (rowI xs i=[0,0,0,0])
def entsB(xs:List Int):Bool:=(List.range 4).all (entB xs)
def bndP:List (Int×Int):=[(0,1099511627776),(0,255),(1,256),(0,4)]
def mayP(xs:List Int):Bool:=withinB bndP xs&&decide (xs.getD 1 0<xs.getD 2 0)&&entsB xs
theorem Ve:(prog.info? 413).map (·.size)=some 4:=kR
theorem Xn(xs:List Int):∀b∈ints xs,b.oneCell'=true:=by
 intro b h;simp only[ints,qzq]at h;obtain⟨x,-,rfl⟩:=h;rfl
theorem UI{g o:Nat}(n:w.rangeAt g o (ints xs))(hx:xs.length=20)(K:20<=c)(D:c<=maxLen)(i:Nat)(p:i<4):
  Calls prog 303 #[.slice (some ⟨g,o,none⟩) 20 c,.int .i64 (i:Int)] w fun e E=>e=.returned (.agg (ints (rowI xs i)).toArray)/\Below w.heap.size w E:=by
 have q:w.rangeAt g (o+(4+4*i)) (ints (rowI xs i)):=fun L F s=>by
  have v:=(qyl.1 s).1;rw[ints,qzb,xV hx p]at v;rw[qXl];refine n _ F ?_;rw[<-s,ints,ints,qym,qym,rowI,qyp,if_pos v,qyi]
 have j:(ints (rowI xs i)).length=4:=by rw[ints,qzb,xV hx p]
 have A:(prog.info? 413).map (·.size)=some (ints (rowI xs i)).length:=by rw[j];exact Ve
 have h1:=Xn (rowI xs i);have M:=fun(w:World) (a:Option Addr) (G:Nat)=>run_arrayAt (P:=prog) w 413 3 4 a (8+4*i-(4+4*i)) G underlying413 oM;unfold maxLen at D;have N:(i:Int)<4:=oM;have O:(0:Int)<=(i:Int):=oM;have Q:(4:Int)+4*(i:Int)<=8+4*(i:Int):=oM;have R:(8:Int)+4*(i:Int)<=(c:Int):=oM;have S:((4:Int)+4*(i:Int)).toNat=4+4*i:=oM;have T:((8:Int)+4*(i:Int)).toNat=8+4*i:=oM;have U:¬c=4+4*i:=oM;have H:=qYj q (.cells #[.int .i64 0,.int .i64 0,.int .i64 0,.int .i64 0] 413);generalize ints (rowI xs i)=J at*;have b:=Y3 j A h1;clear n hx j h1 q A;go_enter func303,ntmps303
 go_wp2_with (first
  |refine qZa rfl _ _ rfl _ _ rfl _ _ H underlying413 rfl b.o.2.1 ?_
  |(refine zk rfl _ _ _ rfl _ _ _ rfl rfl (by rw[b.o.1];rfl) b.o.2.1 b.o.2.2 ?_)
  |fail)
 exact qYq (zq rfl _ _ w.heap.size 0 J _ rfl (zf (zc w _ rfl)) underlying413 rfl b.o.2.1) rfl ⟨rfl,(qxl _ w).alloc (qXp _) _⟩
theorem Sf{g o:Nat}(Q:w.rangeAt g o (ints xs))(hx:xs.length=20)(X:20<=c)(Y:c<=maxLen):
  Calls prog 301 #[.slice (some ⟨g,o,none⟩) 20 c] w fun e am=>e=.returned (.bool (entsB xs))/\Below w.heap.size w am:=by
 have ay:g<w.heap.size:=qYh w _ (yq Q (i:=0) oM);have F:=Y4 Q hx X Y;clear Q hx X Y;go_enter func301,ntmps301
 go_wp2
 go_step3
 go_wp2_with fail
 refine(vD).mono ?_;rintro e w1 ⟨rfl,rfl⟩;have Z:(w.alloc (.cells (bndC bndE).toArray 176)).rangeAt w.heap.size 0 (bndC bndE):=zf (zc w _ rfl);have a6:(w.alloc (.cells (bndC bndE).toArray 176)).heap.size=w.heap.size+1:=oe;have a7:Bnd ((w.alloc (.cells #[.int .i64 0,.int .i64 4095,.int .i64 0,.int .i64 1023,.int .i64 0,.int .i64 1,.int .i64 0,.int .i64 4294967295] 176)).alloc (.cells #[.slice (some ⟨w.heap.size,0,none⟩) 4 4] 260)) (.func (.func 167) #[] #[.pointer (some ⟨w.heap.size+1,0,none⟩)]) bndE:=by
  have:=Bnd.made (c:=4) Z;rw[a6]at this;exact this
 have a8:Below w.heap.size w ((w.alloc (.cells #[.int .i64 0,.int .i64 4095,.int .i64 0,.int .i64 1023,.int .i64 0,.int .i64 1,.int .i64 0,.int .i64 4294967295] 176)).alloc (.cells #[.slice (some ⟨w.heap.size,0,none⟩) 4 4] 260)):=((qxl _ w).alloc (qXp _) _).alloc oe _;clear Z a6;go_wp2
 go_step3
 go_wp2
 generalize (w.alloc (.cells #[.int .i64 0,.int .i64 4095,.int .i64 0,.int .i64 1023,.int .i64 0,.int .i64 1,.int .i64 0,.int .i64 4294967295] 176)).alloc (.cells #[.slice (some ⟨w.heap.size,0,none⟩) 4 4] 260)=az at*;have aa:=Y2 a7 a8;clear a7 a8;go_loopw[4,13] (fun an R wr=>∃k:Nat,k<=4/\R=.int .i64 k/\an=.bool true/\(List.range k).all (entB xs)=true/\Below w.heap.size w wr/\Bnd wr (.func (.func 167) #[] #[.pointer (some ⟨w.heap.size+1,0,none⟩)]) bndE) (fun _ R _=>4-(intOf R).toNat)
 case atStart=>exact⟨0,oM,rfl,rfl,oe,aa.o.2,aa.o.1⟩
 case round=>
  obtain⟨k,aA,rfl,rfl,N,n,S⟩:=hrel;have D:=Y3 N n S;by_cases hlt:k<4
  .have ab:Hid (∀T,entB xs k=T->(List.range (k+1)).all (entB xs)=T):=fun T n=>by
    rw[qXc,List.all_append,D.o.1];simp[n]
   have ad:Hid (entB xs k=false->entsB xs=false):=fun n=>by
    unfold entsB;rw[<-Bool.not_eq_true];intro e;rw[qxu]at e;have:=e k og;rw[n]at this;cases this
   have U:=F.o.2.1;obtain⟨E,V⟩:∃E,xs.getD 3 0=E:=⟨_,rfl⟩
   have ae:wr.cell? ⟨g,o+3,none⟩=some (.int .i64 E):=by
    have:=yq (Below.range n F.o.1) (i:=3) oM;rw[this,<-V];simp[List.getD_eq_getElem?_getD,show 3<xs.length by omega]
   have aB:(0:Int)<=(k:Int):=oM;have aC:(k:Int)<4:=oM;have ao:=F.o.2.2.1;have ap:=F.o.2.2.2;unfold maxLen at ap;have H:Hid ((rowI xs k).length=4):=xV U hlt;have af:(prog.info? 413).map (·.size)=some (ints (rowI xs k)).length:=by rw[ints,qzb,H.out];exact Ve
   have h1:=Xn (rowI xs k);have ag:=qqh (UI (Below.range n F.o.1) U ao F.o.2.2.2 k hlt);have J:=Y2 af h1;have O:Hid (entB xs k=if(k:Int)<E then withinB bndE (rowI xs k)else decide (rowI xs k=[0,0,0,0])):=by show _=_;rw[entB,V]
   clear V N n S U af h1;by_cases G:(k:Int)<E
   .have aq:decide ((k:Int)<E)=true:=by simpa using G
    have hent2:Hid (entB xs k=withinB bndE (rowI xs k)):=by show _=_;rw[O.out,if_pos G]
    clear O G;obtain⟨v,p⟩:∃v,withinB bndE (rowI xs k)=v:=⟨_,rfl⟩
    have HBB:=qqh p;cases v
    all_goals
     clear p;go_wp2_with fail
     refine ag.out.mono ?_;rintro e j ⟨rfl,K⟩;have L:(j.alloc (.cells (ints (rowI xs k)).toArray 413)).rangeAt j.heap.size 0 (ints (rowI xs k)):=zf (zc j _ rfl);have q:Upd (fun _=>False) wr (j.alloc (.cells (ints (rowI xs k)).toArray 413)):=(uuo K).alloc _;have M:=D.o.2.2.below (Upd.below q);have ar:=q.jU ae id;have A:Below w.heap.size w (j.alloc (.cells (ints (rowI xs k)).toArray 413)):=D.o.2.1.trans ((Upd.below q).mono D.o.2.1.size);have s:=Y3 L M A;clear L q M A K;go_wp2_with (first
      |(refine zk rfl _ _ _ rfl _ _ _ rfl rfl (by rw[ints,qzb,H.out];rfl) J.o.1 J.o.2 ?_)
      |fail)
     obtain⟨aD,aE,aF,b,ah,ai⟩:=s.o.2.1;injection b with _ _ b
     injection b with b
     injection b with b
     injection b with b
     injection b with b
     injection b with b
     subst b;refine(yt bndE (rowI xs k) ah ai s.o.1 H.out (by show 4<=4;decide) de).mono ?_;rw[HBB.o];rintro e au ⟨rfl,p⟩;have A:Below w.heap.size w au:=s.o.2.2.trans (p.mono s.o.2.2.size);have aj:=s.o.2.1.below p;have W:=Y2 A aj;clear A aj p ah ai;go_wp2
    .rw [qxq];go_ret
     exact⟨by rw[ad.out jA];rfl,W.o.1⟩
    .go_roundw
     case rel=>exact⟨k+1,oM,by go_num,rfl,ab.out true jA,W.o.1,W.o.2⟩
     case measure=>simp[intOf];omega
   .have aq:decide ((k:Int)<E)=false:=by simpa using G
    have hent2:Hid (entB xs k=(rowI xs k==[0,0,0,0])):=by show _=_;rw[O.out,if_neg G];exact(Bool.beq_eq_decide_eq _ _).symm
    clear O G;obtain⟨v,p⟩:∃v,(rowI xs k==[0,0,0,0])=v:=⟨_,rfl⟩
    have HBB:=qqh p;have aG:∀w,(binOp .eql 413 (.agg (ints (rowI xs k)).toArray) (.agg #[.int .i64 0,.int .i64 0,.int .i64 0,.int .i64 0])).run prog w=.ok (.bool v) w:=fun w=>by
     obtain⟨i,av,ak⟩:=qYc.1 UH;simp only[qYe]at ak;rw[<-p];exact ZF w 413 3 4 underlying413 underlying3 (fun w=>by simp[sizeOf,typeInfo,av,ak.2.1]) (rowI xs k) [0,0,0,0] H.out rfl
    cases v
    all_goals
     clear p;go_wp2_with fail
     refine ag.out.mono ?_;rintro e j ⟨rfl,K⟩;have L:(j.alloc (.cells (ints (rowI xs k)).toArray 413)).rangeAt j.heap.size 0 (ints (rowI xs k)):=zf (zc j _ rfl);have q:Upd (fun _=>False) wr (j.alloc (.cells (ints (rowI xs k)).toArray 413)):=(uuo K).alloc _;have M:=D.o.2.2.below (Upd.below q);have ar:=q.jU ae id;have A:Below w.heap.size w (j.alloc (.cells (ints (rowI xs k)).toArray 413)):=D.o.2.1.trans ((Upd.below q).mono D.o.2.1.size);have s:=Y3 L M A;clear q M A K;go_wp2_with (first
      |(refine zk rfl _ _ _ rfl _ _ _ rfl rfl (by rw[ints,qzb,H.out];rfl) J.o.1 J.o.2 ?_)
      |(refine qZa rfl _ _ rfl _ _ rfl _ _ L underlying413 rfl J.o.1 ?_)
      |fail)
    .rw [qxq];go_ret
     exact⟨by rw[ad.out jA];rfl,s.o.2.2⟩
    .go_roundw
     case rel=>exact⟨k+1,oM,by go_num,rfl,ab.out true jA,s.o.2.2,s.o.2.1⟩
     case measure=>simp[intOf];omega
  .obtain rfl:k=4:=oM;have aw:Hid (entsB xs=true):=N;have ax:=qqh n;clear N n S;go_wp2
   rw[qxq];go_ret
   exact⟨by rw[aw.out];rfl,ax.o⟩
end Go.Proofs.YtbnpkobbnjihjaaGreatDoor
