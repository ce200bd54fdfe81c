/- The intent tha -/
import Derived.Test.YtbnpkobbnjihjaaGreatDoorG05
import Derived.Test.YtbnpkobbnjihjaaGreatDoorG07
import Derived.Maps.Range
import Derived.Test.YtbnpkobbnjihjaaGreatDoorG06
import Derived.Maps.OwnIn
import Derived.Deep.RegionHeld
set_option maxRecDepth 100000
set_option maxHeartbeats 2000000
namespace Go.Proofs.YtbnpkobbnjihjaaGreatDoor
open Go Tryz
variable{w:World}{b N k mb blocks:Nat}{A:Int->Bool}{S:Nat->Prop}{v:Value}{M:List (Nat×(Int->Bool))}{G:List (Int->Bool)}{ps:List (Int×Bool)}{row:Option Nat}{l:List Int}
section
open Go.RowKit
theorem xE{x:Bk}(hx:x.length=64){p s:Nat}(h:p+s<=60):((sealB x).drop p).take s=(x.drop p).take s:=by
 apply List.ext_getElem?
 intro i;by_cases j:i<s
 .rw [List.getElem?_take_of_lt j,List.getElem?_take_of_lt j,qyi,qyi];unfold sealB;rw[qyg og,List.getElem?_take_of_lt oM]
 .rw [List.getElem?_take_eq_none oM,List.getElem?_take_eq_none oM]
theorem vV{pre mid post:List UInt8}:((padB (pre++mid++post)).drop pre.length).take mid.length=mid:=by
 unfold padB;rw[qxv,qxv,List.drop_left' rfl,List.take_left' rfl]
theorem Xr(l:List (Nat×Nat)):∀(pre:List UInt8),pre.length+sizes l<=60->(∀p∈l,p.1<256^p.2)->numsAt (sealB (padB (pre++encB l))) pre.length (l.map (·.2))=l.map (·.1):=by
 induction l with
 |nil=>intro pre _ _;rfl
 |cons p l s=>
  intro pre F j;have H:sizes (p::l)=p.2+sizes l:=by simp[sizes]
  have q:encB (p::l)=lowB p.1 p.2++encB l:=by simp[encB]
  simp only[qzh,numsAt,List.cons.injEq];constructor
  .rw [xE (wX (by rw[qyy,wY];omega)) oM,q,<-qxv];have:=vV (pre:=pre) (mid:=lowB p.1 p.2) (post:=encB l);rw[zY]at this;rw[this];exact YT _ _ (j p oe)
  .have:=s (pre++lowB p.1 p.2) (by rw[qyy,zY];omega) (fun D E=>j D (by simp[E]));rw[qyy,zY,qxv]at this;rw[q];exact this
theorem zad(J:k<256){l:List (Nat×Nat)}(j:qS l)(mb:Bool):okGet (sectB k l) k (l.map (·.2)) mb=mb/\numsAt (sectB k l) 1 (l.map (·.2))=l.map (·.1):=by
 have D:=uF (k:=k) j.2;have E:(l.map (·.2)).sum=sizes l:=rfl;have F:(lowB k 1++encB l).length=1+sizes l:=by rw[qyy,zY,wY]
 have h1:sealB (sectB k l)=sectB k l:=WR D;have h2:numB ((sectB k l).take 1)=k:=by
  have:=xE D (p:=0) (s:=1) oM;rw[qya,qya]at this;have q:=vV (pre:=[]) (mid:=lowB k 1) (post:=encB l);rw[zY,qzu,qzc,qya]at q;unfold sectB;rw[this,q];exact YT _ _ oM
 have q:endB (sectB k l) (1+sizes l)=true:=by
  unfold endB sectB;rw[xE D (by have:=j.2;omega)];unfold padB;rw[<-F,List.drop_left' rfl,qxu];intro x hx;have:=List.mem_of_mem_take hx;rw[List.mem_replicate]at this;simpa using this.2
 refine⟨?_,?_⟩
 .unfold okGet;rw[E,h1,h2,q];simp
 .have:=Xr l (lowB k 1) (by rw[zY];have:=j.2;omega) (fun p H=>(j.1 p H).1);rw[zY]at this;exact this
open Go Go.RowKit Go.Maps Go.WideElems Tryz
theorem Xs:∀(n:Nat) (l:List Int),l.Nodup->(∀x∈l,-1<=x/\x<(n:Int))->l.length<=n+1:=by
 intro n
 induction n with
 |zero=>
  intro l j q
  match l,j,q with
  |[],_,_=>simp
  |[_],_,_=>simp
  |a::b::l,j,q=>
   have h1:=q a oe;have h2:=q b oe;have:a=b:=oM;simp[this]at j
 |succ n s=>
  intro l j q;have h1:=s (l.erase (n:Int)) (j.erase _) (fun x hx=>by
   have h2:=q x (qzr hx);have D:x≠(n:Int):=fun e=>by subst e;exact(List.Nodup.not_mem_erase j) hx
   omega)
  have E:l.length<=(l.erase (n:Int)).length+1:=by
   rw[List.length_erase];split<;>omega
  omega
theorem Vl{R:Value->Option (DataW Unit×List MemPlace)}{D:DataW Unit}(q:w.ownsMap prog 3 R mb N D)(n:Nat)(L:∀j:Int,Maps.has D (.int .i64 j)=true->-1<=j/\j<(n:Int)):
  w.ownsMap prog 3 R mb (n+1) D:=by
 obtain⟨h,H,O,s,J,rfl⟩:=q;refine⟨h,H,O,s,?_,rfl⟩;have K:∀x∈h.toList,∃c:Int,x.key=.int .i64 c/\Maps.has (DataW.map ((h.toList.map (rg prog 3 R)).foldr DataW.insert [])) (.int .i64 c)=true:=by
  intro x hx;obtain⟨y,hy⟩:=s.reads x hx;obtain⟨c,h1,h2⟩:=Maps.keyOf_int_inv underlying3 (rd_key hy);refine⟨c,h1,?_⟩;have E:(rg prog 3 R x).1=.int .i64 c:=by rw[rg_of hy];exact h2.1
  exact List.any_eq_true.2 ⟨rg prog 3 R x,mem_sorted.2 (qzq.2 ⟨x,hx,rfl⟩),by rw[E];exact WideAt.sameKey_self trivial⟩
 let g:MapEntry->Int:=fun x=>match x.key with| .int _ c=>c|_=>0
 have F:∀x∈h.toList,x.key=.int .i64 (g x):=by
  intro x hx;obtain⟨c,h1,-⟩:=K x hx;simp only[g,h1]
 have T:(h.toList.map g).Nodup:=by
  rw[List.Nodup,qXa];have:=((MapKept.stamped_iff h H).1 s.stamped).2.2;refine List.Pairwise.imp_of_mem (fun{a b} U V W e=>W ?_) this;rw[F a U,F b V,e]
 have:=Xs n _ T (fun j J=>by
  obtain⟨x,hx,rfl⟩:=qzq.1 J;obtain⟨c,h1,h2⟩:=K x hx;have E:g x=c:=by have:=F x hx;rw[h1]at this;injection this with _ q;exact q.symm
  rw[E];exact L c h2)
 simpa using this
theorem SetAt.tight(q:SetAt w mb N A)(n:Nat)(s:∀h:Int,A h=true->-1<=h/\h<(n:Int)):SetAt w mb (n+1) A:=by
 obtain⟨D,E,j⟩:=q;exact⟨D,Vl E n (fun h F=>s h (by rw[<-j];exact F)),j⟩
theorem SetAt.clear(h:SetAt w mb N A):
  ∃w',(∀q,(Builtin.clear_ #[296] q #[.map (some mb)]).run prog w=.ok (.tuple #[]) w')/\SetAt w' mb N (fun _=>false)/\Upd (fun D=>D=mb) w w'/\w'.heap.size=w.heap.size:=by
 obtain⟨F,⟨H,s,j,J,K,rfl⟩,L⟩:=h;refine⟨ChangeMaps.setBlock w mb (.map #[] s),?_,⟨.map [],⟨#[],s,(MapKept.heap_set j).1,⟨oe,MapKept.stamped_empty _,oe⟩,oe,rfl⟩,fun O=>rfl⟩,?_,by simp[ChangeMaps.setBlock]⟩
 .intro q;simp[Builtin.clear_,run_underlying underlying296,MapKept.run_getObj_map j,MapKept.run_setObj_map _ j,Result.andThen,ChangeMaps.setBlock]
 .exact ⟨rfl,rfl,rfl,by simp[ChangeMaps.setBlock],fun k _ E=>(MapKept.heap_set j).2 k E⟩
end
section
open Go.RowKit
abbrev LgC(M:List (Nat×(Int->Bool))):List Value:=M.map fun p=> .map (some p.1)
structure LgAt(w:World)(b:Nat)(v:Value)(blocks:Nat)(M:List (Nat×(Int->Bool))):Prop where
 str:w.heap[b]?=some (.cells #[.int .i64 blocks,v] 295 (0,0))
 sl:Sl w 296 1 v M.length (LgC M)
 sets:∀p∈M,SetAt w p.1 4097 p.2
 nd:(M.map (·.1)).Nodup
 mb:∀p∈M,p.1≠b/\v.ownBlock≠some p.1
 vb:v.ownBlock≠some b
 len:M.length<=1024
 bl:1<=blocks/\blocks<=4096
 rg:∀p∈M,∀s:Int,p.2 s=true->-1<=s/\s<(blocks:Int)
def lgS(b:Nat)(v:Value)(M:List (Nat×(Int->Bool))):Nat->Prop:=fun j=>j=b\/v.ownBlock=some j\/j∈M.map (·.1)
section
variable{w w':World}{b blocks:Nat}{v:Value}{M:List (Nat×(Int->Bool))}
theorem LgAt.keep(h:LgAt w b v blocks M)(j:Upd S w w')(q:∀s,lgS b v M s->¬S s):LgAt w' b v blocks M:=
 {h with
  str:=(j.block _ (zd h.str) (q b (.inl rfl))).trans h.str
  sl:=h.sl.keep j (fun g E=>q g (.inr (.inl E)))
  sets:=fun p D=>(h.sets p D).keep j (q p.1 (.inr (.inr (qzq.2 ⟨p,D,rfl⟩))))}
theorem LgAt.new(h:LgAt w b v blocks M)(j:Upd (fun _=>False) w w'):LgAt w' b v blocks M:=h.keep j (fun _ _ h=>h)
theorem LgAt.slt(h:LgAt w b v blocks M):∀j,lgS b v M j->j<w.heap.size:=by
 rintro j (rfl|q|q)
 .exact zd h.str
 .exact h.sl.lt q
 .obtain ⟨p,s,rfl⟩:=qzq.1 q;exact(h.sets p s).lt
theorem LgAt.c(h:LgAt w b v blocks M):w.cell? ⟨b,0,none⟩=some (.int .i64 blocks)/\w.cell? ⟨b,1,none⟩=some v:=by
 refine⟨?_,?_⟩<;>rw[za h.str]<;>rfl
theorem LgAt.at(h:LgAt w b v blocks M)(s:k<M.length):∃g j q,v=.slice (some ⟨g,j,none⟩) M.length q/\w.cell? ⟨g,j+k,none⟩=some (.map (some M[k].1)):=by
 obtain⟨g,j,q,F,rfl,D,H,E⟩:=h.sl.at oM;refine⟨g,j,q,rfl,?_⟩;rw[za D];exact E k _ (by simp[LgC,s])
theorem rj(j:k<M.length)(A:Int->Bool):(M.set k (M[k].1,A)).map (·.1)=M.map (·.1):=by
 apply qyc oe;intro i h1 h2;simp only[qyt,qyw];split
 .rename_i e;subst e;rfl
 .rfl
theorem zae(j:k<M.length)(A:Int->Bool):LgC (M.set k (M[k].1,A))=LgC M:=by
 have h:∀M:List (Nat×(Int->Bool)),LgC M=(M.map (·.1)).map fun b=>Value.map (some b):=fun M=>by simp[LgC]
 rw[h,h,rj j]
theorem LgAt.turn(h:LgAt w b v blocks M)(D:k<M.length)(H:Upd (fun K=>K=M[k].1) w w')(L:SetAt w' M[k].1 4097 A)(O:∀q:Int,A q=true->-1<=q/\q<(blocks:Int)):
  LgAt w' b v blocks (M.set k (M[k].1,A)):=by
 have J:=h.mb M[k] (qyu D);exact{h with
  str:=(H.block _ (zd h.str) (fun e=>J.1 e.symm)).trans h.str
  sl:=by rw[zae D,qze];exact h.sl.keep H (fun g hg e=>J.2 jT)
  sets:=fun p E=>by
   obtain⟨i,s,rfl⟩:=qyv E;simp only[qze]at s;rw[qyw];split
   .exact L
   .rename_i R
    refine(h.sets _ (qyu s)).keep H (fun e=>R ?_);have:=(List.getElem_inj (i:=i) (j:=k) (h₀:=by simpa using s) (h₁:=by simpa using D) h.nd).1 (by simpa using e);exact this.symm
  nd:=by rw[rj D];exact h.nd
  mb:=fun p E=>by
   have:p.1∈(M.set k (M[k].1,A)).map (·.1):=qzq.2 ⟨p,E,rfl⟩;rw[rj D]at this;obtain⟨T,U,V⟩:=qzq.1 this;rw[<-V];exact h.mb T U
  len:=by rw[qze];exact h.len
  rg:=fun p E q F=>by
   obtain⟨i,s,rfl⟩:=qyv E;simp only[qze]at s;rw[qyw]at F;split at F
   .exact O q F
   .exact h.rg _ (qyu s) q F}
end
def Lg(S:Nat->Prop)(w:World)(b blocks:Nat)(G:List (Int->Bool)):Prop:=∃v M,LgAt w b v blocks M/\M.map (·.2)=G/\∀j,lgS b v M j->S j
theorem Lg.kD(b blocks:Nat)(G:List (Int->Bool)):Thing (fun S w=>Lg S w b blocks G)where
 keep:=fun h F D=>by
  obtain⟨v,M,h,E,q⟩:=h;exact⟨v,M,h.keep F (fun j s=>D j (q j s)),E,q⟩
 out:=fun h D=>by
  obtain⟨v,M,h,E,q⟩:=h;exact⟨v,M,h,E,fun j s=>D j (h.slt j s) (q j s)⟩
theorem qx(h:LgAt w b v blocks M)(k:Nat)(j:k<M.length):
  Calls prog 245 #[.pointer (some ⟨b,0,none⟩),.int .i64 (k:Int)] w fun e w'=>e=.returned (.int .i64 0)/\w=w':=by
 obtain⟨-,q⟩:=h.c;obtain⟨g,s,D,rfl,-⟩:=h.at j;have E:=h.len;have q1:decide ((k:Int)<0)=false:=oe;have q2:decide ((k:Int)>=(M.length:Int))=false:=by simp;omega
 have F:decide ((M.length:Int)<=(k:Int))=false:=by simp;omega
 have H:decide (M.length<=k)=false:=by simp;omega
 clear h;go_enter func245,ntmps245
 go_wp2
 go_ret
 exact⟨rfl,rfl⟩
theorem zfb(h:SetAt w mb N A):
  Calls prog 246 #[.map (some mb)] w fun e w'=>e=.returned (.bool (A (-1)))/\Below w.heap.size w w':=by
 have j:=h.look (x:= -1) (by unfold InR;omega);clear h;go_enter func246,ntmps246
 go_wp2
 go_ret
 exact⟨rfl,(qxl _ _).alloc (qXp _) _⟩
def putA(A:Int->Bool)(x:Int):Int->Bool:=if x≠-1/\A (-1)=true then A else updB (if x= -1 then fun _=>false else A) x true
theorem zaf{x:Int}{n:Nat}(q:∀h:Int,A h=true->-1<=h/\h<(n:Int))(hx:x= -1\/0<=x/\x<(n:Int))(s:1<=n):∀h:Int,putA A x h=true->-1<=h/\h<(n:Int):=by
 intro h j;unfold putA at j;split at j
 .exact q h j
 .unfold updB at j;split at j
  .omega
  .split at j
   .simp at j
   .exact q h j
def PutL(w:World)(b blocks:Nat)(v:Value)(M:List (Nat×(Int->Bool)))(k:Nat)(hk:k<M.length)(A:Int->Bool)(e:Ending)(w':World):Prop:=
 e=.returned (.int .i64 0)/\LgAt w' b v blocks (M.set k (M[k].1,A))/\Upd (fun j=>j=M[k].1) w w'
theorem zag(h:LgAt w b v blocks M)(k:Nat)(q:k<M.length)(x:Int)(hx:x= -1\/(0<=x/\x<(blocks:Int))):
  Calls prog 185 #[.pointer (some ⟨b,0,none⟩),.int .i64 (k:Int),.int .i64 x] w (PutL w b blocks v M k q (putA M[k].2 x)):=by
 have U:LgAt w b v blocks (M.set k (M[k].1,M[k].2)):=by
  have:M.set k (M[k].1,M[k].2)=M:=by apply qyc oe;intro i h1 h2;rw[qyw];split;(rename_i e;subst e;rfl);rfl
  rw[this];exact h
 have V:=h.sets M[k] (qyu q);have J:=h.rg M[k] (qyu q);have a7:=h.bl;have ad:=h.len;obtain⟨ae,af⟩:=h.c;obtain⟨g,W,X,rfl,gk⟩:=h.at q;have ag:(0:Int)<=(k:Int):=oM;have ah:(k:Int)<(M.length:Int):=oM;have Y:=zaf J hx a7.1;have j:=Y5 U V J h Y;clear U V J h Y;by_cases h1:x= -1
 .have s:putA M[k].2 x=updB (fun _=>false) x true:=by unfold putA;rw[if_neg (fun h=>h.1 h1),if_pos h1]
  rw[s]at j⊢;subst h1;clear s hx;obtain⟨ai,aj,Z,K,a8⟩:=(j.o.2.1).clear;obtain⟨L,aa,E,D,O⟩:=Z.store (x:= -1) (by unfold InR;omega) oh;have R:Hid (PutL w b blocks (.slice (some ⟨g,W,none⟩) M.length X) M k q (updB (fun _=>false) (-1) true) (.returned (.int .i64 0)) L):=
   ⟨rfl,j.o.2.2.2.1.turn q (K.trans D) ((E.tight blocks j.o.2.2.2.2).mono oM) j.o.2.2.2.2,K.trans D⟩
  clear Z K a8 E D O;go_enter func185,ntmps185
  go_wp2_with (first
   |(go_at_call 245;refine(qx j.o.2.2.2.1 k q).mono ?_;rintro e w' ⟨rfl,rfl⟩)
   |fail)
  go_ret
  exact R.o
 .have ab:0<=x/\x<(blocks:Int):=hx.resolve_left h1;obtain⟨c1,c2⟩:=ab;have q1:(x != -1)=true:=by rw[bne_iff_ne];exact h1
  have q2:decide (x<0)=false:=by simp;omega
  have ak:decide (x>=(blocks:Int))=false:=by simp;omega
  have am:decide ((blocks:Int)<=x)=false:=by simp;omega
  have an:(x== -1)=false:=by rw[qYp];exact h1
  by_cases h2:M[k].2 (-1)=true
  .have s:putA M[k].2 x=M[k].2:=by unfold putA;rw[if_pos ⟨h1,h2⟩]
   rw[s]at j⊢;have T:Calls prog 246 #[.map (some M[k].1)] w fun e w'=>e=.returned (.bool true)/\Below w.heap.size w w':=(zfb j.o.2.1).mono (fun e w' h=>⟨by rw[h.1,h2],h.2⟩);clear s hx h1 h2;go_enter func185,ntmps185
   go_wp2_with (first
    |(go_at_call 245;refine(qx j.o.2.2.2.1 k q).mono ?_;rintro e w' ⟨rfl,rfl⟩)
    |(go_at_call 246;refine T.mono ?_;rintro e w1 ⟨rfl,F⟩)
    |fail)
   go_ret
   exact⟨rfl,j.o.1.new (uuo F),uuo F⟩
  .have s:putA M[k].2 x=updB M[k].2 x true:=by unfold putA;rw[if_neg (fun h=>h2 h.2),if_neg h1]
   rw[s]at j⊢;have a6:M[k].2 (-1)=false:=by simpa using h2
   have T:Calls prog 246 #[.map (some M[k].1)] w fun e w'=>e=.returned (.bool false)/\Below w.heap.size w w':=(zfb j.o.2.1).mono (fun e w' h=>⟨by rw[h.1,a6],h.2⟩);clear s hx h1 h2 a6;go_enter func185,ntmps185
   go_wp2_with (first
    |(go_at_call 245;refine(qx j.o.2.2.2.1 k q).mono ?_;rintro e w' ⟨rfl,rfl⟩)
    |fail)
   refine T.mono ?_;rintro e w1 ⟨rfl,F⟩;have H:=qqb F;have h1:=j.o.2.2.2.1.new H;obtain⟨L,aa,E,D,O⟩:=(j.o.2.1.keep H id).store (x:=x) (by unfold InR;omega) oh;have R:Hid (PutL w b blocks (.slice (some ⟨g,W,none⟩) M.length X) M k q (updB M[k].2 x true) (.returned (.int .i64 0)) L):=
    ⟨rfl,h1.turn q D ((E.tight blocks j.o.2.2.2.2).mono oM) j.o.2.2.2.2,(H.mono fE).trans D⟩
   clear E D O h1 H F;go_wp2
   go_ret
   exact R.o
def ZT(G:List (Int->Bool))(k:Nat)(x:Int):List (Int->Bool):=G.modify k (fun A=>putA A x)
def scrubG(G:List (Int->Bool))(k:Nat):List (Int->Bool):=G.modify k (fun _ _=>false)
theorem sZ(j:k<M.length)(f:(Int->Bool)->Int->Bool):(M.set k (M[k].1,f M[k].2)).map (·.2)=(M.map (·.2)).modify k f:=by
 apply qyc oe;intro i h1 h2;simp only[qyt,qyw,List.getElem_modify];split
 .rename_i e;subst e;rfl
 .rfl
theorem zgL(h:Lg S w b blocks G)(k:Nat)(s:k<G.length)(x:Int)(hx:x= -1\/(0<=x/\x<(blocks:Int))):
  Calls prog 185 #[.pointer (some ⟨b,0,none⟩),.int .i64 (k:Int),.int .i64 x] w fun e w'=>e=.returned (.int .i64 0)/\Lg S w' b blocks (ZT G k x)/\Upd S w w':=by
 obtain⟨v,M,h,rfl,q⟩:=h;have hk':k<M.length:=by simpa using s
 refine(zag h k hk' x hx).mono ?_;rintro e w' ⟨rfl,h2,D⟩;refine⟨rfl,⟨v,_,h2,sZ hk' (fun A=>putA A x),fun j hj=>q j ?_⟩,D.mono (fun j _ hj=>q j (.inr (.inr oT)))⟩;rcases hj with hj|hj|hj
 .exact .inl hj
 .exact .inr (.inl hj)
 .rw [rj hk']at hj;exact .inr (.inr hj)
theorem zcE(h:Lg S w b blocks G)(k:Nat)(D:k<G.length):
  Calls prog 188 #[.pointer (some ⟨b,0,none⟩),.int .i64 (k:Int)] w fun e w'=>e=.returned (.int .i64 0)/\Lg S w' b blocks (scrubG G k)/\Upd S w w':=by
 obtain⟨v,M,h,rfl,j⟩:=h;have hk':k<M.length:=by simpa using D
 clear D;have E:=h.sets M[k] (qyu hk');obtain⟨F,R,H,q,J⟩:=E.clear;have h2:=h.turn hk' q H (fun T K=>by simp at K);have L:Hid (Lg S F b blocks (scrubG (M.map (·.2)) k)/\Upd S w F):=by
  refine⟨⟨v,_,h2,sZ hk' (fun _ _=>false),fun s hj=>j s ?_⟩,q.mono (fun s _ hj=>j s (.inr (.inr oT)))⟩;rcases hj with hj|hj|hj
  .exact .inl hj
  .exact .inr (.inl hj)
  .rw [rj hk']at hj;exact .inr (.inr hj)
 have U:=h.len;obtain⟨-,V⟩:=h.c;obtain⟨g,W,X,rfl,gk⟩:=h.at hk';have Y:(0:Int)<=(k:Int):=oM;have Z:(k:Int)<(M.length:Int):=oM;have O:=qqh h;clear h E H q J h2 j;go_enter func188,ntmps188
 go_wp2_with (first
  |(go_at_call 245;refine(qx O.o k hk').mono ?_;rintro e w' ⟨rfl,rfl⟩)
  |fail)
 go_ret
 exact⟨rfl,L.o⟩
theorem Dv.kD(b:Nat)(F:List Bk)(O:List (Nat×Bk))(P:List Int):Thing (fun S w=>Dv S w b F O P)where
 keep:=fun h q j=>h.keep q j
 out:=fun h j=>h.out j
theorem Ck.kD(b N q s:Nat)(D:List Int)(A:Int->Bool)(G:List Int):Thing (fun S w=>Ck S w b N q s D A G)where
 keep:=fun h E j=>h.keep E j
 out:=fun h j=>h.out j
def Ix(S:Nat->Prop)(w:World)(b N:Nat)(ps:List (Int×Bool))(slots:Nat):Prop:=∃v mb,IndexAt w b v mb N ps slots/\S b/\∀j,ixS v mb j->S j
theorem Ix.kD(b N:Nat)(ps:List (Int×Bool))(H:Nat):Thing (fun S w=>Ix S w b N ps H)where
 keep:=fun⟨v,mb,h,j,q⟩ J E=>⟨v,mb,h.keep J (E _ j) (fun s D=>E _ (q s D)),j,q⟩
 out:=fun⟨v,mb,h,j,q⟩ F=>⟨v,mb,h,F _ h.blt j,fun s D=>F _ (h.slt s D) (q s D)⟩
def Ss(S:Nat->Prop)(w:World)(b:Nat)(l:List Int):Prop:=∃v,SlotsAt 292 w b v l/\S b/\∀j,v.ownBlock=some j->S j
theorem Ss.kD(b:Nat)(l:List Int):Thing (fun S w=>Ss S w b l)where
 keep:=fun⟨v,h,j,q⟩ H E=>⟨v,h.keep H (E _ j) (fun D s=>E _ (q D s)),j,q⟩
 out:=fun⟨v,h,j,q⟩ F=>⟨v,h,F _ (zd h.str) j,fun D s=>F _ (h.sl.lt s) (q D s)⟩
def Mp(S:Nat->Prop)(w:World)(mb N:Nat)(f:Int->Option Nat):Prop:=MapAt w mb N f/\S mb
theorem Mp.kD(mb N:Nat)(f:Int->Option Nat):Thing (fun S w=>Mp S w mb N f)where
 keep:=fun⟨h,j⟩ q s=>⟨h.keep q (s _ j),j⟩
 out:=fun⟨h,j⟩ D=>⟨h,D _ h.lt j⟩
structure CaN where
 id:Nat
 bl:Nat
 sl:Nat
 jo:Nat
 pa:Nat
 lo:Nat
 ba:Nat
structure CaP where
 ssd:Nat
 back:Nat
 jr:Nat
 ix:Nat
 ss:Nat
 lg:Nat
 ck:Nat
 sm:Nat
structure CaS where
 which:Nat
 dF:List Bk
 dO:List (Nat×Bk)
 dP:List Int
 bF:List Bk
 bO:List (Nat×Bk)
 bP:List Int
 cov:Nat
 next:Nat
 W:List (Nat×Bk)
 iN:Nat
 ps:List (Int×Bool)
 st:List Int
 G:List (Int->Bool)
 kN:Nat
 K:List Int
 A:Int->Bool
 H:List Int
 mN:Nat
 sums:Int->Option Nat
def CaN.size(n:CaN):Nat:=1+2*n.pa+n.jo+n.lo+n.lo+n.lo+n.sl
def CaN.C(n:CaN):List Value:=superC n.id n.bl n.sl n.jo n.pa n.lo n.ba
structure CaN.Ok(n:CaN):Prop where
 b1:1<=n.bl
 b2:n.bl<=4096
 s1:1<=n.sl
 s2:n.sl<=1024
 j1:4<=n.jo
 j2:n.jo<=1024
 l1:1<=n.lo
 l2:n.lo<=1024
 a1:1<=n.ba
 a2:n.ba<=64
 p1:(n.sl-1)/4+1<=n.pa
 p2:n.pa<=4096
 z:n.size<=4096
abbrev ptr(b:Nat):Value:=.pointer (some ⟨b,0,none⟩)
def caC(n:CaN)(p:CaP)(which:Nat):List Value:=
 n.C++(layC n.sl n.jo n.pa n.lo++[ptr p.ssd,ptr p.back,.int .i64 which,ptr p.jr,ptr p.ix,ptr p.ss,ptr p.lg,ptr p.ck,.map (some p.sm)])
structure CaAt(own:Nat->Nat)(w:World)(c:Nat)(n:CaN)(p:CaP)(a:CaS):Prop where
 str:w.heap[c]?=some (.cells (caC n p a.which).toArray 147 (0,0))
 oc:own c=1
 ok:n.Ok
 ssd:Dv (fun j=>own j=2) w p.ssd a.dF a.dO a.dP
 back:Dv (fun j=>own j=3) w p.back a.bF a.bO a.bP
 jr:Jn (fun j=>own j=4) w p.jr p.ssd (1+2*n.pa) n.jo a.cov a.next a.W
 ix:Ix (fun j=>own j=5) w p.ix a.iN a.ps n.sl
 ss:Ss (fun j=>own j=6) w p.ss a.st
 lg:Lg (fun j=>own j=7) w p.lg n.bl a.G
 ck:Ck (fun j=>own j=8) w p.ck a.kN n.sl n.sl a.K a.A a.H
 sm:Mp (fun j=>own j=9) w p.sm a.mN a.sums
 far:∀j,w.heap.size<=j->own j=0
 nib:Nib w
 tur:Tur w
 on:own 1=0
 ot:own 0=0
 fl:a.dF.length=n.size
 gl:a.bF.length=n.bl
 pl:a.ps.length=n.bl
 sl:a.st.length=n.sl
 Gl:a.G.length=n.sl
 wh:a.which<=1
section
variable{own:Nat->Nat}{w w':World}{c:Nat}{n:CaN}{p:CaP}{a:CaS}
theorem CaAt.clt(h:CaAt own w c n p a):c<w.heap.size:=zd h.str
theorem CaAt.new(h:CaAt own w c n p a)(j:Upd (fun _=>False) w w'):CaAt own w' c n p a:=
 {h with
  str:=(j.block c h.clt id).trans h.str
  ssd:=(Dv.kD _ _ _ _).new h.ssd j
  back:=(Dv.kD _ _ _ _).new h.back j
  jr:=(Jn.kD _ _ _ _ _ _ _).new h.jr j
  ix:=(Ix.kD _ _ _ _).new h.ix j
  ss:=(Ss.kD _ _).new h.ss j
  lg:=(Lg.kD _ _ _).new h.lg j
  ck:=(Ck.kD _ _ _ _ _ _ _).new h.ck j
  sm:=(Mp.kD _ _ _).new h.sm j
  far:=fun q s=>h.far q (qXr j.size s)
  nib:=h.nib.keep j id
  tur:=h.tur.keep j id }
end
section
variable{own:Nat->Nat}{w w':World}{c:Nat}{n:CaN}{p:CaP}{a:CaS}
theorem CaAt.kz(h:CaAt own w c n p a){F:List Bk}{O:List (Nat×Bk)}{P:List Int}(q:Upd (fun s=>own s=2\/w.heap.size<=s) w w')(D:Dv (fun s=>own s=2\/w.heap.size<=s) w' p.ssd F O P)(E:F.length=a.dF.length):
  CaAt (grow own 2 w.heap.size w'.heap.size) w' c n p {a with dF:=F,dO:=O,dP:=P}:=
 {h with
  str:=(q.block c h.clt (fun j=>by rcases j with j|j;rw[h.oc]at j;exact absurd j de;exact absurd h.clt oM)).trans h.str
  oc:=(zw h.clt).trans h.oc
  ssd:=(Dv.kD _ _ _ _).mine q.size D
  back:=(Dv.kD _ _ _ _).other h.back de q
  jr:=(Jn.kD _ _ _ _ _ _ _).other h.jr de q
  ix:=(Ix.kD _ _ _ _).other h.ix de q
  ss:=(Ss.kD _ _).other h.ss de q
  lg:=(Lg.kD _ _ _).other h.lg de q
  ck:=(Ck.kD _ _ _ _ _ _ _).other h.ck de q
  sm:=(Mp.kD _ _ _).other h.sm de q
  far:=(Did.step h.far (t:=2) de de q).far
  nib:=h.nib.keep q (fun j=>by rcases j with j|j;rw[h.on]at j;exact absurd j de;exact absurd h.nib.lt oM)
  tur:=h.tur.keep q (fun j=>by rcases j with j|j;rw[h.ot]at j;exact absurd j de;exact absurd h.tur.lt oM)
  on:=(zw h.nib.lt).trans h.on
  ot:=(zw h.tur.lt).trans h.ot
  fl:=E.trans h.fl
 }
theorem CaAt.did2(h:CaAt own w c n p a)(q:Upd (fun j=>own j=2\/w.heap.size<=j) w w'):Did own (grow own 2 w.heap.size w'.heap.size) w w':=Did.step h.far de de q
theorem CaAt.kC(h:CaAt own w c n p a):Dv (fun j=>own j=2\/w.heap.size<=j) w p.ssd a.dF a.dO a.dP:=(Dv.kD _ _ _ _).open h.ssd
theorem CaAt.turn3(h:CaAt own w c n p a){F:List Bk}{O:List (Nat×Bk)}{P:List Int}(q:Upd (fun s=>own s=3\/w.heap.size<=s) w w')(D:Dv (fun s=>own s=3\/w.heap.size<=s) w' p.back F O P)(E:F.length=a.bF.length):
  CaAt (grow own 3 w.heap.size w'.heap.size) w' c n p {a with bF:=F,bO:=O,bP:=P}:=
 {h with
  str:=(q.block c h.clt (fun j=>by rcases j with j|j;rw[h.oc]at j;exact absurd j de;exact absurd h.clt oM)).trans h.str
  oc:=(zw h.clt).trans h.oc
  ssd:=(Dv.kD _ _ _ _).other h.ssd de q
  back:=(Dv.kD _ _ _ _).mine q.size D
  jr:=(Jn.kD _ _ _ _ _ _ _).other h.jr de q
  ix:=(Ix.kD _ _ _ _).other h.ix de q
  ss:=(Ss.kD _ _).other h.ss de q
  lg:=(Lg.kD _ _ _).other h.lg de q
  ck:=(Ck.kD _ _ _ _ _ _ _).other h.ck de q
  sm:=(Mp.kD _ _ _).other h.sm de q
  far:=(Did.step h.far (t:=3) de de q).far
  nib:=h.nib.keep q (fun j=>by rcases j with j|j;rw[h.on]at j;exact absurd j de;exact absurd h.nib.lt oM)
  tur:=h.tur.keep q (fun j=>by rcases j with j|j;rw[h.ot]at j;exact absurd j de;exact absurd h.tur.lt oM)
  on:=(zw h.nib.lt).trans h.on
  ot:=(zw h.tur.lt).trans h.ot
  gl:=E.trans h.gl
 }
theorem CaAt.did3(h:CaAt own w c n p a)(q:Upd (fun j=>own j=3\/w.heap.size<=j) w w'):Did own (grow own 3 w.heap.size w'.heap.size) w w':=Did.step h.far de de q
theorem CaAt.open3(h:CaAt own w c n p a):Dv (fun j=>own j=3\/w.heap.size<=j) w p.back a.bF a.bO a.bP:=(Dv.kD _ _ _ _).open h.back
theorem CaAt.turn4(h:CaAt own w c n p a){D next:Nat}{W:List (Nat×Bk)}(q:Upd (fun s=>own s=4\/w.heap.size<=s) w w')(E:Jn (fun s=>own s=4\/w.heap.size<=s) w' p.jr p.ssd (1+2*n.pa) n.jo D next W):
  CaAt (grow own 4 w.heap.size w'.heap.size) w' c n p {a with cov:=D,next:=next,W:=W}:=
 {h with
  str:=(q.block c h.clt (fun j=>by rcases j with j|j;rw[h.oc]at j;exact absurd j de;exact absurd h.clt oM)).trans h.str
  oc:=(zw h.clt).trans h.oc
  ssd:=(Dv.kD _ _ _ _).other h.ssd de q
  back:=(Dv.kD _ _ _ _).other h.back de q
  jr:=(Jn.kD _ _ _ _ _ _ _).mine q.size E
  ix:=(Ix.kD _ _ _ _).other h.ix de q
  ss:=(Ss.kD _ _).other h.ss de q
  lg:=(Lg.kD _ _ _).other h.lg de q
  ck:=(Ck.kD _ _ _ _ _ _ _).other h.ck de q
  sm:=(Mp.kD _ _ _).other h.sm de q
  far:=(Did.step h.far (t:=4) de de q).far
  nib:=h.nib.keep q (fun j=>by rcases j with j|j;rw[h.on]at j;exact absurd j de;exact absurd h.nib.lt oM)
  tur:=h.tur.keep q (fun j=>by rcases j with j|j;rw[h.ot]at j;exact absurd j de;exact absurd h.tur.lt oM)
  on:=(zw h.nib.lt).trans h.on
  ot:=(zw h.tur.lt).trans h.ot
 }
theorem CaAt.did4(h:CaAt own w c n p a)(q:Upd (fun j=>own j=4\/w.heap.size<=j) w w'):Did own (grow own 4 w.heap.size w'.heap.size) w w':=Did.step h.far de de q
theorem CaAt.open4(h:CaAt own w c n p a):Jn (fun j=>own j=4\/w.heap.size<=j) w p.jr p.ssd (1+2*n.pa) n.jo a.cov a.next a.W:=(Jn.kD _ _ _ _ _ _ _).open h.jr
theorem CaAt.turn5(h:CaAt own w c n p a)(q:Upd (fun s=>own s=5\/w.heap.size<=s) w w')(D:Ix (fun s=>own s=5\/w.heap.size<=s) w' p.ix N ps n.sl)(E:ps.length=a.ps.length):
  CaAt (grow own 5 w.heap.size w'.heap.size) w' c n p {a with iN:=N,ps:=ps}:=
 {h with
  str:=(q.block c h.clt (fun j=>by rcases j with j|j;rw[h.oc]at j;exact absurd j de;exact absurd h.clt oM)).trans h.str
  oc:=(zw h.clt).trans h.oc
  ssd:=(Dv.kD _ _ _ _).other h.ssd de q
  back:=(Dv.kD _ _ _ _).other h.back de q
  jr:=(Jn.kD _ _ _ _ _ _ _).other h.jr de q
  ix:=(Ix.kD _ _ _ _).mine q.size D
  ss:=(Ss.kD _ _).other h.ss de q
  lg:=(Lg.kD _ _ _).other h.lg de q
  ck:=(Ck.kD _ _ _ _ _ _ _).other h.ck de q
  sm:=(Mp.kD _ _ _).other h.sm de q
  far:=(Did.step h.far (t:=5) de de q).far
  nib:=h.nib.keep q (fun j=>by rcases j with j|j;rw[h.on]at j;exact absurd j de;exact absurd h.nib.lt oM)
  tur:=h.tur.keep q (fun j=>by rcases j with j|j;rw[h.ot]at j;exact absurd j de;exact absurd h.tur.lt oM)
  on:=(zw h.nib.lt).trans h.on
  ot:=(zw h.tur.lt).trans h.ot
  pl:=E.trans h.pl
 }
theorem CaAt.did5(h:CaAt own w c n p a)(q:Upd (fun j=>own j=5\/w.heap.size<=j) w w'):Did own (grow own 5 w.heap.size w'.heap.size) w w':=Did.step h.far de de q
theorem CaAt.open5(h:CaAt own w c n p a):Ix (fun j=>own j=5\/w.heap.size<=j) w p.ix a.iN a.ps n.sl:=(Ix.kD _ _ _ _).open h.ix
theorem CaAt.turn6(h:CaAt own w c n p a)(q:Upd (fun s=>own s=6\/w.heap.size<=s) w w')(D:Ss (fun s=>own s=6\/w.heap.size<=s) w' p.ss l)(E:l.length=a.st.length):
  CaAt (grow own 6 w.heap.size w'.heap.size) w' c n p {a with st:=l}:=
 {h with
  str:=(q.block c h.clt (fun j=>by rcases j with j|j;rw[h.oc]at j;exact absurd j de;exact absurd h.clt oM)).trans h.str
  oc:=(zw h.clt).trans h.oc
  ssd:=(Dv.kD _ _ _ _).other h.ssd de q
  back:=(Dv.kD _ _ _ _).other h.back de q
  jr:=(Jn.kD _ _ _ _ _ _ _).other h.jr de q
  ix:=(Ix.kD _ _ _ _).other h.ix de q
  ss:=(Ss.kD _ _).mine q.size D
  lg:=(Lg.kD _ _ _).other h.lg de q
  ck:=(Ck.kD _ _ _ _ _ _ _).other h.ck de q
  sm:=(Mp.kD _ _ _).other h.sm de q
  far:=(Did.step h.far (t:=6) de de q).far
  nib:=h.nib.keep q (fun j=>by rcases j with j|j;rw[h.on]at j;exact absurd j de;exact absurd h.nib.lt oM)
  tur:=h.tur.keep q (fun j=>by rcases j with j|j;rw[h.ot]at j;exact absurd j de;exact absurd h.tur.lt oM)
  on:=(zw h.nib.lt).trans h.on
  ot:=(zw h.tur.lt).trans h.ot
  sl:=E.trans h.sl
 }
theorem CaAt.did6(h:CaAt own w c n p a)(q:Upd (fun j=>own j=6\/w.heap.size<=j) w w'):Did own (grow own 6 w.heap.size w'.heap.size) w w':=Did.step h.far de de q
theorem CaAt.open6(h:CaAt own w c n p a):Ss (fun j=>own j=6\/w.heap.size<=j) w p.ss a.st:=(Ss.kD _ _).open h.ss
theorem CaAt.turn7(h:CaAt own w c n p a)(q:Upd (fun s=>own s=7\/w.heap.size<=s) w w')(D:Lg (fun s=>own s=7\/w.heap.size<=s) w' p.lg n.bl G)(E:G.length=a.G.length):
  CaAt (grow own 7 w.heap.size w'.heap.size) w' c n p {a with G:=G}:=
 {h with
  str:=(q.block c h.clt (fun j=>by rcases j with j|j;rw[h.oc]at j;exact absurd j de;exact absurd h.clt oM)).trans h.str
  oc:=(zw h.clt).trans h.oc
  ssd:=(Dv.kD _ _ _ _).other h.ssd de q
  back:=(Dv.kD _ _ _ _).other h.back de q
  jr:=(Jn.kD _ _ _ _ _ _ _).other h.jr de q
  ix:=(Ix.kD _ _ _ _).other h.ix de q
  ss:=(Ss.kD _ _).other h.ss de q
  lg:=(Lg.kD _ _ _).mine q.size D
  ck:=(Ck.kD _ _ _ _ _ _ _).other h.ck de q
  sm:=(Mp.kD _ _ _).other h.sm de q
  far:=(Did.step h.far (t:=7) de de q).far
  nib:=h.nib.keep q (fun j=>by rcases j with j|j;rw[h.on]at j;exact absurd j de;exact absurd h.nib.lt oM)
  tur:=h.tur.keep q (fun j=>by rcases j with j|j;rw[h.ot]at j;exact absurd j de;exact absurd h.tur.lt oM)
  on:=(zw h.nib.lt).trans h.on
  ot:=(zw h.tur.lt).trans h.ot
  Gl:=E.trans h.Gl
 }
theorem CaAt.did7(h:CaAt own w c n p a)(q:Upd (fun j=>own j=7\/w.heap.size<=j) w w'):Did own (grow own 7 w.heap.size w'.heap.size) w w':=Did.step h.far de de q
theorem CaAt.open7(h:CaAt own w c n p a):Lg (fun j=>own j=7\/w.heap.size<=j) w p.lg n.bl a.G:=(Lg.kD _ _ _).open h.lg
theorem CaAt.turn8(h:CaAt own w c n p a){D E:List Int}(q:Upd (fun s=>own s=8\/w.heap.size<=s) w w')(F:Ck (fun s=>own s=8\/w.heap.size<=s) w' p.ck N n.sl n.sl D A E):
  CaAt (grow own 8 w.heap.size w'.heap.size) w' c n p {a with kN:=N,K:=D,A:=A,H:=E}:=
 {h with
  str:=(q.block c h.clt (fun j=>by rcases j with j|j;rw[h.oc]at j;exact absurd j de;exact absurd h.clt oM)).trans h.str
  oc:=(zw h.clt).trans h.oc
  ssd:=(Dv.kD _ _ _ _).other h.ssd de q
  back:=(Dv.kD _ _ _ _).other h.back de q
  jr:=(Jn.kD _ _ _ _ _ _ _).other h.jr de q
  ix:=(Ix.kD _ _ _ _).other h.ix de q
  ss:=(Ss.kD _ _).other h.ss de q
  lg:=(Lg.kD _ _ _).other h.lg de q
  ck:=(Ck.kD _ _ _ _ _ _ _).mine q.size F
  sm:=(Mp.kD _ _ _).other h.sm de q
  far:=(Did.step h.far (t:=8) de de q).far
  nib:=h.nib.keep q (fun j=>by rcases j with j|j;rw[h.on]at j;exact absurd j de;exact absurd h.nib.lt oM)
  tur:=h.tur.keep q (fun j=>by rcases j with j|j;rw[h.ot]at j;exact absurd j de;exact absurd h.tur.lt oM)
  on:=(zw h.nib.lt).trans h.on
  ot:=(zw h.tur.lt).trans h.ot
 }
theorem CaAt.did8(h:CaAt own w c n p a)(q:Upd (fun j=>own j=8\/w.heap.size<=j) w w'):Did own (grow own 8 w.heap.size w'.heap.size) w w':=Did.step h.far de de q
theorem CaAt.open8(h:CaAt own w c n p a):Ck (fun j=>own j=8\/w.heap.size<=j) w p.ck a.kN n.sl n.sl a.K a.A a.H:=(Ck.kD _ _ _ _ _ _ _).open h.ck
theorem CaAt.turn9(h:CaAt own w c n p a){f:Int->Option Nat}(q:Upd (fun s=>own s=9\/w.heap.size<=s) w w')(D:Mp (fun s=>own s=9\/w.heap.size<=s) w' p.sm N f):
  CaAt (grow own 9 w.heap.size w'.heap.size) w' c n p {a with mN:=N,sums:=f}:=
 {h with
  str:=(q.block c h.clt (fun j=>by rcases j with j|j;rw[h.oc]at j;exact absurd j de;exact absurd h.clt oM)).trans h.str
  oc:=(zw h.clt).trans h.oc
  ssd:=(Dv.kD _ _ _ _).other h.ssd de q
  back:=(Dv.kD _ _ _ _).other h.back de q
  jr:=(Jn.kD _ _ _ _ _ _ _).other h.jr de q
  ix:=(Ix.kD _ _ _ _).other h.ix de q
  ss:=(Ss.kD _ _).other h.ss de q
  lg:=(Lg.kD _ _ _).other h.lg de q
  ck:=(Ck.kD _ _ _ _ _ _ _).other h.ck de q
  sm:=(Mp.kD _ _ _).mine q.size D
  far:=(Did.step h.far (t:=9) de de q).far
  nib:=h.nib.keep q (fun j=>by rcases j with j|j;rw[h.on]at j;exact absurd j de;exact absurd h.nib.lt oM)
  tur:=h.tur.keep q (fun j=>by rcases j with j|j;rw[h.ot]at j;exact absurd j de;exact absurd h.tur.lt oM)
  on:=(zw h.nib.lt).trans h.on
  ot:=(zw h.tur.lt).trans h.ot
 }
theorem CaAt.did9(h:CaAt own w c n p a)(q:Upd (fun j=>own j=9\/w.heap.size<=j) w w'):Did own (grow own 9 w.heap.size w'.heap.size) w w':=Did.step h.far de de q
theorem CaAt.turn1(h:CaAt own w c n p a)(x:Nat)(hx:x<=1):CaAt own (w.setCell ⟨c,16,none⟩ (.int .i64 (x:Int))) c n p {a with which:=x}:=by
 have q:Upd (fun j=>j=c) w (w.setCell ⟨c,16,none⟩ (.int .i64 (x:Int))):=zi w c 16 _;have s:∀(k j:Nat),k≠1->own j=k->¬j=c:=fun k j D hj e=>D (by rw[<-hj,e,h.oc]);exact{h with
  str:=zh h.str 16 _
  ssd:=h.ssd.keep q (fun j hj=>s _ j de hj)
  back:=h.back.keep q (fun j hj=>s _ j de hj)
  jr:=(Jn.kD _ _ _ _ _ _ _).keep h.jr q (fun j hj=>s _ j de hj)
  ix:=(Ix.kD _ _ _ _).keep h.ix q (fun j hj=>s _ j de hj)
  ss:=(Ss.kD _ _).keep h.ss q (fun j hj=>s _ j de hj)
  lg:=(Lg.kD _ _ _).keep h.lg q (fun j hj=>s _ j de hj)
  ck:=h.ck.keep q (fun j hj=>s _ j de hj)
  sm:=(Mp.kD _ _ _).keep h.sm q (fun j hj=>s _ j de hj)
  far:=fun j hj=>h.far j oz
  nib:=h.nib.keep q (s _ _ de h.on)
  tur:=h.tur.keep q (s _ _ de h.ot)
  wh:=hx}
theorem CaAt.did1(h:CaAt own w c n p a)(x:Value):Did own own w (w.setCell ⟨c,16,none⟩ x):=(Did.refl h.far).setCell ⟨c,16,none⟩ (fun _=>by rw[show own c=1 from h.oc];exact⟨de,de⟩) x
theorem CaAt.j3(q:CaAt own w c n p a)(s:Upd (fun _=>False) w w'):Did own own w w':=⟨s.mono fE,fun _ _=>rfl,fun h j=>by rw[q.far h j];decide,fun h j=>q.far h (qXr s.size j)⟩
end
def zx(own:Nat->Nat)(w:World)(c:Nat)(n:CaN)(p:CaP)(a:CaS)(v:Value)(e:Ending)(w':World):Prop:=
 e=.returned v/\∃own',CaAt own' w' c n p a/\Did own own' w w'
section
variable{own:Nat->Nat}{w w':World}{c:Nat}{n:CaN}{p:CaP}{a:CaS}
theorem CaAt.cells(j:CaAt own w c n p a):w.cell? ⟨c,14,none⟩=some (ptr p.ssd)/\w.cell? ⟨c,15,none⟩=some (ptr p.back)/\w.cell? ⟨c,16,none⟩=some (.int .i64 (a.which:Int))/\
  w.cell? ⟨c,17,none⟩=some (ptr p.jr)/\w.cell? ⟨c,18,none⟩=some (ptr p.ix)/\w.cell? ⟨c,19,none⟩=some (ptr p.ss)/\w.cell? ⟨c,20,none⟩=some (ptr p.lg)/\w.cell? ⟨c,21,none⟩=some (ptr p.ck)/\w.cell? ⟨c,22,none⟩=some (.map (some p.sm)):=by
 have h:=za j.str;exact⟨h 14,h 15,h 16,h 17,h 18,h 19,h 20,h 21,h 22⟩
theorem CaAt.sup(j:CaAt own w c n p a):w.cell? ⟨c,0,none⟩=some (.int .i64 (n.id:Int))/\w.cell? ⟨c,1,none⟩=some (.int .i64 (n.bl:Int))/\w.cell? ⟨c,2,none⟩=some (.int .i64 (n.sl:Int))/\
  w.cell? ⟨c,3,none⟩=some (.int .i64 (n.jo:Int))/\w.cell? ⟨c,4,none⟩=some (.int .i64 (n.pa:Int))/\w.cell? ⟨c,5,none⟩=some (.int .i64 (n.lo:Int))/\w.cell? ⟨c,6,none⟩=some (.int .i64 (n.ba:Int)):=by
 have h:=za j.str;exact⟨h 0,h 1,h 2,h 3,h 4,h 5,h 6⟩
theorem CaAt.lay(j:CaAt own w c n p a):w.cell? ⟨c,7,none⟩=some (.int .i64 1)/\w.cell? ⟨c,8,none⟩=some (.int .i64 (1+2*(n.pa:Int)))/\w.cell? ⟨c,13,none⟩=some (.int .i64 (1+2*(n.pa:Int)+(n.jo:Int)+(n.lo:Int)+(n.lo:Int)+(n.lo:Int)+(n.sl:Int)))/\
  w.cell? ⟨c,12,none⟩=some (.int .i64 (1+2*(n.pa:Int)+(n.jo:Int)+(n.lo:Int)+(n.lo:Int)+(n.lo:Int))):=by
 have h:=za j.str;exact⟨h 7,h 8,h 13,h 12⟩
theorem CaAt.fz(h:CaAt own w c n p a)(i:Nat):w.frozen? ⟨c,i,none⟩=false:=zg h.str i
theorem ZU(h:CaAt own w c n p a):Calls prog 33 #[ptr p.ssd] w (zx own w c n p {a with dF:=(flushR a.dF a.dO a.dP).F,dO:=(flushR a.dF a.dO a.dP).O,dP:=(flushR a.dF a.dO a.dP).P} (.int .i64 (flushR a.dF a.dO a.dP).cd)):=
 (xg h.kC (fun _ h=> .inr h)).mono fun _ _ ⟨q,s,j⟩=>⟨q,_,h.kz j s (by simp only[flushR];(repeat' split)<;>simp[zM]),h.did2 j⟩
theorem vW(h:CaAt own w c n p a):Calls prog 33 #[ptr p.back] w (zx own w c n p {a with bF:=(flushR a.bF a.bO a.bP).F,bO:=(flushR a.bF a.bO a.bP).O,bP:=(flushR a.bF a.bO a.bP).P} (.int .i64 (flushR a.bF a.bO a.bP).cd)):=
 (xg h.open3 (fun _ h=> .inr h)).mono fun _ _ ⟨q,s,j⟩=>⟨q,_,h.turn3 j s (by simp only[flushR];(repeat' split)<;>simp[zM]),h.did3 j⟩
theorem ca_jnext(h:CaAt own w c n p a):Calls prog 133 #[ptr p.jr] w fun e w'=>e=.returned (.int .i64 (a.next:Int))/\w=w':=TZ h.jr
end
section
variable{own:Nat->Nat}{w w':World}{c:Nat}{n:CaN}{p:CaP}{a:CaS}
theorem SA(G:List (Int->Bool))(k:Nat)(x:Int):(ZT G k x).length=G.length:=by simp[ZT]
theorem Vm(G:List (Int->Bool))(k:Nat):(scrubG G k).length=G.length:=by simp[scrubG]
theorem ZV(h:CaAt own w c n p a)(k:Nat)(q:k<n.sl)(x:Int)(hx:x= -1\/(0<=x/\x<(n.bl:Int))):
  Calls prog 185 #[ptr p.lg,.int .i64 (k:Int),.int .i64 x] w (zx own w c n p {a with G:=ZT a.G k x} (.int .i64 0)):=
 (zgL h.open7 k (by rw[h.Gl];exact q) x hx).mono fun _ _ ⟨s,D,j⟩=>⟨s,_,h.turn7 j D (SA _ _ _),h.did7 j⟩
theorem Qj(h:CaAt own w c n p a)(k:Nat)(q:k<n.sl):
  Calls prog 188 #[ptr p.lg,.int .i64 (k:Int)] w (zx own w c n p {a with G:=scrubG a.G k} (.int .i64 0)):=
 (zcE h.open7 k (by rw[h.Gl];exact q)).mono fun _ _ ⟨s,D,j⟩=>⟨s,_,h.turn7 j D (Vm _ _),h.did7 j⟩
theorem SB(h:CaAt own w c n p a)(s:Int)(q:s=(a.next:Int)-1):
  Calls prog 134 #[ptr p.jr,.int .i64 s] w (zx own w c n p {a with cov:=a.next-1,W:=[]} (.int .i64 0)):=
 (zcw h.open4 s q).mono fun _ _ ⟨D,E,j⟩=>⟨D,_,h.turn4 j E,h.did4 j⟩
def Vn:Int->Bool:=updB (fun _=>false) (-1) true
def tY(G:List (Int->Bool))(k:Nat):List (Int->Bool):=List.replicate k Vn++G.drop k
theorem Vo(G:List (Int->Bool)):tY G 0=G:=by simp[tY]
theorem Qk(G:List (Int->Bool)):tY G G.length=List.replicate G.length Vn:=by simp[tY]
theorem rk{j:Type}(f:j->j):∀(l:List j) (x:j) (r:List j),(l++x::r).modify l.length f=l++f x::r
 |[],_,_=>oe
 |y::l,x,r=>by simpa using rk f l x r
theorem Vp(h:k<G.length):ZT (tY G k) k (-1)=tY G (k+1):=by
 have e:G.drop k=G[k]::G.drop (k+1):=qxz h;have:=rk (fun A=>putA A (-1)) (List.replicate k Vn) G[k] (G.drop (k+1));rw[qzd]at this;unfold ZT tY;rw[e,this,List.replicate_succ',qxv];simp[putA,Vn]
end
theorem rm{w:World}{gl ol cl T:Nat}{v:Value}(xs:List Int)(ah:xs.length=20)(am:20<=cl)(ai:cl<=maxLen)(Z:w.cell? ⟨T,0,none⟩=some v)(an:Bnd w v bndP)(hx:w.rangeAt gl ol (ints xs)):
  Calls prog 300 #[.slice (some ⟨gl,ol,none⟩) 20 cl,.pointer (some ⟨T,0,none⟩)] w fun e w'=>e=.returned (.bool (mayP xs))/\Below w.heap.size w w':=by
 obtain⟨g,h,aq,rfl,aj,ak⟩:=an;obtain⟨J,a6⟩:∃J,xs.getD 1 0=J:=⟨_,rfl⟩
 obtain⟨K,a7⟩:∃K,xs.getD 2 0=K:=⟨_,rfl⟩
 have c1:w.cell? ⟨gl,ol+1,none⟩=some (.int .i64 J):=by
  rw[yq hx (i:=1) oM,<-a6];simp[List.getD_eq_getElem?_getD,show 1<xs.length by omega]
 have c2:w.cell? ⟨gl,ol+2,none⟩=some (.int .i64 K):=by
  rw[yq hx (i:=2) oM,<-a7];simp[List.getD_eq_getElem?_getD,show 2<xs.length by omega]
 have X:Upd (fun _=>False) w w.drew:=(uur _ _).drew;have s:=Y6 (X.range hx id) (X.jU aj id) (X.range ak id) ah am ai;have O:Hid (mayP xs=(withinB bndP xs&&decide (J<K)&&entsB xs)):=by show _=_;rw[mayP,a6,a7]
 clear hx ak aj X a6 a7 ah ai;obtain⟨a8,U⟩:∃a8,withinB bndP xs=a8:=⟨_,rfl⟩
 have aa:=qqh U;cases a8
 .rw [U]at O;clear U;go_enter func300,ntmps300
  go_wp2
  refine qZd (S:=fun H=>H.cell? ⟨T,0,none⟩=some (.func (.func 167) #[] #[.pointer (some ⟨g,0,none⟩)])/\H.cell? ⟨gl,ol+1,none⟩=some (.int .i64 J)/\H.cell? ⟨gl,ol+2,none⟩=some (.int .i64 K)) kR (by(simp only[qYi]);exact⟨Z,c1,c2⟩) (fun E=>?_);refine Wl.i [0,1] ?_;iterate 2 refine Wl.t E ?_
  refine Wl.o ?_;refine Wl.r 2 (fun q j=>?_);go_simp
  refine(yt bndP xs s.o.2.1 s.o.2.2.1 s.o.1 s.o.2.2.2.1 (by show 4<=20;decide) de).mono ?_;rw[aa.o];rintro e w' ⟨rfl,F⟩;refine j.o _ _ (have D:=uuo (S:=fun _=>False) F;⟨D.jU E.1 id,D.jU E.2.1 id,D.jU E.2.2 id⟩) (fun R=>?_);clear j q;refine Wl.i [3,4,5,6,7,8,9,10] ?_;iterate 8 refine Wl.t R ?_
  refine Wl.o ?_;refine Wl.r 11 (fun q j=>?_);go_simp
  refine j.o _ _ (R) (fun L=>?_);clear j q;refine Wl.i [12,13,14] ?_;iterate 3 refine Wl.t L ?_
  refine Wl.o ?_;refine Wl.r 15 (fun q j=>?_);go_simp
  refine j.o _ _ (L) (fun V=>?_);clear j q;refine Wl.r 16 (fun q j=>?_);go_simp
  refine j.o _ _ (V) (fun ab=>?_);clear j q;refine Wl.d ?_;have W:Hid (Below w.heap.size w w'):=yj F;clear F;go_wp2
  go_ret
  exact⟨by rw[O.o];rfl,W.o⟩
 .rw [U]at O;clear U;by_cases Y:J<K
  .have ad:decide (J<K)=true:=by simpa using Y
   rw[ad]at O;clear Y;obtain⟨ae,af⟩:∃ae,entsB xs=ae:=⟨_,rfl⟩
   have ao:=qqh af;rw[af]at O;clear af;go_enter func300,ntmps300
   go_wp2
   refine qZd (S:=fun H=>H.cell? ⟨T,0,none⟩=some (.func (.func 167) #[] #[.pointer (some ⟨g,0,none⟩)])/\H.cell? ⟨gl,ol+1,none⟩=some (.int .i64 J)/\H.cell? ⟨gl,ol+2,none⟩=some (.int .i64 K)) kR (by(simp only[qYi]);exact⟨Z,c1,c2⟩) (fun E=>?_);refine Wl.i [0,1] ?_;iterate 2 refine Wl.t E ?_
   refine Wl.o ?_;refine Wl.r 2 (fun q j=>?_);go_simp
   refine(yt bndP xs s.o.2.1 s.o.2.2.1 s.o.1 s.o.2.2.2.1 (by show 4<=20;decide) de).mono ?_;rw[aa.o];rintro e w' ⟨rfl,F⟩;refine j.o _ _ (have D:=uuo (S:=fun _=>False) F;⟨D.jU E.1 id,D.jU E.2.1 id,D.jU E.2.2 id⟩) (fun R=>?_);clear j q;refine Wl.i [3,4,5,6,7,8,9,10] ?_;iterate 8 refine Wl.t R ?_
   refine Wl.o ?_;refine Wl.r 11 (fun q j=>?_);go_simp
   refine j.o _ _ (R) (fun L=>?_);clear j q;refine Wl.i [12,13] ?_;iterate 2 refine Wl.t L ?_
   refine Wl.o ?_;refine Wl.r 14 (fun q j=>?_);go_simp
   refine(Sf (Below.range F s.o.1) s.o.2.2.2.1 s.o.2.2.2.2.1 s.o.2.2.2.2.2).mono ?_;rw[ao.o];rintro e ap ⟨rfl,ag⟩;refine j.o _ _ (have D:=uuo (S:=fun _=>False) ag;⟨D.jU L.1 id,D.jU L.2.1 id,D.jU L.2.2 id⟩) (fun V=>?_);clear j q;refine Wl.r 15 (fun q j=>?_);go_simp
   refine j.o _ _ (V) (fun ab=>?_);clear j q;refine Wl.r 16 (fun q j=>?_);go_simp
   refine j.o _ _ (ab) (fun ar=>?_);clear j q;refine Wl.d ?_;have W:Hid (Below w.heap.size w ap):=yj (F.trans (ag.mono F.size));clear F ag;go_wp2
   go_ret
   exact⟨by rw[O.o];cases ae<;>rfl,W.o⟩
  .have ad:decide (J<K)=false:=by simpa using Y
   rw[ad]at O;clear Y;go_enter func300,ntmps300
   go_wp2
   refine qZd (S:=fun H=>H.cell? ⟨T,0,none⟩=some (.func (.func 167) #[] #[.pointer (some ⟨g,0,none⟩)])/\H.cell? ⟨gl,ol+1,none⟩=some (.int .i64 J)/\H.cell? ⟨gl,ol+2,none⟩=some (.int .i64 K)) kR (by(simp only[qYi]);exact⟨Z,c1,c2⟩) (fun E=>?_);refine Wl.i [0,1] ?_;iterate 2 refine Wl.t E ?_
   refine Wl.o ?_;refine Wl.r 2 (fun q j=>?_);go_simp
   refine(yt bndP xs s.o.2.1 s.o.2.2.1 s.o.1 s.o.2.2.2.1 (by show 4<=20;decide) de).mono ?_;rw[aa.o];rintro e w' ⟨rfl,F⟩;refine j.o _ _ (have D:=uuo (S:=fun _=>False) F;⟨D.jU E.1 id,D.jU E.2.1 id,D.jU E.2.2 id⟩) (fun R=>?_);clear j q;refine Wl.i [3,4,5,6,7,8,9,10] ?_;iterate 8 refine Wl.t R ?_
   refine Wl.o ?_;refine Wl.r 11 (fun q j=>?_);go_simp
   refine j.o _ _ (R) (fun L=>?_);clear j q;refine Wl.i [12,13,14] ?_;iterate 3 refine Wl.t L ?_
   refine Wl.o ?_;refine Wl.r 15 (fun q j=>?_);go_simp
   refine j.o _ _ (L) (fun V=>?_);clear j q;refine Wl.r 16 (fun q j=>?_);go_simp
   refine j.o _ _ (V) (fun ab=>?_);clear j q;refine Wl.d ?_;have W:Hid (Below w.heap.size w w'):=yj F;clear F;go_wp2
   go_ret
   exact⟨by rw[O.o];rfl,W.o⟩
theorem yh{B:List (Int×Int)}{xs:List Int}(h:withinB B xs=true){i:Nat}(j:i<B.length)(hx:i<xs.length):B[i].1<=xs[i]/\xs[i]<=B[i].2:=by
 unfold withinB at h;rw[qxu]at h;have:=h (B[i],xs[i]) (by rw[List.mem_iff_getElem];exact⟨i,by simp;omega,oe⟩);simpa[inB]using this
theorem tE{xs:List Int}(hx:xs.length=20)(h:mayP xs=true):(∀x∈xs,0<=x)/\qS (numL [6,2,2,1,2,2,1,4,2,2,1,4,2,2,1,4,2,2,1,4] xs):=by
 simp only[mayP,qxo]at h;obtain⟨⟨h1,h2⟩,s⟩:=h;have a0:=yh h1 (i:=0) de oM;have a1:=yh h1 (i:=1) de oM;have a2:=yh h1 (i:=2) de oM;have a3:=yh h1 (i:=3) de oM;simp[bndP]at a0 a1 a2 a3;unfold entsB at s;rw[qxu]at s;have F:∀i (_:i<4),∀j (_:j<4),∃h:4+4*i+j<xs.length,0<=xs[4+4*i+j]/\xs[4+4*i+j]<=bndE[j]!.2:=by
  intro i hi j D;refine⟨oM,?_⟩;have q:=s i oB;have U:=xV hx hi;have e:(rowI xs i)[j]'oM =xs[4+4*i+j]'oM:=by simp[rowI]
  rw[<-e];unfold entB at q;split at q
  .have:=yh q (i:=j) (by simpa[bndE]using D) oM;rcases j with _|_|_|_|j
   all_goals first|omega|(simp[bndE]at this⊢;omega)
  .simp at q;have H:(rowI xs i)[j]'oM =0:=by
    simp only[q];rcases j with _|_|_|_|j
    all_goals first|omega|rfl
   rw[H];rcases j with _|_|_|_|j
   all_goals first|omega|(simp[bndE])
 have E:∀i (h1:i<xs.length) (h2:i<[6,2,2,1,2,2,1,4,2,2,1,4,2,2,1,4,2,2,1,4].length),0<=xs[i]/\xs[i]<256^[6,2,2,1,2,2,1,4,2,2,1,4,2,2,1,4,2,2,1,4][i]:=by
  intro i hi V;by_cases W:i<4
  .rcases i with _|_|_|_|i
   all_goals first|omega|(simp;omega)
  .obtain ⟨k,j,J,D,rfl⟩:∃k j,k<4/\j<4/\i=4+4*k+j:=⟨(i-4)/4,(i-4)%4,oM,oM,oM⟩
   obtain⟨X,K,L⟩:=F k J j D;refine⟨K,?_⟩;have O:k=0\/k=1\/k=2\/k=3:=oM;have R:j=0\/j=1\/j=2\/j=3:=oM;rcases O with rfl|rfl|rfl|rfl<;>rcases R with rfl|rfl|rfl|rfl<;>simp[bndE]at L⊢<;>omega
 refine⟨fun x T=>?_,tC (by rw[hx];rfl) de de E⟩;obtain⟨i,hi,rfl⟩:=qyv T;exact(E i hi og).1
open Go Go.RowKit Go.Shelf Tryz
attribute [local go_sem] qYb
theorem Ss.exact{S:Nat->Prop}{w:World}{b:Nat}{l:List Int}(q:Ss S w b l):∃s:Nat->Prop,Ss s w b l/\(∀h,s h->S h)/\∀h,s h->∃cs t z,w.heap[h]?=some (.cells cs t z):=by
 obtain⟨v,q,D,E⟩:=q;refine⟨fun h=>h=b\/v.ownBlock=some h,⟨v,q,.inl rfl,fun h j=> .inr j⟩,fun h j=>by rcases j with rfl|j;exact D;exact E h j,fun h j=>?_⟩;rcases j with rfl|j
 .exact ⟨_,_,_,q.str⟩
 .rcases q.sl with⟨-,⟨e,-⟩|⟨g,H,J,K,e,F,-⟩⟩
  .rw [e]at j;cases j
  .rw [e]at j;cases j;exact⟨_,_,_,F⟩
theorem Ss.grown{w':World}(s:Ss S w b l)(q:w.grownBy w' row)(D:∀r,row=some r->∃o:Obj,w.heap[r]?=some o/\o.isCells=false):Ss S w' b l:=by
 obtain⟨K,E,F,H⟩:=s.exact;have:=(Ss.kD b l).keep E (Upd.kj (S:=fun h=>row=some h) q (fun g e _=>e)) (fun h j e=>by
  obtain⟨cs,t,z,J⟩:=H h j;exact Vi J q D e)
 exact(Ss.kD b l).out this (fun h _ j=>F h j)
theorem zfc(j:Ss S w b l)(s:Tur w)(slot h:Int):
  Calls prog 187 #[ptr b,.int .i64 slot,.int .i64 h] w fun e w'=>e=.returned (.int .i64 (turnCode l slot h))/\Ss S w' b (turnList l slot h)/\Upd S w w':=by
 obtain⟨v,j,D,q⟩:=j;exact(Xd j s slot h).mono fun _ _ ⟨E,F,H⟩=>⟨E,⟨v,F,D,q⟩,H.mono (fun k _ J=>q k J)⟩
theorem ZW(l:List Int)(slot h:Int):(turnList l slot h).length=l.length:=by unfold turnList;split<;>simp
def freeTo(l:List Int)(pre:List Nat):List Int:=pre.foldl (fun(l:List Int) (k:Nat)=>turnList l (k:Int) 0) l
theorem Xt(l:List Int)(pre:List Nat)(x:Nat):freeTo l (pre++[x])=turnList (freeTo l pre) (x:Int) 0:=by simp[freeTo]
theorem rn(l:List Int)(pre:List Nat):(freeTo l pre).length=l.length:=by
 induction pre generalizing l with
 |nil=>rfl
 |cons x pre h=>exact(h (turnList l (x:Int) 0)).trans (ZW _ _ _)
section
variable{own:Nat->Nat}{w w':World}{c:Nat}{n:CaN}{p:CaP}{a:CaS}
def zah(own:Nat->Nat)(w:World)(c:Nat)(n:CaN)(p:CaP)(a:CaS)(e:Ending)(w':World):Prop:=zx own w c n p {a with st:=freeTo a.st (pos a.st 3)} (.tuple #[]) e w'
theorem UO(h:CaAt own w c n p a):Calls prog 135 #[ptr c] w (zah own w c n p a):=by
 have X:Upd (fun _=>False) w (w.alloc (.cells #[ptr c] 88)):=(uur _ w).alloc _;have h1:=h.new X;have aq:Boxed (w.alloc (.cells #[ptr c] 88)) w.heap.size 88 (ptr c):=Boxed.new w _ _;obtain⟨ar,au,av,aw,ax,aR,ay,az,aA⟩:=h1.cells;obtain⟨aS,Y,aB,aC⟩:=h1.ss;have aD:0<a.st.length:=by have:=h.sl;have:=h.ok.s1;omega
 have ad:=UE Y 3 aD;have aE:=Y.le;have J:=Y4 h X h1 ad;have ae:(w.alloc (.cells #[ptr c] 88)).heap.size=w.heap.size+1:=oe;have af:=h.clt;clear h X h1 ad Y aB aC ar au av aw ax ay az aA;refine(callsIn_wide (n:=3)).1 ?_;refine callsIn_of_wp_marks func135 rfl trivial ?_ rfl;simp only[ntmps135,qXh,qyz,qzc,Nat.reduceAdd,Nat.reduceSub,qxi,qxj,qXb,qxx,qzu,qxy]
 gi_wp2_with (refine⟨trivial,?_⟩;gi_at_call 206;refine(callsIn_wide.2 J.o.2.2.2).mono ?_;rintro e w1 ⟨Z,a6,g,aF,aG,rfl,hge,aH,ag,L,aI,aJ,af,a7⟩)
 have aK:=a7.size;rw[ae]at aK hge;have ah:Upd (fun _=>False) w w1:=J.o.2.1.trans (uuo a7);have ai:=J.o.1.new ah;have a8:Boxed w1 w.heap.size 88 (ptr c):=(a7.block _ (by rw[ae];omega)).trans aq;have O:Hid (∀j,¬(own j=6)->j<w1.heap.size->¬(w1.heap.size<=j\/own j=6)):=fun j h1 h2 h=>by rcases h with h|h;omega;exact h1 h
 have aa:Hid (∀j,w.heap.size<=j->¬own j=6):=fun j F e=>by rw[J.o.1.far j F]at e;exact absurd e de
 have E:=qqh ai;clear ai;refine wpIn_rangeFunc_ownF rfl oM (gf:=268) (lb:= #[.pointer (some ⟨Z,0,none⟩),.pointer (some ⟨a6,0,none⟩)]) rfl trivial (enters_of func268 kR rfl)
  (sR Fence.wide _ trivial rfl oM (fun j=>w1.heap.size<=j\/own j=6) Z a6 g aF aG a.st 3 w1 aE L ag aH (O.out _ (aa.out _ oM) L) (O.out _ (aa.out _ oM) ag) aI aJ af) uf (fun q l o aL aM=>ww (M:=w1.heap.size) (fun j h=> .inl h) q l o aL aM) (qxl _ _) (fun _=>rfl)
  (fun T q=>Ss (fun j=>own j=6) q p.ss (freeTo a.st T)/\Upd (fun j=>w1.heap.size<=j\/own j=6) w1 q)
  (fun _ _ _=>False)
  (fun T aT aU row s L aj=>⟨s.1.grown L (fun r e=>(aj r e).2),yI s.2 L (fun r e=> .inl (aj r e).1)⟩)
  (fun _ _ _ _ _ s _ _=>s)
  ⟨E.o.ss,uur _ _⟩
  (fun x=>{tmps:= #[ptr c,.pointer (some ⟨w.heap.size,0,none⟩),.int .i64 (x:Int),ptr c,ptr c,.pointer (some ⟨c,19,none⟩),ptr p.ss,.func (.func 268) #[] #[.pointer (some ⟨Z,0,none⟩),.pointer (some ⟨a6,0,none⟩)],.int .i64 (x:Int),undef,undef,undef,undef,undef,undef],defers:=[]}) ?assign ?body ?done ?stop
 case assign=>
  intro l x q aV R
  gi_wp2
  simpa using R
 case body=>
  rintro l T x q ⟨U,D⟩ hlt;have ak:=D.block _ (zd a8) (O.out _ (aa.out _ (qXp _)) (zd a8))|>.trans a8
  have aW:q.cell? ⟨w.heap.size,0,none⟩=some (ptr c):=za ak 0;have am:=(D.block c E.o.clt (O.out _ (by rw[E.o.oc];decide) E.o.clt)).trans E.o.str;have aX:q.cell? ⟨c,19,none⟩=some (ptr p.ss):=za am 19;have an:=E.o.tur.keep D (O.out _ (by rw[E.o.ot];decide) E.o.tur.lt);obtain⟨aY,ao,K,V⟩:=U.exact;have ap:=Y4 (zfc ao an (x:Int) 0) D K V;clear U D ak am an ao K V
  gi_wp2_with ((first|(refine⟨trivial,fun _=>oM,?_⟩)|(refine⟨trivial,?_⟩)|skip);gi_at_call 187;refine(CallsIn.inRound l (callsIn_wide.2 ap.o.1)).mono ?_;rintro e aZ ⟨rfl,aN,H⟩)
  obtain⟨b0,D,K,V⟩:=ap.o;refine⟨zA H (fun j F _=>V j F),H.mono (fun k _ ab=> .inr (K k ab)),?_,D.trans (H.mono (fun k _ ab=> .inr (K k ab)))⟩;rw[Xt];exact(Ss.kD _ _).out aN (fun j _ F=>K j F)
 case done=>
  rintro W b1 q aO rfl ⟨U,D⟩ R
  gi_wp2
  refine⟨oe,.inl ⟨_,_,rfl,run_takeDeferred R,?_⟩⟩;refine⟨_,qYw rfl _ _ _,?_⟩;have aP:=ww (S:=fun j=>w1.heap.size<=j\/own j=6) (M:=w1.heap.size) (fun j h=> .inl h) q W _ (.deferred none) aO R rfl rfl;have aQ:=U.grown (grownBy_putObj' q W (.deferred none)) (fun r e=>by cases e;exact⟨_,R,rfl⟩);have H:Upd (fun j=>own j=6\/w.heap.size<=j) w (q.putObj W (.deferred none)):=(ah.mono fE).new (D.trans aP) (fun i b2 s=>by rcases s with s|s;omega;exact .inl s);have b3:=H.size;exact⟨rfl,_,J.o.1.turn6 H ((Ss.kD _ _).out aQ (fun j _ F=> .inl F)) (rn _ _),J.o.1.did6 H⟩
 case stop=>
  rintro W c T q _ _ h _;exact h.elim
end
end
section
open Go.RowKit
theorem UP{w':World}(h:Below w.drew.heap.size w.drew w'):Below w.heap.size w w':=⟨h.os,h.tape,h.output,h.size,h.block⟩
abbrev UQ(f n:Int):Value:=.agg #[.int .i64 f,.int .i64 n]
def spanL(ps:List (Int×Bool))(f n:Nat):List (Int×Bool):=(ps.drop f).take n
theorem SC(ps:List (Int×Bool))(k:Nat):plC (ps.drop k)=(plC ps).drop (k*2):=by
 induction ps generalizing k with
 |nil=>simp[plC]
 |cons p ps h=>
  cases k with
  |zero=>rfl
  |succ k=>
   rw[show(k+1)*2=k*2+1+1 by omega];simpa[plC]using h k
theorem qy{g o c:Nat}(h:Sl w 231 2 (.slice (some ⟨g,o,none⟩) ps.length c) ps.length (plC ps))(f:Nat)(F:f<=ps.length):
  Rd w 2 (.slice (some ⟨g,o+f*2,none⟩) (ps.length-f) (c-f)) (ps.drop f).length (plC (ps.drop f)):=by
 obtain⟨H,J,K,L,s,O,D⟩:=h.rd;cases s;refine⟨AT _,by rw[qza];omega,some ⟨g,o+f*2,none⟩,c-f,by rw[qza],(fun h=>by cases h),fun b E j u q=>?_⟩;cases E;rw[SC,qyi]at q;have:=D _ rfl (f*2+j) u q;have e:(⟨g,o,none⟩:Addr).add (f*2+j)=(⟨g,o+f*2,none⟩:Addr).add j:=by rw[qxa,qxa,qXl]
 rw[<-e];exact this
theorem zgx{q:Nat}(h:IndexAt w b v mb N ps q)(f n:Int)(s:f<0\/n<0\/(ps.length:Int)<=f):
  Calls prog 132 #[.pointer (some ⟨b,0,none⟩),UQ f n] w fun e w'=>e=.returned (.func (.func 201) #[] #[])/\Below w.heap.size w w':=by
 have j:Upd (fun _=>False) w (w.alloc (.cells #[.int .i64 f,.int .i64 n] 50)):=(uur _ _).alloc _;have D:=(j.cellAt (o:=0) h.blt id).trans (za h.str 0);simp at D;have K:=h.le;obtain⟨L,c,rfl⟩:=h.sl.rd.jW;clear h j;have E:f<0\/(¬f<0/\n<0)\/(¬f<0/\¬n<0/\(ps.length:Int)<=f):=oM;clear s;rcases E with h1|⟨h1,h2⟩|⟨h1,h2,F⟩
 case' inr.inl=>
  have H:decide (f<0)=false:=by simpa using h1
  have J:decide (n<0)=true:=by simpa using h2
 case' inr.inr=>
  have H:decide (f<0)=false:=by simpa using h1
  have J:decide (n<0)=false:=by simpa using h2
  have O:decide ((ps.length:Int)<=f)=true:=by simpa using F
 all_goals
  go_enter func132,ntmps132
  go_wp2
  go_quiet(fail)
  go_wp2
  go_ret
  exact⟨rfl,zN ((qxl _ _).alloc (qXp _) _) _⟩
theorem zcF{aJ:Nat}(h:IndexAt w b v mb N ps aJ)(f n:Nat)(aY:f<ps.length):
  Calls prog 132 #[.pointer (some ⟨b,0,none⟩),UQ f n] w fun e w'=>∃D ab g aj aK,e=.returned (.func (.func 203) #[] #[.pointer (some ⟨D,0,none⟩),.pointer (some ⟨ab,0,none⟩)])/\
   (w.heap.size<=ab/\w.heap.size<=g/\w.heap.size<=D)/\D<w'.heap.size/\ab<w'.heap.size/\g<w'.heap.size/\w'.cell? ⟨D,0,none⟩=some (.slice (some ⟨g,aj,none⟩) (spanL ps f n).length aK)/\w'.cell? ⟨ab,0,none⟩=some (.int .i64 f)/\
   (∀j (h:j<(spanL ps f n).length),w'.cell? ⟨g,aj+j*2,none⟩=some (.int .i64 (spanL ps f n)[j].1)/\w'.cell? ⟨g,aj+j*2+1,none⟩=some (.bool (spanL ps f n)[j].2))/\Below w.heap.size w w':=by
 have ak:Upd (fun _=>False) w (w.alloc (.cells #[.int .i64 f,.int .i64 n] 50)):=(uur _ _).alloc _;have T:=(ak.cellAt (o:=0) h.blt id).trans (za h.str 0);simp at T;have aZ:=h.le;have U:=qqh h;obtain⟨aL,c,rfl⟩:=h.sl.rd.jW;have b0:¬(f:Int)<0:=oM;have b1:¬(n:Int)<0:=oM;have b2:¬(ps.length:Int)<=f:=oM;clear h;go_enter func132,ntmps132
 go_wp2
 go_quiet(fail)
 go_wp2
 clear T;generalize ad:(w.alloc (.cells #[.int .i64 f,.int .i64 n] 50)).drewN nq=q;have Z:Upd (fun _=>False) w q:=by rw[<-ad];exact ak.drewN nq
 have av:q.heap[w.heap.size]?=some (.cells #[.int .i64 f,.int .i64 n] 50):=by rw[<-ad];exact zc w _ rfl
 have aM:q.heap.size=w.heap.size+1:=by rw[<-ad];simp[World.drewN]
 clear ad ak;have t0:=za av 0;have am:=za av 1;simp at t0 am;have T:=(Z.cellAt (o:=0) U.o.blt id).trans (za U.o.str 0);simp at T;obtain⟨gb,L,rfl,b3⟩:∃gb L,aL=some (⟨gb,L,none⟩:Addr)/\ps.length<=c:=by
  obtain⟨b4,⟨h1,h2⟩|⟨H,O,aN,aO,h1,hg,aP,_⟩⟩:=U.o.sl
  .omega
  .cases h1;exact⟨H,O,rfl,aP⟩
 have V:Upd (fun _=>False) q (q.alloc (.cells #[.slice none 0 0] 286)).drew:=((uur _ _).alloc _).drew;have aw:Hid (Rd (q.alloc (.cells #[.slice none 0 0] 286)).drew 2 (.slice (some ⟨gb,L+f*2,none⟩) (ps.length-f) (c-f)) (ps.drop f).length (plC (ps.drop f))):=
  (qy (U.o.sl.keep Z (fun _ _ h=>h)) f oM).keep V (fun _ _ h=>h)
 have ax:Hid (Rd q.drew 2 (.slice (some ⟨gb,L+f*2,none⟩) (ps.length-f) (c-f)) (ps.drop f).length (plC (ps.drop f))):=
  (qy (U.o.sl.keep Z (fun _ _ h=>h)) f oM).keep ((uur (fun _=>False) q).drew) (fun _ _ h=>h)
 have ae:Hid (q.drew.cell? ⟨b,0,none⟩=some (.slice (some ⟨gb,L,none⟩) ps.length c)/\q.drew.cell? ⟨w.heap.size,0,none⟩=some (.int .i64 f)/\q.drew.cell? ⟨w.heap.size,1,none⟩=some (.int .i64 n)):=⟨T,t0,am⟩
 have b5:¬c=f:=oM;have b6:f<=ps.length:=oM;have b7:=U.o.blt;have a6:Hid ((q.alloc (.cells #[.slice none 0 0] 286)).drew.cell? ⟨b,0,none⟩=some (.slice (some ⟨gb,L,none⟩) ps.length c)/\(q.alloc (.cells #[.slice none 0 0] 286)).drew.cell? ⟨w.heap.size,0,none⟩=some (.int .i64 f)/\
   (q.alloc (.cells #[.slice none 0 0] 286)).drew.cell? ⟨w.heap.size,1,none⟩=some (.int .i64 n)/\(q.alloc (.cells #[.slice none 0 0] 286)).drew.heap[w.heap.size+1]?=some (.cells #[.slice none 0 0] 286)):=
  ⟨(V.cellAt oM id).trans T,(V.cellAt oM id).trans t0,(V.cellAt oM id).trans am,zc q _ aM.symm⟩
 have aQ:¬w.heap.size+1=b:=oM
 go_region_held3 (fun an=>an.cell? ⟨b,0,none⟩=some (.slice (some ⟨gb,L,none⟩) ps.length c)/\an.cell? ⟨w.heap.size,0,none⟩=some (.int .i64 f)/\an.cell? ⟨w.heap.size,1,none⟩=some (.int .i64 n)) (go_keep)
  (first
  |((go_at_call 202;refine(wF ax.o og og).mono ?_;rintro e E ⟨aR,rfl,R,W,hb3⟩;obtain⟨J,s,rfl⟩:=R.rd.jW;have ao:=(hb3.cell (p:=⟨b,0,none⟩) og).trans ae.o.1;have a7:=(hb3.cell (p:=⟨w.heap.size,0,none⟩) og).trans ae.o.2.1;have a8:=(hb3.cell (p:=⟨w.heap.size,1,none⟩) og).trans ae.o.2.2))
  |((go_at_call 202;refine(wF aw.o og og).mono ?_;rintro e E ⟨aR,rfl,R,W,hb3⟩;obtain⟨J,s,rfl⟩:=R.rd.jW;have ao:=(hb3.cell (p:=⟨b,0,none⟩) og).trans a6.o.1;have a7:=(hb3.cell (p:=⟨w.heap.size,0,none⟩) og).trans a6.o.2.1;have a8:=(hb3.cell (p:=⟨w.heap.size,1,none⟩) og).trans a6.o.2.2.1;have kb:=(hb3.block (w.heap.size+1) og).trans a6.o.2.2.2;have ay:=za kb 0;have aS:=zg kb 0;simp at ay)))
 case' refine_2.refine_3.refine_3.refine_3.refine_3.refine_3.refine_3.refine_3.refine_1.refine_2.refine_1.refine_2.refine_1.refine_2=>
  have F:Upd (fun _=>False) E (E.alloc (.cells #[.slice J (ps.length-f) s] 286)):=(uur _ _).alloc _;have K:=zc E (.cells #[.slice J (ps.length-f) s] 286) rfl;have X:=zj (zj (qxl _ w) Z (qXp _) (fun _ h=>h.elim)) (uuo (S:=fun _=>False) (UP hb3)) (qXp _) (fun _ h=>h.elim);have az:From w.heap.size (.slice J (ps.length-f) s):=fun g hg=>by have:=W g oV;simp at this;omega
  have af:w.heap.size<=E.heap.size:=X.size;have ag:=R.keep F (fun _ _ h=>h);have ap:=zj X F (qXp _) (fun _ h=>h.elim);have t5:=(F.cellAt (b:=w.heap.size) (o:=0) ow id).trans a7;have aT:=(F.cellAt (b:=w.heap.size) (o:=1) ow id).trans a8;have aA:E.heap.size≠w.heap.size:=by have:=hb3.size;simp at this;omega
  clear F R W hb3 ao a7 a8 X;generalize (E.alloc (.cells #[.slice J (ps.length-f) s] 286))=aa at*;generalize E.heap.size=D at*
 rotate_left
 have F:Upd (fun j=>j=w.heap.size+1) E (E.setCell ⟨w.heap.size+1,0,none⟩ (.slice J (ps.length-f) s)):=zi _ _ _ _;have K:=zh kb 0 (.slice J (ps.length-f) s);simp at K;have aB:=zj (zj (qxl _ w) Z (qXp _) (fun _ h=>h.elim)) V (qXp _) (fun _ h=>h.elim);have X:=zj aB (uuo (S:=fun _=>False) hb3) (qXp _) (fun _ h=>h.elim);have az:From w.heap.size (.slice J (ps.length-f) s):=fun g hg=>by have:=W g oV;simp at this;omega
 have af:w.heap.size<=w.heap.size+1:=oM;have ag:=R.keep F (fun g hg e=>by have:=W g hg;simp at this;omega);have ap:=zj X F (qXp _) (fun j e=>oM);have t5:=(F.cellAt (b:=w.heap.size) (o:=0) ow oM).trans a7;have aT:=(F.cellAt (b:=w.heap.size) (o:=1) ow oM).trans a8;have aA:w.heap.size+1≠w.heap.size:=oM;clear F R W hb3 ao a7 a8 ay aS kb aB X aQ V a6 ae aw ax;generalize (E.setCell ⟨w.heap.size+1,0,none⟩ (.slice J (ps.length-f) s))=aa at*;generalize w.heap.size+1=D at*
 all_goals
  obtain⟨H,O,aN,aO,aU,Y,aV,aq⟩:=ag.at og
 all_goals
  cases aU;have ar:Hid (∀j (h:j<(ps.drop f).length),aa.cell? ⟨H,O+j*2,none⟩=some (.int .i64 (ps.drop f)[j].1)/\aa.cell? ⟨H,O+j*2+1,none⟩=some (.bool (ps.drop f)[j].2)):=
   fun j h=>⟨(za Y _).trans (aq _ _ (xQ h).1),(za Y _).trans (aq (j*2+1) _ (xQ h).2)⟩
  have ah:=zd Y;have aC:=az H rfl;have aD:=zd K;have b8:ps.length-f<=s:=by
   obtain⟨_,⟨h1,_⟩|⟨_,_,_,_,h1,_,h2,_⟩⟩:=ag
   .cases h1
   .cases h1;simpa using h2
  have aE:H≠D:=fun e=>by
   rw[e]at Y;rw[Y]at K;simp at K
  have aF:=za K 0;have b9:=zg K 0;simp at aF;have aW:=qqh K;clear aV aq Y ag K;by_cases hlt:(n:Int)<((ps.length-f:Nat):Int)
  .have ba:n<=ps.length-f:=oM;have bb:n<=s:=oM;have aG:Hid (spanL ps f n=(ps.drop f).take n):=rfl;have aH:(spanL ps f n).length=n:=by simp[spanL];omega
   go_wp2
   go_ret
   have au:Upd (fun j=>j=D) aa (aa.setCell ⟨D,0,none⟩ (.slice (some ⟨H,O,none⟩) n s)):=zi _ _ _ _;have ai:=(zH t5).2;refine⟨D,w.heap.size,H,O,s,rfl,⟨qXp _,aC,af⟩,by rw[World.size_setCell];exact aD,by rw[World.size_setCell];exact ai,by rw[World.size_setCell];exact ah,?_,(au.cellAt ai (fun e=>aA e.symm)).trans t5,?_,ap.setCell (p:=⟨D,0,none⟩) af _⟩
   .rw [aH,za (zh aW.o 0 _)];simp
   .intro j aX;have aI:j<(ps.drop f).length:=by rw[aH]at aX;simp;omega
    have e:(spanL ps f n)[j]=(ps.drop f)[j]:=by simp[spanL]
    rw[e];exact⟨(au.cellAt ah (fun e=>aE e)).trans (ar.out j aI).1,(au.cellAt ah (fun e=>aE e)).trans (ar.out j aI).2⟩
  .go_wp2
   go_ret
   have aG:spanL ps f n=ps.drop f:=by unfold spanL;rw[qXj];simp;omega
   rw[aG];have ai:=(zH t5).2;exact⟨D,w.heap.size,rfl,H,⟨qXp _,aC,af⟩,aD,ai,ah,O,⟨s,by rw[qza];exact aF⟩,t5,ar.out,ap⟩
open Go Go.RowKit Go.Shelf Tryz
attribute [local go_sem] qYb
theorem zcG(n:Nat)(az:2<=n)(S:Nat->Prop)(l a8 E b off cap:Nat)(j:List (Int×Bool))(fr:Nat)
  (aA:j.length<=4096) (aB:fr<=4096) (ap:∀k (h:k<j.length),j[k]=(-1,false)\/0<=j[k].1) (aa:¬S b) (ab:¬S E) (F ad:List It9->World->Prop) (B0:Nat) (ae:AbidesFrom B0 F)
  (aq:∀s (x:It9) W,F s W->s++[x]<+:vis j fr->YieldAt Fence.wide (n-1) prog l (zcD x) W fun e H=>
   (e=.returned (.bool true)/\F (s++[x]) H/\Upd S W H)\/(e=.returned (.bool false)/\ad (s++[x]) H))
  (W:World) (af:b<W.heap.size) (ag:E<W.heap.size) (aC:W.cell? ⟨a8,0,none⟩=some (.slice (some ⟨b,off,none⟩) j.length cap)) (ah:W.cell? ⟨E,0,none⟩=some (.int .i64 fr))
  (ai:∀K (h:K<j.length),W.cell? ⟨b,off+K*2,none⟩=some (.int .i64 j[K].1)/\W.cell? ⟨b,off+K*2+1,none⟩=some (.bool j[K].2)) (ar:F [] W):
  CallsIn Fence.wide n prog 203 #[.func (.yield l) #[] #[],.pointer (some ⟨a8,0,none⟩),.pointer (some ⟨E,0,none⟩)] W fun e H=>(∃v,e=.returned v)/\
   ((∃aj,aj=vis j fr/\F aj H)\/(∃s,s<+:vis j fr/\ad s H)):=by
 have aD:prog.follows .mixedOrders=true:=kR;refine callsIn_of_wp func203 rfl trivial ?_ rfl;simp only[ntmps203,qXh,qyz,qzc,Nat.reduceAdd,Nat.reduceSub,qxi,qxj,qXb,qxx,qzu,qxy]
 gi_wp2
 refine wpIn_wide.2 (wp_scope_straight (wpIn_wide (n:=n).1 (wpIn_seq (wpIn_label ?_))))
 gi_wp2
 gi_loopw [8] (fun i wr=>∃k:Nat,k<=j.length/\i=.int .i64 k/\F (visTo j fr k) wr/\Upd S W wr)
  (fun i _=>j.length-(intOf i).toNat)
 case atStart=>exact⟨0,qXz _,rfl,ar,uur _ _⟩
 case round=>
  obtain⟨k,aE,rfl,T,L⟩:=hrel;have aF:wr.cell? ⟨E,0,none⟩=some (.int .i64 fr):=(L.cellAt ag ab).trans ah;by_cases hlt:k<j.length
  .have au:wr.cell? ⟨b,off+k*2,none⟩=some (.int .i64 j[k].1):=(L.cellAt af aa).trans (ai k hlt).1;have av:wr.cell? ⟨b,off+k*2+1,none⟩=some (.bool j[k].2):=(L.cellAt af aa).trans (ai k hlt).2;by_cases J:j[k]=(-1,false)
   .have O:Hid (visTo j fr (k+1)=visTo j fr k):=wG hlt J;rw[J]at au av;clear J;have U:Hid ((wr.alloc (.cells #[.int .i64 (-1),.bool false] 231)).drew.cell? ⟨wr.heap.size,0,none⟩=some (.int .i64 (-1))):=za (zc wr _ rfl) 0;have V:Hid ((wr.alloc (.cells #[.int .i64 (-1),.bool false] 231)).drew.cell? ⟨wr.heap.size,1,none⟩=some (.bool false)):=za (zc wr _ rfl) 1
    gi_wp2
    gi_region_with_o (first|refine⟨trivial,fun _=>oM,?_⟩|skip;gi_at_call 184;refine(callsIn_wide.2 (yV _)).mono ?_;rintro e R ⟨rfl,q,X⟩;have ak:=(q.cellAt oe id).trans U.o;have am:=(q.cellAt oe id).trans V.o)
    all_goals
     have D:Upd (fun _=>False) wr R:=((uur (fun _=>False) wr).alloc _).trans q.undrew;have Y:=qqh (ri ae T D);have Z:=qqh (L.trans (D.mono (S':=S) (fun _ _ h=>h.elim)));clear q X ak am D
     gi_wp2
     go_roundw
     case rel=>exact⟨k+1,oM,oe,by rw[O.o];exact Y.o,Z.o⟩
     case measure=>simp[intOf];omega
   .have aG:0<=j[k].1:=(ap k hlt).resolve_left J;have aH:(j[k].1== -1)=false:=by simp;omega
    have O:Hid (visTo j fr (k+1)=visTo j fr k++[(fr+k,j[k])]):=vJ hlt J;clear J;have U:Hid ((wr.alloc (.cells #[.int .i64 j[k].1,.bool j[k].2] 231)).drew.cell? ⟨wr.heap.size,0,none⟩=some (.int .i64 j[k].1)):=za (zc wr _ rfl) 0;have V:Hid ((wr.alloc (.cells #[.int .i64 j[k].1,.bool j[k].2] 231)).drew.cell? ⟨wr.heap.size,1,none⟩=some (.bool j[k].2)):=za (zc wr _ rfl) 1
    gi_wp2
    gi_region_with_o (first|refine⟨trivial,fun _=>oM,?_⟩|skip;gi_at_call 184;refine(callsIn_wide.2 (yV _)).mono ?_;rintro e R ⟨rfl,q,X⟩;have ak:=(q.cellAt oe id).trans U.o;have am:=(q.cellAt oe id).trans V.o)
    all_goals
     have D:Upd (fun _=>False) wr R:=((uur (fun _=>False) wr).alloc _).trans q.undrew;have Y:=qqh (ri ae T D);have a6:=L.trans (D.mono (S':=S) (fun _ _ h=>h.elim));have aI:R.cell? ⟨E,0,none⟩=some (.int .i64 fr):=(a6.cellAt ag ab).trans ah;have Z:=qqh a6;obtain⟨aJ,aK,assign,body,hy,a7⟩:=aq _ (fr+k,j[k]) R Y.o (by rw[<-O.o];exact uM j fr oM);simp only[zcD,qxr]at hy;clear q X D a6
     gi_wp2
     refine⟨fun _=>oM,?_⟩;refine a7.mono ?_;rintro e aL (⟨rfl,an,ao⟩|⟨rfl,aw⟩)
     .have ax:=qqh an;have ay:=qqh (Z.o.trans (ao.mono (fun _ _ h=>h)));clear an ao a7
      gi_wp2
      go_roundw
      case rel=>exact⟨k+1,oM,oe,by rw[O.o];exact ax.o,ay.o⟩
      case measure=>simp[intOf];omega
     .clear a7
      gi_wp2
      rw[qxq];refine qYq (qYw rfl _ _ _) rfl ?_;exact⟨⟨_,rfl⟩,.inr ⟨_,by rw[<-O.o];exact uM j fr oM,aw⟩⟩
  .obtain rfl:k=j.length:=oM
   gi_wp2
   rw[Exit.noGoto_normal]
   go_end0
   exact⟨⟨_,rfl⟩,.inl ⟨_,rfl,T⟩⟩
abbrev ItM(qs:List (Int×Bool))(fr:Nat):={x:It9//x∈vis qs fr}
theorem Ql{L pre:List It9}{x:It9}(h:pre++[x]<+:L):x∈L/\pre.length<L.length:=by
 refine⟨h.subset oe,?_⟩;have:=h.length_le;simp at this;omega
theorem Za(n:Nat)(Y:2<=n)(S:Nat->Prop)(J F b off cap:Nat)(h:List (Int×Bool))(fr:Nat)(w:World)(Z:h.length<=4096)(a6:fr<=4096)(a7:∀k (q:k<h.length),h[k]=(-1,false)\/0<=h[k].1)
  (K:b<w.heap.size) (R:F<w.heap.size) (a8:J<w.heap.size) (aa:¬S b) (ab:¬S F)
  (ad:w.cell? ⟨J,0,none⟩=some (.slice (some ⟨b,off,none⟩) h.length cap)) (ae:w.cell? ⟨F,0,none⟩=some (.int .i64 fr))
  (T:∀j (q:j<h.length),w.cell? ⟨b,off+j*2,none⟩=some (.int .i64 h[j].1)/\w.cell? ⟨b,off+j*2+1,none⟩=some (.bool h[j].2)):
  SeqStopsK Fence.wide n prog 203 #[.pointer (some ⟨J,0,none⟩),.pointer (some ⟨F,0,none⟩)] (fun x:ItM h fr=>zcD x.1) (Upd S) (fun D=>D.map (·.1)=vis h fr) (fun U=>U.map (·.1)<+:vis h fr) (vis h fr).length w:=fun l af ag V H ah _ ai aj=>by
 refine(zcG n Y S l J F b off cap h fr Z a6 a7 aa ab (fun D E=>∃zs:List (ItM h fr),zs.map (·.1)=D/\af zs E) (fun D E=>∃zs:List (ItM h fr),zs.map (·.1)=D/\ag zs E) V.heap.size
  (fun D E L row q ak am=>by obtain⟨zs,s,q⟩:=q;exact⟨zs,s,ah zs E L row q ak am⟩) ?_ V (qXs K H.size) (qXs R H.size) ((H.cell (p:=⟨J,0,none⟩) a8).trans ad) ((H.cell (p:=⟨F,0,none⟩) R).trans ae)
  (fun j W=>⟨(H.cell (p:=⟨b,off+j*2,none⟩) K).trans (T j W).1,(H.cell (p:=⟨b,off+j*2+1,none⟩) K).trans (T j W).2⟩) ⟨[],rfl,aj⟩).mono ?_
 .rintro U x E ⟨zs,s,an⟩ ao;obtain⟨hx,av⟩:=Ql ao;obtain⟨ap,aq,assign,body,hy,ar⟩:=ai zs ⟨x,hx⟩ E an (by have:=congrArg List.length s;simp at this;omega);refine⟨ap,aq,assign,body,hy,ar.mono ?_⟩;rintro e L (⟨h1,h2,au⟩|⟨h1,h2⟩)
  .exact .inl ⟨h1,⟨_,by rw[qzg,s];rfl,h2⟩,au⟩
  .exact .inr ⟨h1,⟨_,by rw[qzg,s];rfl,h2⟩⟩
 .rintro e L ⟨X,⟨D,O,zs,s,q⟩|⟨D,O,zs,s,q⟩⟩
  .exact ⟨X,.inl ⟨zs,s.trans O,q⟩⟩
  .exact ⟨X,.inr ⟨zs,by show List.map (fun x=>x.val) zs<+:vis h fr;rw[s];exact O,q⟩⟩
attribute [local go_sem] qYb
theorem Vq{A B:World}{t:TypeId}(h:Boxed A b t v)(q:A.grownBy B row)(s:∀r,row=some r->∃o:Obj,A.heap[r]?=some o/\o.isCells=false):Boxed B b t v:=
 h.kept q (fun e=>by
  obtain⟨o,j,D⟩:=s _ e.symm;rw[show A.heap[b]?=_ from h]at j;cases j;simp[Obj.isCells]at D)
theorem SD{X h:World}{M sz:Nat}{e:TypeId}{n:Nat}{xs:List Value}(j:X.ownsRow M e sz v n xs)(s:X.grownBy h row)(D:∀r,row=some r->∃o:Obj,X.heap[r]?=some o/\o.isCells=false):h.ownsRow M e sz v n xs:=by
 refine j.kept s ?_;rcases j.2 with⟨rfl,_⟩|⟨g,J,K,rfl,_,E,_⟩
 .exact .inl rfl
 .refine .inr (fun F=>?_);obtain⟨o,q,H⟩:=D g F.symm;rw[E]at q;cases q;simp[Obj.isCells]at H
def SE(x:It9)(pb:Nat)(W:World):Prop:=W.heap[pb]?=some (.cells #[.int .i64 x.2.1,.bool x.2.2] 231 (0,0))
theorem Vr{X j:World}{cs:Array Value}{T:TypeId}(h:X.heap[b]?=some (.cells cs T (0,0)))(s:X.grownBy j row)(D:∀r,row=some r->∃o:Obj,X.heap[r]?=some o/\o.isCells=false):j.heap[b]?=some (.cells cs T (0,0)):=
 (s.block b (Array.getElem?_eq_some_iff.1 h).1 (fun e=>by
  obtain⟨o,q,E⟩:=D b e.symm;rw[h]at q;cases q;simp[Obj.isCells]at E)).trans h
theorem Zb(B:Nat)(x:It9)(pb:Nat):OwnFrom B (fun(_:Unit) h=>SE x pb h):=fun _ _ _ _ j q s=>Vr j q (fun r e=>(s r e).2)
theorem zai:(prog.info? 3).map (fun i=>(i.zero,i.size,i.bytes))=some (some (.int .i64 0),1,8):=kR
end
def uN(o:Oper):Bool:=match o.op with
 | .defer _=>false
 |_=>true
theorem ZX{o:Oper}(h:uN o=true)(c:Call):o.op≠ .defer c:=by
 intro e;unfold uN at h;rw[e]at h;cases h
theorem vh(w:World)(d:Nat)(a c:Int)(b e:Bool):(Op.equalIn (d+1+1) 231 (.agg #[.int .i64 a,.bool b]) (.agg #[.int .i64 c,.bool e])).run prog w=.ok (a==c&&b==e) w:=by
 have s:=underlying231;obtain⟨fs,q⟩:∃fs,prog.underlying 231=some (.struct fs):=⟨_,s⟩
 have D:prog.fieldsOf 231=fs:=by unfold Program.fieldsOf;rw[q]
 have j:=q.symm.trans s;injection j with j
 injection j with j
 have h2:=fun(x y:Bool)=>run_equalIn_bool (P:=prog) w d 4 x y underlying4;rw[run_equalIn_struct w (d+1) _ _ _ (by rw[D];exact q) kR,D,j];by_cases E:a=c
 .simp [Op.eqFields,go_sem,h2,E,Result.andThen];by_cases F:b=e<;>simp[F]
 .simp [Op.eqFields,go_sem,E,Result.andThen]
theorem sE(w:World)(a c:Int)(b d:Bool):(binOp .neq 231 (.agg #[.int .i64 a,.bool b]) (.agg #[.int .i64 c,.bool d])).run prog w=.ok (.bool (!(a==c&&b==d))) w:=by
 simp only[binOp];simp[show Op.equal 231 (.agg #[.int .i64 a,.bool b]) (.agg #[.int .i64 c,.bool d])=Op.equalIn (9998+1+1) 231 (.agg #[.int .i64 a,.bool b]) (.agg #[.int .i64 c,.bool d])from rfl,vh w 9998 a c b d]
section
variable{n l0:Nat}{P:Program}{ops:Array Oper}{Q:Exit->Act->World->Prop}
theorem zaj{row:String}{args:Array Value}{R:Value->World->Prop}(h:Go.Rows P row args w R):RowsIn (Fence.wide.inRound l0) n P row args w R:=
 fun c cs _=>let⟨v,w',r,s⟩:=h c cs;⟨v,w',r,stepsIn_wide.2 s⟩
theorem SF{f:FuncId}{args:Array Value}{R:Ending->World->Prop}(h:Calls P f args w R):CallsIn (Fence.wide.inRound l0) n P f args w R:=
 CallsIn.inRound l0 (callsIn_wide.2 h)
theorem rt{o:Oper}{a:Act}{next:Act->World->Prop}{r:Result Next}(h:o.upon P a next Q r):o.uponIn (Fence.wide.inRound l0) n P a next Q r:=by
 unfold Oper.upon at h;split at h
 .exact h
 .exact h
 .exact h
 .exact ⟨(fun e=>by cases e),SF h⟩
 .exact ⟨(fun e=>by cases e),zaj h⟩
 .exact h
 .exact h.elim
theorem ru(E:¬LetsOut Q)(F:∀(j:Nat) (o:Oper),ops[j]?=some o->uN o=true){i:Nat}{s K':Act->World->Prop}(H:∀a w,s a w->K' a w){a:Act}(J:wpOp P ops Q i s a w):
  wpOpIn (Fence.wide.inRound l0) n P ops Q i K' a w:=by
 have h:=wpOp_mono H J;unfold wpOp at h;unfold wpOpIn;cases q:ops[i]? with
 |none=>simp only[q]at h⊢;exact h
 |some o=>
  have K:=F i o q;simp only[q]at h⊢;by_cases D:Region.wanted o (yielded ops a.tmps)=true
  .rw [if_pos D]at h⊢;rcases h with h|⟨-,h⟩
   .refine ⟨fun _ _=>trivial,?_⟩;rw[show(Fence.wide.inRound l0).round=some l0 from rfl,qYb _ _ _ (ZX K)];exact rt h
   .exact absurd h E
  .rw [if_neg D]at h⊢;exact⟨fun _ _=>trivial,h⟩
theorem xW(D:¬LetsOut Q)(s:Region.Mode)(E:∀(j:Nat) (o:Oper),ops[j]?=some o->uN o=true):∀(h:Nat) (F:Array Bool) (a:Act) (w:World),
  wpAny P s ops Q h F a w->wpAnyIn (Fence.wide.inRound l0) n P s ops Q h F a w
 |0,_,_,_,q=>q
 |h+1,_,_,_,q=>⟨q.1,fun i H=>ru D E (fun J w' K=>xW D s E h _ J w' K) (q.2 i H)⟩
theorem wI{S:World->Prop}{id:Nat}{a:Act}{l:List Oper}(j:¬LetsOut Q)(q:P.follows .mixedOrders=true)(s:l.all uN=true)(D:S w.drew)
  (E:S w.drew->wpAnyH P .any l.toArray Q S l.toArray.size (Array.replicate l.toArray.size false) a w.drew):(Code.region id l.toArray true).wpIn (Fence.wide.inRound l0) n P Q a w:=
 wpIn_region_any q (xW j .any (fun F o h=>qxu.1 s o (by rw[qyq]at h;exact List.mem_of_getElem? h)) _ _ _ _ (wpAny_of_held _ _ _ _ (E D)))
end
section
open Go.RowKit
theorem xF(h:Bk)(j:h=zB):∀w:World,(Instr.build 54 #[]).run prog w=.ok (.agg (bkC h).toArray) w:=by
 intro w;subst j;kernel_rfl
theorem zX{ops:Array Oper}{rest:List Oper}{op:Oper}{a:Act}{Q:Exit->Act->World->Prop}(j:op.guard=none)(q:op.op=.build 54 #[]){h:Bk}
  (s:∀w:World,(Instr.build 54 #[]).run prog w=.ok (.agg (bkC h).toArray) w)
  (D:wpList prog ops Q rest (a.put op.dst (.agg (bkC h).toArray)) w):wpList prog ops Q (op::rest) a w:=by
 refine qZb j fun F E=>?_;unfold Oper.wp;simp only[execOp,q,qzk,qzj,qYg,s,qYf];exact E _ _ D
theorem uj(h:Bk)(j:h=zB):∀w:World,(Instr.alloc 54 true (.tuple #[])).run prog w=.ok (.pointer (some ⟨w.heap.size,0,none⟩)) (w.alloc (.cells (bkC h).toArray 54)):=by
 intro w;subst j;kernel_rfl
theorem rv{P:Program}{ops:Array Oper}{o:Oper}{a:Act}{h:Act->World->Prop}{Q:Exit->Act->World->Prop}{E:Prop}(j:o.guard=none)(t:TypeId)(q:o.op=.alloc t)(cs:Array Value)
  (s:∀w:World,(Instr.alloc t true (.tuple #[])).run P w=.ok (.pointer (some ⟨w.heap.size,0,none⟩)) (w.alloc (.cells cs t)))
  (D:h (a.put o.dst (.pointer (some ⟨w.heap.size,0,none⟩))) (w.alloc (.cells cs t))):if Region.wanted o (yielded ops a.tmps)=true then Oper.wp P o a w h Q else E:=by
 have F:Region.wanted o (yielded ops a.tmps)=true:=by simp[Region.wanted,j]
 rw[if_pos F];unfold Oper.wp;simp only[execOp,q,qYg,s,qYf];exact D
theorem SG(n:Nat):madeCells #[Value.map none] (n*1)=Array.replicate n (Value.map none):=by
 apply Array.ext
 .simp [size_madeCells]
 .intro i h1 h2;have:i%1=0:=Nat.mod_one i;simp[madeCells,this]
theorem zak:(prog.info? 296).map (fun i=>(i.zero,i.size,i.bytes))=some (some (.map none),1,8):=kR
structure LgTo(W w:World)(g n k:Nat)(M:List (Nat×(Int->Bool))):Prop where
 sl:Sl w 296 1 (.slice (some ⟨g,0,none⟩) n n) n (LgC M++List.replicate (n-k) (.map none))
 len:M.length=k
 sets:∀p∈M,SetAt w p.1 4097 p.2/\p.2=fun _=>false
 nd:(M.map (·.1)).Nodup
 lo:∀p∈M,W.heap.size+2<=p.1
theorem zal(n s:Nat)(w:World)(H:∀E,w.heap.size<=E->S E)(h1:1<=n)(h2:n<=1024)(J:1<=s)(af:s<=4096):
  Calls prog 110 #[.int .i64 (n:Int),.int .i64 (s:Int)] w fun e w'=>∃b,e=.returned (.tuple #[.pointer (some ⟨b,0,none⟩),.int .i64 0])/\
   Lg S w' b s (List.replicate n (fun _=>false))/\Below w.heap.size w w'/\w.heap.size<=b:=by
 obtain⟨ag,a7,a8,aa,hz2⟩:=qYu zak;have ao:= @run_makeMap prog;have ah:∀w:World,(Instr.makeSlice 293 (.int .i64 n) (.int .i64 n)).run prog w=.ok (.slice (some ⟨w.heap.size,0,none⟩) n n) (w.alloc (.cells (Array.replicate n (Value.map none)) 296)):=by
  intro w;have:=run_make (P:=prog) w 293 296 ag (.map none) underlying293 a7 a8 .i64 .i64 n n oM oM jm oM;rw[this];simp only[qxs,aa,Value.cells];rw[SG]
 have q1:decide ((n:Int)<1)=false:=by simp;omega
 have q2:decide (1024<(n:Int))=false:=by simp;omega
 have ap:decide ((s:Int)<1)=false:=by simp;omega
 have aq:decide (4096<(s:Int))=false:=by simp;omega
 clear a7 a8 aa hz2;go_enter func110,ntmps110
 go_wp2
 have ab:((w.alloc (.cells (Array.replicate n (Value.map none)) 296)).alloc (.cells #[.int .i64 (s:Int),.slice (some ⟨w.heap.size,0,none⟩) n n] 295)).heap[w.heap.size]?=some (.cells (Array.replicate n (Value.map none)) 296):=by
  rw[qxk _ _ _ oe];exact zc w _ rfl
 have V:=zc (w.alloc (.cells (Array.replicate n (Value.map none)) 296)) (.cells #[.int .i64 (s:Int),.slice (some ⟨w.heap.size,0,none⟩) n n] 295) (n:=w.heap.size+1) oe;have R:=((qxl w.heap.size w).alloc (qXp _) (.cells (Array.replicate n (Value.map none)) 296)).alloc oe (.cells #[.int .i64 (s:Int),.slice (some ⟨w.heap.size,0,none⟩) n n] 295);have W:((w.alloc (.cells (Array.replicate n (Value.map none)) 296)).alloc (.cells #[.int .i64 (s:Int),.slice (some ⟨w.heap.size,0,none⟩) n n] 295)).heap.size=w.heap.size+2:=oe;have hsl:Sl ((w.alloc (.cells (Array.replicate n (Value.map none)) 296)).alloc (.cells #[.int .i64 (s:Int),.slice (some ⟨w.heap.size,0,none⟩) n n] 295)) 296 1 (.slice (some ⟨w.heap.size,0,none⟩) n n) n (List.replicate n (Value.map none)):=
  ⟨oe,.inr ⟨w.heap.size,0,n,_,rfl,ab,qXp _,by unfold maxLen;omega,oe,fun E u K=>by rw[qXy,<-List.toArray_replicate,qyq];exact K⟩⟩
 generalize (w.alloc (.cells (Array.replicate n (Value.map none)) 296)).alloc (.cells #[.int .i64 (s:Int),.slice (some ⟨w.heap.size,0,none⟩) n n] 295)=ai at*;have L:=Y5 V R W hsl H;clear ab V R W hsl H ah;go_loopw[32] (fun X wr=>∃k:Nat,k<=n/\X=.int .i64 k/\(∃M,LgTo w wr w.heap.size n k M)/\Upd (fun E=>E=w.heap.size) ai wr) (fun X _=>n-(intOf X).toNat)
 case atStart=>exact⟨0,oM,rfl,⟨[],by simpa using L.o.2.2.2.1,rfl,oe,oe,oe⟩,uur _ _⟩
 case round=>
  obtain⟨k,T,rfl,⟨M,j⟩,D⟩:=hrel;have F:=(D.block _ (zd L.o.1) oM).trans L.o.1;have c1:=za F 1;simp at c1;have hge:=D.size;have U:=L.o.2.2.1;by_cases hlt:k<n
  .have ar:(0:Int)<=(k:Int):=oM;have au:(k:Int)<(n:Int):=oM;obtain⟨av,aw,ax,ay,aj,O,ak,ad⟩:=j.sl.at oM;cases aj;have Y:=Y4 j D F T;have az:(wr.alloc (.map #[] 0)).cell? ⟨w.heap.size,k,none⟩=some (.map none):=by
    rw[za ((qxk _ _ _ (zd O)).trans O)];have am:(LgC M).length=k:=by simp[LgC,j.len]
    have:=ad k (.map none) (by rw[qyh oM,am,Nat.sub_self,qyn,if_pos oM]);simpa using this
   have aA:(wr.alloc (.map #[] 0)).frozen? ⟨w.heap.size,k,none⟩=false:=zg ((qxk _ _ _ (zd O)).trans O) k;clear j D F O ak ad T;have an:=Y2 U hge;clear U hge;go_wp2
   go_roundw
   case rel=>
    obtain⟨j,D,F,T⟩:=Y.o;obtain⟨U,hge⟩:=an.o;have Z:Upd (fun _=>False) wr (wr.alloc (.map #[] 0)):=(uur _ wr).alloc _;have a6:Upd (fun E=>E=w.heap.size) (wr.alloc (.map #[] 0)) ((wr.alloc (.map #[] 0)).setCell ⟨w.heap.size,k,none⟩ (.map (some wr.heap.size))):=zi _ _ _ _;refine⟨k+1,oM,by go_num,⟨M++[(wr.heap.size,fun _=>false)],?_,by simp[j.len],?_,?_,?_⟩,(D.trans (Z.mono fE)).trans a6⟩
    .have J:=(j.sl.keep Z (fun _ _ h=>h)).setAt k oM (.map (some wr.heap.size));rw[qXy]at J;have e:(LgC M++List.replicate (n-k) (Value.map none)).set k (.map (some wr.heap.size))=LgC (M++[(wr.heap.size,fun _=>false)])++List.replicate (n-(k+1)) (.map none):=by
      have:n-k=(n-(k+1))+1:=oM;rw[this,List.replicate_succ,qXe _ _ (by simp[j.len])];simp[j.len,LgC]
     rw[e]at J;exact J
    .intro p q;rcases qzl.1 q with q|q
     .refine ⟨((j.sets p q).1.keep Z id).keep a6 (fun e=>?_),(j.sets p q).2⟩;have:=j.lo p q;omega
     .simp at q;subst q;exact⟨((SetAt.made wr).mono oM).keep a6 (fun e=>by have aB:wr.heap.size=w.heap.size:=e;omega),rfl⟩
    .rw [qzg,qzv];refine⟨j.nd,oe,?_⟩;intro x hx y hy e;simp at hy;subst hy;obtain⟨p,q,rfl⟩:=qzq.1 hx;have:=(j.sets p q).1.lt;omega
    .intro p q;rcases qzl.1 q with q|q
     .exact j.lo p q
     .simp at q;subst q;show _<=wr.heap.size;omega
   case measure=>simp[intOf];omega
  .obtain rfl:k=n:=oM;have Y:=Y3 j D F;clear j D F T hge U;go_wp2
   go_ret2
   obtain⟨j,D,F⟩:=Y.o;obtain⟨V,R,W,-,H⟩:=L.o;have aC:∀p∈M,p.1<wr.heap.size:=fun p q=>(j.sets p q).1.lt;refine⟨w.heap.size+1,rfl,⟨.slice (some ⟨w.heap.size,0,none⟩) k k,M,⟨F,by have:=j.sl;rw[j.len];simpa using this,fun p q=>(j.sets p q).1,j.nd,fun p q=>⟨?_,?_⟩,by simp[Value.ownBlock],by rw[j.len];exact h2,⟨J,af⟩,fun p q aD ae=>?_⟩,?_,?_⟩,zj R D oM (fun E e=>oM),oM⟩
   .have:=j.lo p q;omega
   .have:=j.lo p q;simp[Value.ownBlock];omega
   .rw [(j.sets p q).2]at ae;simp at ae
   .apply qyc (by simp[j.len]);intro i h1 h2;simp only[qyt,List.getElem_replicate];exact(j.sets _ (qyu _)).2
   .rintro E (rfl|K|K)
    .exact H _ oM
    .simp [Value.ownBlock]at K;exact H _ oM
    .obtain ⟨p,q,rfl⟩:=qzq.1 K;exact H _ (by have:=j.lo p q;omega)
def secL(base n k:Nat):List Int:=(List.range n).map fun i=>if i<k then((base+i:Nat):Int)else 0
theorem Xu(base n k:Nat):(secL base n k).length=n:=by simp[secL]
theorem Qm(base n:Nat):secL base n 0=List.replicate n 0:=by
 apply qyc
 .simp [secL]
 .intro i h1 h2;simp[secL]
theorem SH(base n:Nat)(_hk:k<n):(secL base n k).set k ((base+k:Nat):Int)=secL base n (k+1):=by
 apply qyc
 .simp [secL]
 .intro i h1 h2;rw[qyw];simp only[secL,qyt,List.getElem_range];by_cases h:k=i
  .subst h;simp
  .rw [if_neg h];by_cases j:i<k
   .rw [if_pos j,if_pos oM]
   .rw [if_neg j,if_neg oM]
theorem SI(base n:Nat)(Y:n<=1024)(Z:base<=4096)(w:World):
  Calls prog 175 #[.int .i64 (base:Int),.int .i64 (n:Int)] w fun e w'=>∃g,e=.returned (.slice (some ⟨g,0,none⟩) n n)/\w'.heap[g]?=some (.cells (ints (secL base n n)).toArray 3 (0,0))/\w.heap.size<=g/\Below w.heap.size w w':=by
 have U:=Xj n oM w;obtain⟨w1,s⟩:=qqe (w.alloc (.cells (ints (List.replicate n 0)).toArray 3));have j:=zc w (.cells (ints (List.replicate n 0)).toArray 3) rfl;have K:Below w.heap.size w w1:=by rw[s];exact(qxl _ w).alloc (qXp _) _
 rw[<-s,<-Qm base n]at j;have H:=Y3 s j K;obtain⟨G,L⟩:=qqe (w.heap.size);have D:=qqh L;clear j K s L;go_enter func175,ntmps175
 go_upto_region 2 with fail
 rw[<-H.o.1,<-D.o];clear U;go_wp2_with fail
 go_loopg[11] n (fun gk V wr=>∃k:Nat,k+gk=n/\V=.int .i64 (k:Int)/\wr.heap[G]?=some (.cells (ints (secL base n k)).toArray 3 (0,0))/\Upd (fun O=>O=G) w1 wr)
 case atStart=>exact⟨0,oM,rfl,by rw[D.o];exact H.o.2.1,uur _ _⟩
 case round=>
  obtain⟨k,a6,rfl,j,E⟩:=hrel;by_cases hlt:k<n
  .have W:(k:Int)<(n:Int):=oM;have a7:(0:Int)<=(k:Int):=oM;have a8:=zg j k;have R:∃v,wr.cell? ⟨G,k,none⟩=some v:=by
    rw[za j,qxe (by rw[qXh,xl,Xu];omega)];exact⟨_,rfl⟩
   obtain⟨v0,R⟩:=R;have F:=zh j k (.int .i64 ((base+k:Nat):Int));rw[qXd,Xk,SH base n hlt]at F;have J:=E.trans (zi wr G k (.int .i64 ((base+k:Nat):Int)));have T:((base+k:Nat):Int)=(base:Int)+(k:Int):=oe;rw[T]at F J;have q:=Y2 F J;clear j E F J T;go_wp2_with fail
   go_roundg (gk-1)
   case measure=>omega
   case rel=>exact⟨k+1,oM,by go_num,q.o.1,q.o.2⟩
  .obtain rfl:k=n:=oM;have W:¬((k:Int)<(k:Int)):=oM;have q:=Y2 j E;clear j E;go_wp2_with fail
   go_ret
   exact⟨G,rfl,q.o.1,Nat.le_of_eq D.o.symm,zj H.o.2.2 q.o.2 (qXp _) (fun O X=>Nat.le_of_eq (by rw[X,D.o]))⟩
end
end Go.Proofs.YtbnpkobbnjihjaaGreatDoor
