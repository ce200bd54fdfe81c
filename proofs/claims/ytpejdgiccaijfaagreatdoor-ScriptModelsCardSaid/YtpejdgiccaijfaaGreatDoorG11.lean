/- A ledger in me -/
import Derived.Test.YtpejdgiccaijfaaGreatDoorG07
import Derived.Test.YtpejdgiccaijfaaGreatDoorG09
import Derived.Test.YtpejdgiccaijfaaGreatDoorG08
set_option maxRecDepth 100000
set_option maxHeartbeats 2000000
namespace Go.Proofs.YtpejdgiccaijfaaGreatDoor
open Go Go.RowKit Tryz
section
abbrev LgC(M:List (Nat×(Int->Bool))):List Value:=M.map fun p=> .map (some p.1)
structure LgAt(w:World)(b:Nat)(v:Value)(blocks:Nat)(M:List (Nat×(Int->Bool))):Prop where
 str:w.heap[b]?=some (.cells #[.int .i64 blocks,v] 329 (0,0))
 sl:Sl w 330 1 v M.length (LgC M)
 sets:∀p∈M,SetAt w p.1 4097 p.2
 nd:(M.map (·.1)).Nodup
 mb:∀p∈M,p.1≠b/\v.ownBlock≠some p.1
 vb:v.ownBlock≠some b
 len:M.length<=1024
 bl:1<=blocks/\blocks<=4096
 rg:∀p∈M,∀s:Int,p.2 s=true->-1<=s/\s<(blocks:Int)
def lgS(b:Nat)(v:Value)(M:List (Nat×(Int->Bool))):Nat->Prop:=fun j=>j=b\/v.ownBlock=some j\/j∈M.map (·.1)
section
variable{w w':World}{b blocks:Nat}{v:Value}{M:List (Nat×(Int->Bool))}
theorem LgAt.keep(h:LgAt w b v blocks M){S:Nat->Prop}(hu:Upd S w w')(hs:∀j,lgS b v M j->¬S j):LgAt w' b v blocks M:=
 {h with
  str:=(hu.block _ (zd h.str) (hs b (.inl rfl))).trans h.str
  sl:=h.sl.keep hu (fun g hg=>hs g (.inr (.inl hg)))
  sets:=fun p hp=>(h.sets p hp).keep hu (hs p.1 (.inr (.inr (qzq.2 ⟨p,hp,rfl⟩))))}
theorem LgAt.new(h:LgAt w b v blocks M)(hu:Upd (fun _=>False) w w'):LgAt w' b v blocks M:=h.keep hu (fun _ _ h=>h)
theorem LgAt.slt(h:LgAt w b v blocks M):∀j,lgS b v M j->j<w.heap.size:=by
 rintro j (rfl|hj|hj)
 .exact zd h.str
 .exact h.sl.lt hj
 .obtain ⟨p,hp,rfl⟩:=qzq.1 hj;exact(h.sets p hp).lt
theorem LgAt.c(h:LgAt w b v blocks M):w.cell? ⟨b,0,none⟩=some (.int .i64 blocks)/\w.cell? ⟨b,1,none⟩=some v:=by
 refine⟨?_,?_⟩<;>rw[za h.str]<;>rfl
theorem LgAt.at(h:LgAt w b v blocks M){k:Nat}(hk:k<M.length):∃g off cap,v=.slice (some ⟨g,off,none⟩) M.length cap/\w.cell? ⟨g,off+k,none⟩=some (.map (some M[k].1)):=by
 obtain⟨g,off,cap,cur,rfl,hg,hs,hc⟩:=h.sl.at oM;refine⟨g,off,cap,rfl,?_⟩;rw[za hg];exact hc k _ (by simp[LgC,hk])
theorem qO{M:List (Nat×(Int->Bool))}{k:Nat}(hk:k<M.length)(A:Int->Bool):(M.set k (M[k].1,A)).map (·.1)=M.map (·.1):=by
 apply qyc oe;intro i h1 h2;simp only[qyt,qyw];split
 .rename_i e;subst e;rfl
 .rfl
theorem JK{M:List (Nat×(Int->Bool))}{k:Nat}(hk:k<M.length)(A:Int->Bool):LgC (M.set k (M[k].1,A))=LgC M:=by
 have h:∀M:List (Nat×(Int->Bool)),LgC M=(M.map (·.1)).map fun b=>Value.map (some b):=fun M=>by simp[LgC]
 rw[h,h,qO hk]
theorem LgAt.turn(h:LgAt w b v blocks M){k:Nat}(hk:k<M.length)(hu:Upd (fun j=>j=M[k].1) w w'){A:Int->Bool}(hs:SetAt w' M[k].1 4097 A)(hr:∀s:Int,A s=true->-1<=s/\s<(blocks:Int)):
  LgAt w' b v blocks (M.set k (M[k].1,A)):=by
 have hmk:=h.mb M[k] (qyu hk);exact{h with
  str:=(hu.block _ (zd h.str) (fun e=>hmk.1 e.symm)).trans h.str
  sl:=by rw[JK hk,qze];exact h.sl.keep hu (fun g hg e=>hmk.2 jR)
  sets:=fun p hp=>by
   obtain⟨i,hi,rfl⟩:=qyv hp;simp only[qze]at hi;rw[qyw];split
   .exact hs
   .rename_i hne
    refine(h.sets _ (qyu hi)).keep hu (fun e=>hne ?_);have:=(List.getElem_inj (i:=i) (j:=k) (h₀:=by simpa using hi) (h₁:=by simpa using hk) h.nd).1 (by simpa using e);exact this.symm
  nd:=by rw[qO hk];exact h.nd
  mb:=fun p hp=>by
   have:p.1∈(M.set k (M[k].1,A)).map (·.1):=qzq.2 ⟨p,hp,rfl⟩;rw[qO hk]at this;obtain⟨q,hq,hqe⟩:=qzq.1 this;rw[<-hqe];exact h.mb q hq
  len:=by rw[qze];exact h.len
  rg:=fun p hp s hps=>by
   obtain⟨i,hi,rfl⟩:=qyv hp;simp only[qze]at hi;rw[qyw]at hps;split at hps
   .exact hr s hps
   .exact h.rg _ (qyu hi) s hps}
end
def Lg(S:Nat->Prop)(w:World)(b blocks:Nat)(G:List (Int->Bool)):Prop:=∃v M,LgAt w b v blocks M/\M.map (·.2)=G/\∀j,lgS b v M j->S j
theorem Lg.kB(b blocks:Nat)(G:List (Int->Bool)):Thing (fun S w=>Lg S w b blocks G)where
 keep:=fun h hu hs=>by
  obtain⟨v,M,h,hG,hS⟩:=h;exact⟨v,M,h.keep hu (fun j hj=>hs j (hS j hj)),hG,hS⟩
 out:=fun h hs=>by
  obtain⟨v,M,h,hG,hS⟩:=h;exact⟨v,M,h,hG,fun j hj=>hs j (h.slt j hj) (hS j hj)⟩
theorem tX{w:World}{b blocks:Nat}{v:Value}{M:List (Nat×(Int->Bool))}(h:LgAt w b v blocks M)(k:Nat)(hk:k<M.length):
  Calls prog 282 #[.pointer (some ⟨b,0,none⟩),.int .i64 (k:Int)] w fun e w'=>e=.returned (.int .i64 0)/\w=w':=by
 obtain⟨-,g1⟩:=h.c;obtain⟨g,off,cap,rfl,-⟩:=h.at hk;have hl:=h.len;have q1:decide ((k:Int)<0)=false:=oe;have q2:decide ((k:Int)>=(M.length:Int))=false:=by simp;omega
 have q3:decide ((M.length:Int)<=(k:Int))=false:=by simp;omega
 have q4:decide (M.length<=k)=false:=by simp;omega
 clear h;go_enter func282,ntmps282
 go_wp2
 go_ret
 exact⟨rfl,rfl⟩
theorem zcz{w:World}{mb N:Nat}{A:Int->Bool}(h:SetAt w mb N A):
  Calls prog 283 #[.map (some mb)] w fun e w'=>e=.returned (.bool (A (-1)))/\Below w.heap.size w w':=by
 have hl:=h.look (x:= -1) (by unfold InR;omega);clear h;go_enter func283,ntmps283
 go_wp2
 go_ret
 exact⟨rfl,(qxl _ _).alloc (qXo _) _⟩
def putA(A:Int->Bool)(x:Int):Int->Bool:=if x≠-1/\A (-1)=true then A else updB (if x= -1 then fun _=>false else A) x true
theorem JL{A:Int->Bool}{x:Int}{n:Nat}(hA:∀s:Int,A s=true->-1<=s/\s<(n:Int))(hx:x= -1\/0<=x/\x<(n:Int))(hn:1<=n):∀s:Int,putA A x s=true->-1<=s/\s<(n:Int):=by
 intro s hs;unfold putA at hs;split at hs
 .exact hA s hs
 .unfold updB at hs;split at hs
  .omega
  .split at hs
   .simp at hs
   .exact hA s hs
def PutL(w:World)(b blocks:Nat)(v:Value)(M:List (Nat×(Int->Bool)))(k:Nat)(hk:k<M.length)(A:Int->Bool)(e:Ending)(w':World):Prop:=
 e=.returned (.int .i64 0)/\LgAt w' b v blocks (M.set k (M[k].1,A))/\Upd (fun j=>j=M[k].1) w w'
theorem JM{w:World}{b blocks:Nat}{v:Value}{M:List (Nat×(Int->Bool))}(h:LgAt w b v blocks M)(k:Nat)(hk:k<M.length)(x:Int)(hx:x= -1\/(0<=x/\x<(blocks:Int))):
  Calls prog 212 #[.pointer (some ⟨b,0,none⟩),.int .i64 (k:Int),.int .i64 x] w (PutL w b blocks v M k hk (putA M[k].2 x)):=by
 have hmap:LgAt w b v blocks (M.set k (M[k].1,M[k].2)):=by
  have:M.set k (M[k].1,M[k].2)=M:=by apply qyc oe;intro i h1 h2;rw[qyw];split;(rename_i e;subst e;rfl);rfl
  rw[this];exact h
 have hset:=h.sets M[k] (qyu hk);have hrg:=h.rg M[k] (qyu hk);have hbl:=h.bl;have hl:=h.len;obtain⟨g0,g1⟩:=h.c;obtain⟨g,off,cap,rfl,gk⟩:=h.at hk;have b1:(0:Int)<=(k:Int):=oM;have b2:(k:Int)<(M.length:Int):=oM;have hrg2:=JL hrg hx hbl.1;have HP:=Y5 hmap hset hrg h hrg2;clear hmap hset hrg h hrg2;by_cases h1:x= -1
 .have e1:putA M[k].2 x=updB (fun _=>false) x true:=by unfold putA;rw[if_neg (fun h=>h.1 h1),if_pos h1]
  rw[e1]at HP⊢;subst h1;clear e1 hx;obtain⟨w2,hr2,hs2,hu2,hz2⟩:=(HP.o.2.1).clear;obtain⟨w3,hr3,hs3,hu3,hz3⟩:=hs2.store (x:= -1) (by unfold InR;omega) oj;have HE:Hid (PutL w b blocks (.slice (some ⟨g,off,none⟩) M.length cap) M k hk (updB (fun _=>false) (-1) true) (.returned (.int .i64 0)) w3):=
   ⟨rfl,HP.o.2.2.2.1.turn hk (hu2.trans hu3) ((hs3.tight blocks HP.o.2.2.2.2).mono oM) HP.o.2.2.2.2,hu2.trans hu3⟩
  clear hs2 hu2 hz2 hs3 hu3 hz3;go_enter func212,ntmps212
  go_wp2_with (first
   |(go_at_call 282;refine(tX HP.o.2.2.2.1 k hk).mono ?_;rintro e w' ⟨rfl,rfl⟩)
   |fail)
  go_ret
  exact HE.o
 .have hx':0<=x/\x<(blocks:Int):=hx.resolve_left h1;obtain⟨c1,c2⟩:=hx';have q1:(x != -1)=true:=by rw[bne_iff_ne];exact h1
  have q2:decide (x<0)=false:=by simp;omega
  have q3:decide (x>=(blocks:Int))=false:=by simp;omega
  have q4:decide ((blocks:Int)<=x)=false:=by simp;omega
  have q5:(x== -1)=false:=by rw[qYo];exact h1
  by_cases h2:M[k].2 (-1)=true
  .have e1:putA M[k].2 x=M[k].2:=by unfold putA;rw[if_pos ⟨h1,h2⟩]
   rw[e1]at HP⊢;have hany:Calls prog 283 #[.map (some M[k].1)] w fun e w'=>e=.returned (.bool true)/\Below w.heap.size w w':=(zcz HP.o.2.1).mono (fun e w' h=>⟨by rw[h.1,h2],h.2⟩);clear e1 hx h1 h2;go_enter func212,ntmps212
   go_wp2_with (first
    |(go_at_call 282;refine(tX HP.o.2.2.2.1 k hk).mono ?_;rintro e w' ⟨rfl,rfl⟩)
    |(go_at_call 283;refine hany.mono ?_;rintro e w1 ⟨rfl,hb1⟩)
    |fail)
   go_ret
   exact⟨rfl,HP.o.1.new (uuo hb1),uuo hb1⟩
  .have e1:putA M[k].2 x=updB M[k].2 x true:=by unfold putA;rw[if_neg (fun h=>h2 h.2),if_neg h1]
   rw[e1]at HP⊢;have h2':M[k].2 (-1)=false:=by simpa using h2
   have hany:Calls prog 283 #[.map (some M[k].1)] w fun e w'=>e=.returned (.bool false)/\Below w.heap.size w w':=(zcz HP.o.2.1).mono (fun e w' h=>⟨by rw[h.1,h2'],h.2⟩);clear e1 hx h1 h2 h2';go_enter func212,ntmps212
   go_wp2_with (first
    |(go_at_call 282;refine(tX HP.o.2.2.2.1 k hk).mono ?_;rintro e w' ⟨rfl,rfl⟩)
    |fail)
   refine hany.mono ?_;rintro e w1 ⟨rfl,hb1⟩;have hu1:=qqb hb1;have h1:=HP.o.2.2.2.1.new hu1;obtain⟨w3,hr3,hs3,hu3,hz3⟩:=(HP.o.2.1.keep hu1 id).store (x:=x) (by unfold InR;omega) oj;have HE:Hid (PutL w b blocks (.slice (some ⟨g,off,none⟩) M.length cap) M k hk (updB M[k].2 x true) (.returned (.int .i64 0)) w3):=
    ⟨rfl,h1.turn hk hu3 ((hs3.tight blocks HP.o.2.2.2.2).mono oM) HP.o.2.2.2.2,(hu1.mono fE).trans hu3⟩
   clear hs3 hu3 hz3 h1 hu1 hb1;go_wp2
   go_ret
   exact HE.o
def Zv(G:List (Int->Bool))(k:Nat)(x:Int):List (Int->Bool):=G.modify k (fun A=>putA A x)
def scrubG(G:List (Int->Bool))(k:Nat):List (Int->Bool):=G.modify k (fun _ _=>false)
theorem sI{M:List (Nat×(Int->Bool))}{k:Nat}(hk:k<M.length)(f:(Int->Bool)->Int->Bool):(M.set k (M[k].1,f M[k].2)).map (·.2)=(M.map (·.2)).modify k f:=by
 apply qyc oe;intro i h1 h2;simp only[qyt,qyw,List.getElem_modify];split
 .rename_i e;subst e;rfl
 .rfl
theorem zdR{S:Nat->Prop}{w:World}{b blocks:Nat}{G:List (Int->Bool)}(h:Lg S w b blocks G)(k:Nat)(hk:k<G.length)(x:Int)(hx:x= -1\/(0<=x/\x<(blocks:Int))):
  Calls prog 212 #[.pointer (some ⟨b,0,none⟩),.int .i64 (k:Int),.int .i64 x] w fun e w'=>e=.returned (.int .i64 0)/\Lg S w' b blocks (Zv G k x)/\Upd S w w':=by
 obtain⟨v,M,h,rfl,hS⟩:=h;have hk':k<M.length:=by simpa using hk
 refine(JM h k hk' x hx).mono ?_;rintro e w' ⟨rfl,h2,hu⟩;refine⟨rfl,⟨v,_,h2,sI hk' (fun A=>putA A x),fun j hj=>hS j ?_⟩,hu.mono (fun j _ hj=>hS j (.inr (.inr oW)))⟩;rcases hj with hj|hj|hj
 .exact .inl hj
 .exact .inr (.inl hj)
 .rw [qO hk']at hj;exact .inr (.inr hj)
theorem zac{S:Nat->Prop}{w:World}{b blocks:Nat}{G:List (Int->Bool)}(h:Lg S w b blocks G)(k:Nat)(hk:k<G.length):
  Calls prog 215 #[.pointer (some ⟨b,0,none⟩),.int .i64 (k:Int)] w fun e w'=>e=.returned (.int .i64 0)/\Lg S w' b blocks (scrubG G k)/\Upd S w w':=by
 obtain⟨v,M,h,rfl,hS⟩:=h;have hk':k<M.length:=by simpa using hk
 clear hk;have hset:=h.sets M[k] (qyu hk');obtain⟨w2,hr2,hs2,hu2,hz2⟩:=hset.clear;have h2:=h.turn hk' hu2 hs2 (fun s hs=>by simp at hs);have HE:Hid (Lg S w2 b blocks (scrubG (M.map (·.2)) k)/\Upd S w w2):=by
  refine⟨⟨v,_,h2,sI hk' (fun _ _=>false),fun j hj=>hS j ?_⟩,hu2.mono (fun j _ hj=>hS j (.inr (.inr oW)))⟩;rcases hj with hj|hj|hj
  .exact .inl hj
  .exact .inr (.inl hj)
  .rw [qO hk']at hj;exact .inr (.inr hj)
 have hl:=h.len;obtain⟨-,g1⟩:=h.c;obtain⟨g,off,cap,rfl,gk⟩:=h.at hk';have b1:(0:Int)<=(k:Int):=oM;have b2:(k:Int)<(M.length:Int):=oM;have HP:=qqh h;clear h hset hs2 hu2 hz2 h2 hS;go_enter func215,ntmps215
 go_wp2_with (first
  |(go_at_call 282;refine(tX HP.o k hk').mono ?_;rintro e w' ⟨rfl,rfl⟩)
  |fail)
 go_ret
 exact⟨rfl,HE.o⟩
theorem Dv.kB(b:Nat)(F:List Bk)(O:List (Nat×Bk))(P:List Int):Thing (fun S w=>Dv S w b F O P)where
 keep:=fun h hu hs=>h.keep hu hs
 out:=fun h hs=>h.out hs
theorem Ck.kB(b N most few:Nat)(K:List Int)(A:Int->Bool)(G:List Int):Thing (fun S w=>Ck S w b N most few K A G)where
 keep:=fun h hu hs=>h.keep hu hs
 out:=fun h hs=>h.out hs
def Ix(S:Nat->Prop)(w:World)(b N:Nat)(ps:List (Int×Bool))(slots:Nat):Prop:=∃v mb,IndexAt w b v mb N ps slots/\S b/\∀j,ixS v mb j->S j
theorem Ix.kB(b N:Nat)(ps:List (Int×Bool))(slots:Nat):Thing (fun S w=>Ix S w b N ps slots)where
 keep:=fun⟨v,mb,h,hb,hs⟩ hu hd=>⟨v,mb,h.keep hu (hd _ hb) (fun j hj=>hd _ (hs j hj)),hb,hs⟩
 out:=fun⟨v,mb,h,hb,hs⟩ ho=>⟨v,mb,h,ho _ h.blt hb,fun j hj=>ho _ (h.slt j hj) (hs j hj)⟩
def Ss(S:Nat->Prop)(w:World)(b:Nat)(l:List Int):Prop:=∃v,SlotsAt 326 w b v l/\S b/\∀j,v.ownBlock=some j->S j
theorem Ss.kB(b:Nat)(l:List Int):Thing (fun S w=>Ss S w b l)where
 keep:=fun⟨v,h,hb,hs⟩ hu hd=>⟨v,h.keep hu (hd _ hb) (fun j hj=>hd _ (hs j hj)),hb,hs⟩
 out:=fun⟨v,h,hb,hs⟩ ho=>⟨v,h,ho _ (zd h.str) hb,fun j hj=>ho _ (h.sl.lt hj) (hs j hj)⟩
def Mp(S:Nat->Prop)(w:World)(mb N:Nat)(f:Int->Option Nat):Prop:=MapAt w mb N f/\S mb
theorem Mp.kB(mb N:Nat)(f:Int->Option Nat):Thing (fun S w=>Mp S w mb N f)where
 keep:=fun⟨h,hs⟩ hu hd=>⟨h.keep hu (hd _ hs),hs⟩
 out:=fun⟨h,hs⟩ ho=>⟨h,ho _ h.lt hs⟩
structure CaN where
 id:Nat
 bl:Nat
 sl:Nat
 jo:Nat
 pa:Nat
 lo:Nat
 ba:Nat
structure CaP where
 ssd:Nat
 back:Nat
 jr:Nat
 ix:Nat
 ss:Nat
 lg:Nat
 ck:Nat
 sm:Nat
structure CaS where
 which:Nat
 dF:List Bk
 dO:List (Nat×Bk)
 dP:List Int
 bF:List Bk
 bO:List (Nat×Bk)
 bP:List Int
 cov:Nat
 next:Nat
 W:List (Nat×Bk)
 iN:Nat
 ps:List (Int×Bool)
 st:List Int
 G:List (Int->Bool)
 kN:Nat
 K:List Int
 A:Int->Bool
 H:List Int
 mN:Nat
 sums:Int->Option Nat
def CaN.size(n:CaN):Nat:=1+2*n.pa+n.jo+n.lo+n.lo+n.lo+n.sl
def CaN.C(n:CaN):List Value:=superC n.id n.bl n.sl n.jo n.pa n.lo n.ba
structure CaN.Ok(n:CaN):Prop where
 b1:1<=n.bl
 b2:n.bl<=4096
 s1:1<=n.sl
 s2:n.sl<=1024
 j1:4<=n.jo
 j2:n.jo<=1024
 l1:1<=n.lo
 l2:n.lo<=1024
 a1:1<=n.ba
 a2:n.ba<=64
 p1:(n.sl-1)/4+1<=n.pa
 p2:n.pa<=4096
 z:n.size<=4096
abbrev ptr(b:Nat):Value:=.pointer (some ⟨b,0,none⟩)
def caC(n:CaN)(p:CaP)(which:Nat):List Value:=
 n.C++(layC n.sl n.jo n.pa n.lo++[ptr p.ssd,ptr p.back,.int .i64 which,ptr p.jr,ptr p.ix,ptr p.ss,ptr p.lg,ptr p.ck,.map (some p.sm)])
structure CaAt(own:Nat->Nat)(w:World)(c:Nat)(n:CaN)(p:CaP)(a:CaS):Prop where
 str:w.heap[c]?=some (.cells (caC n p a.which).toArray 170 (0,0))
 oc:own c=1
 ok:n.Ok
 ssd:Dv (fun j=>own j=2) w p.ssd a.dF a.dO a.dP
 back:Dv (fun j=>own j=3) w p.back a.bF a.bO a.bP
 jr:Jn (fun j=>own j=4) w p.jr p.ssd (1+2*n.pa) n.jo a.cov a.next a.W
 ix:Ix (fun j=>own j=5) w p.ix a.iN a.ps n.sl
 ss:Ss (fun j=>own j=6) w p.ss a.st
 lg:Lg (fun j=>own j=7) w p.lg n.bl a.G
 ck:Ck (fun j=>own j=8) w p.ck a.kN n.sl n.sl a.K a.A a.H
 sm:Mp (fun j=>own j=9) w p.sm a.mN a.sums
 far:∀j,w.heap.size<=j->own j=0
 nib:Nib w
 tur:Tur w
 on:own 0=0
 ot:own 1=0
 fl:a.dF.length=n.size
 gl:a.bF.length=n.bl
 pl:a.ps.length=n.bl
 sl:a.st.length=n.sl
 Gl:a.G.length=n.sl
 wh:a.which<=1
section
variable{own:Nat->Nat}{w w':World}{c:Nat}{n:CaN}{p:CaP}{a:CaS}
theorem CaAt.clt(h:CaAt own w c n p a):c<w.heap.size:=zd h.str
theorem CaAt.new(h:CaAt own w c n p a)(hu:Upd (fun _=>False) w w'):CaAt own w' c n p a:=
 {h with
  str:=(hu.block c h.clt id).trans h.str
  ssd:=(Dv.kB _ _ _ _).new h.ssd hu
  back:=(Dv.kB _ _ _ _).new h.back hu
  jr:=(Jn.kB _ _ _ _ _ _ _).new h.jr hu
  ix:=(Ix.kB _ _ _ _).new h.ix hu
  ss:=(Ss.kB _ _).new h.ss hu
  lg:=(Lg.kB _ _ _).new h.lg hu
  ck:=(Ck.kB _ _ _ _ _ _ _).new h.ck hu
  sm:=(Mp.kB _ _ _).new h.sm hu
  far:=fun j hj=>h.far j (qXq hu.size hj)
  nib:=h.nib.keep hu id
  tur:=h.tur.keep hu id }
end
section
variable{own:Nat->Nat}{w w':World}{c:Nat}{n:CaN}{p:CaP}{a:CaS}
theorem CaAt.kx(h:CaAt own w c n p a){F:List Bk}{O:List (Nat×Bk)}{P:List Int}(hu:Upd (fun j=>own j=2\/w.heap.size<=j) w w')(hd:Dv (fun j=>own j=2\/w.heap.size<=j) w' p.ssd F O P)(hl:F.length=a.dF.length):
  CaAt (grow own 2 w.heap.size w'.heap.size) w' c n p {a with dF:=F,dO:=O,dP:=P}:=
 {h with
  str:=(hu.block c h.clt (fun hs=>by rcases hs with hs|hs;rw[h.oc]at hs;exact absurd hs de;exact absurd h.clt oM)).trans h.str
  oc:=(zw h.clt).trans h.oc
  ssd:=(Dv.kB _ _ _ _).mine hu.size hd
  back:=(Dv.kB _ _ _ _).other h.back de hu
  jr:=(Jn.kB _ _ _ _ _ _ _).other h.jr de hu
  ix:=(Ix.kB _ _ _ _).other h.ix de hu
  ss:=(Ss.kB _ _).other h.ss de hu
  lg:=(Lg.kB _ _ _).other h.lg de hu
  ck:=(Ck.kB _ _ _ _ _ _ _).other h.ck de hu
  sm:=(Mp.kB _ _ _).other h.sm de hu
  far:=(Did.step h.far (t:=2) de de hu).far
  nib:=h.nib.keep hu (fun hs=>by rcases hs with hs|hs;rw[h.on]at hs;exact absurd hs de;exact absurd h.nib.lt oM)
  tur:=h.tur.keep hu (fun hs=>by rcases hs with hs|hs;rw[h.ot]at hs;exact absurd hs de;exact absurd h.tur.lt oM)
  on:=(zw h.nib.lt).trans h.on
  ot:=(zw h.tur.lt).trans h.ot
  fl:=hl.trans h.fl
 }
theorem CaAt.did2(h:CaAt own w c n p a)(hu:Upd (fun j=>own j=2\/w.heap.size<=j) w w'):Did own (grow own 2 w.heap.size w'.heap.size) w w':=Did.step h.far de de hu
theorem CaAt.kA(h:CaAt own w c n p a):Dv (fun j=>own j=2\/w.heap.size<=j) w p.ssd a.dF a.dO a.dP:=(Dv.kB _ _ _ _).open h.ssd
theorem CaAt.turn3(h:CaAt own w c n p a){F:List Bk}{O:List (Nat×Bk)}{P:List Int}(hu:Upd (fun j=>own j=3\/w.heap.size<=j) w w')(hd:Dv (fun j=>own j=3\/w.heap.size<=j) w' p.back F O P)(hl:F.length=a.bF.length):
  CaAt (grow own 3 w.heap.size w'.heap.size) w' c n p {a with bF:=F,bO:=O,bP:=P}:=
 {h with
  str:=(hu.block c h.clt (fun hs=>by rcases hs with hs|hs;rw[h.oc]at hs;exact absurd hs de;exact absurd h.clt oM)).trans h.str
  oc:=(zw h.clt).trans h.oc
  ssd:=(Dv.kB _ _ _ _).other h.ssd de hu
  back:=(Dv.kB _ _ _ _).mine hu.size hd
  jr:=(Jn.kB _ _ _ _ _ _ _).other h.jr de hu
  ix:=(Ix.kB _ _ _ _).other h.ix de hu
  ss:=(Ss.kB _ _).other h.ss de hu
  lg:=(Lg.kB _ _ _).other h.lg de hu
  ck:=(Ck.kB _ _ _ _ _ _ _).other h.ck de hu
  sm:=(Mp.kB _ _ _).other h.sm de hu
  far:=(Did.step h.far (t:=3) de de hu).far
  nib:=h.nib.keep hu (fun hs=>by rcases hs with hs|hs;rw[h.on]at hs;exact absurd hs de;exact absurd h.nib.lt oM)
  tur:=h.tur.keep hu (fun hs=>by rcases hs with hs|hs;rw[h.ot]at hs;exact absurd hs de;exact absurd h.tur.lt oM)
  on:=(zw h.nib.lt).trans h.on
  ot:=(zw h.tur.lt).trans h.ot
  gl:=hl.trans h.gl
 }
theorem CaAt.did3(h:CaAt own w c n p a)(hu:Upd (fun j=>own j=3\/w.heap.size<=j) w w'):Did own (grow own 3 w.heap.size w'.heap.size) w w':=Did.step h.far de de hu
theorem CaAt.open3(h:CaAt own w c n p a):Dv (fun j=>own j=3\/w.heap.size<=j) w p.back a.bF a.bO a.bP:=(Dv.kB _ _ _ _).open h.back
theorem CaAt.turn4(h:CaAt own w c n p a){cov next:Nat}{W:List (Nat×Bk)}(hu:Upd (fun j=>own j=4\/w.heap.size<=j) w w')(hd:Jn (fun j=>own j=4\/w.heap.size<=j) w' p.jr p.ssd (1+2*n.pa) n.jo cov next W):
  CaAt (grow own 4 w.heap.size w'.heap.size) w' c n p {a with cov:=cov,next:=next,W:=W}:=
 {h with
  str:=(hu.block c h.clt (fun hs=>by rcases hs with hs|hs;rw[h.oc]at hs;exact absurd hs de;exact absurd h.clt oM)).trans h.str
  oc:=(zw h.clt).trans h.oc
  ssd:=(Dv.kB _ _ _ _).other h.ssd de hu
  back:=(Dv.kB _ _ _ _).other h.back de hu
  jr:=(Jn.kB _ _ _ _ _ _ _).mine hu.size hd
  ix:=(Ix.kB _ _ _ _).other h.ix de hu
  ss:=(Ss.kB _ _).other h.ss de hu
  lg:=(Lg.kB _ _ _).other h.lg de hu
  ck:=(Ck.kB _ _ _ _ _ _ _).other h.ck de hu
  sm:=(Mp.kB _ _ _).other h.sm de hu
  far:=(Did.step h.far (t:=4) de de hu).far
  nib:=h.nib.keep hu (fun hs=>by rcases hs with hs|hs;rw[h.on]at hs;exact absurd hs de;exact absurd h.nib.lt oM)
  tur:=h.tur.keep hu (fun hs=>by rcases hs with hs|hs;rw[h.ot]at hs;exact absurd hs de;exact absurd h.tur.lt oM)
  on:=(zw h.nib.lt).trans h.on
  ot:=(zw h.tur.lt).trans h.ot
 }
theorem CaAt.did4(h:CaAt own w c n p a)(hu:Upd (fun j=>own j=4\/w.heap.size<=j) w w'):Did own (grow own 4 w.heap.size w'.heap.size) w w':=Did.step h.far de de hu
theorem CaAt.open4(h:CaAt own w c n p a):Jn (fun j=>own j=4\/w.heap.size<=j) w p.jr p.ssd (1+2*n.pa) n.jo a.cov a.next a.W:=(Jn.kB _ _ _ _ _ _ _).open h.jr
theorem CaAt.turn5(h:CaAt own w c n p a){N:Nat}{ps:List (Int×Bool)}(hu:Upd (fun j=>own j=5\/w.heap.size<=j) w w')(hd:Ix (fun j=>own j=5\/w.heap.size<=j) w' p.ix N ps n.sl)(hl:ps.length=a.ps.length):
  CaAt (grow own 5 w.heap.size w'.heap.size) w' c n p {a with iN:=N,ps:=ps}:=
 {h with
  str:=(hu.block c h.clt (fun hs=>by rcases hs with hs|hs;rw[h.oc]at hs;exact absurd hs de;exact absurd h.clt oM)).trans h.str
  oc:=(zw h.clt).trans h.oc
  ssd:=(Dv.kB _ _ _ _).other h.ssd de hu
  back:=(Dv.kB _ _ _ _).other h.back de hu
  jr:=(Jn.kB _ _ _ _ _ _ _).other h.jr de hu
  ix:=(Ix.kB _ _ _ _).mine hu.size hd
  ss:=(Ss.kB _ _).other h.ss de hu
  lg:=(Lg.kB _ _ _).other h.lg de hu
  ck:=(Ck.kB _ _ _ _ _ _ _).other h.ck de hu
  sm:=(Mp.kB _ _ _).other h.sm de hu
  far:=(Did.step h.far (t:=5) de de hu).far
  nib:=h.nib.keep hu (fun hs=>by rcases hs with hs|hs;rw[h.on]at hs;exact absurd hs de;exact absurd h.nib.lt oM)
  tur:=h.tur.keep hu (fun hs=>by rcases hs with hs|hs;rw[h.ot]at hs;exact absurd hs de;exact absurd h.tur.lt oM)
  on:=(zw h.nib.lt).trans h.on
  ot:=(zw h.tur.lt).trans h.ot
  pl:=hl.trans h.pl
 }
theorem CaAt.did5(h:CaAt own w c n p a)(hu:Upd (fun j=>own j=5\/w.heap.size<=j) w w'):Did own (grow own 5 w.heap.size w'.heap.size) w w':=Did.step h.far de de hu
theorem CaAt.open5(h:CaAt own w c n p a):Ix (fun j=>own j=5\/w.heap.size<=j) w p.ix a.iN a.ps n.sl:=(Ix.kB _ _ _ _).open h.ix
theorem CaAt.turn6(h:CaAt own w c n p a){l:List Int}(hu:Upd (fun j=>own j=6\/w.heap.size<=j) w w')(hd:Ss (fun j=>own j=6\/w.heap.size<=j) w' p.ss l)(hl:l.length=a.st.length):
  CaAt (grow own 6 w.heap.size w'.heap.size) w' c n p {a with st:=l}:=
 {h with
  str:=(hu.block c h.clt (fun hs=>by rcases hs with hs|hs;rw[h.oc]at hs;exact absurd hs de;exact absurd h.clt oM)).trans h.str
  oc:=(zw h.clt).trans h.oc
  ssd:=(Dv.kB _ _ _ _).other h.ssd de hu
  back:=(Dv.kB _ _ _ _).other h.back de hu
  jr:=(Jn.kB _ _ _ _ _ _ _).other h.jr de hu
  ix:=(Ix.kB _ _ _ _).other h.ix de hu
  ss:=(Ss.kB _ _).mine hu.size hd
  lg:=(Lg.kB _ _ _).other h.lg de hu
  ck:=(Ck.kB _ _ _ _ _ _ _).other h.ck de hu
  sm:=(Mp.kB _ _ _).other h.sm de hu
  far:=(Did.step h.far (t:=6) de de hu).far
  nib:=h.nib.keep hu (fun hs=>by rcases hs with hs|hs;rw[h.on]at hs;exact absurd hs de;exact absurd h.nib.lt oM)
  tur:=h.tur.keep hu (fun hs=>by rcases hs with hs|hs;rw[h.ot]at hs;exact absurd hs de;exact absurd h.tur.lt oM)
  on:=(zw h.nib.lt).trans h.on
  ot:=(zw h.tur.lt).trans h.ot
  sl:=hl.trans h.sl
 }
theorem CaAt.did6(h:CaAt own w c n p a)(hu:Upd (fun j=>own j=6\/w.heap.size<=j) w w'):Did own (grow own 6 w.heap.size w'.heap.size) w w':=Did.step h.far de de hu
theorem CaAt.open6(h:CaAt own w c n p a):Ss (fun j=>own j=6\/w.heap.size<=j) w p.ss a.st:=(Ss.kB _ _).open h.ss
theorem CaAt.turn7(h:CaAt own w c n p a){G:List (Int->Bool)}(hu:Upd (fun j=>own j=7\/w.heap.size<=j) w w')(hd:Lg (fun j=>own j=7\/w.heap.size<=j) w' p.lg n.bl G)(hl:G.length=a.G.length):
  CaAt (grow own 7 w.heap.size w'.heap.size) w' c n p {a with G:=G}:=
 {h with
  str:=(hu.block c h.clt (fun hs=>by rcases hs with hs|hs;rw[h.oc]at hs;exact absurd hs de;exact absurd h.clt oM)).trans h.str
  oc:=(zw h.clt).trans h.oc
  ssd:=(Dv.kB _ _ _ _).other h.ssd de hu
  back:=(Dv.kB _ _ _ _).other h.back de hu
  jr:=(Jn.kB _ _ _ _ _ _ _).other h.jr de hu
  ix:=(Ix.kB _ _ _ _).other h.ix de hu
  ss:=(Ss.kB _ _).other h.ss de hu
  lg:=(Lg.kB _ _ _).mine hu.size hd
  ck:=(Ck.kB _ _ _ _ _ _ _).other h.ck de hu
  sm:=(Mp.kB _ _ _).other h.sm de hu
  far:=(Did.step h.far (t:=7) de de hu).far
  nib:=h.nib.keep hu (fun hs=>by rcases hs with hs|hs;rw[h.on]at hs;exact absurd hs de;exact absurd h.nib.lt oM)
  tur:=h.tur.keep hu (fun hs=>by rcases hs with hs|hs;rw[h.ot]at hs;exact absurd hs de;exact absurd h.tur.lt oM)
  on:=(zw h.nib.lt).trans h.on
  ot:=(zw h.tur.lt).trans h.ot
  Gl:=hl.trans h.Gl
 }
theorem CaAt.did7(h:CaAt own w c n p a)(hu:Upd (fun j=>own j=7\/w.heap.size<=j) w w'):Did own (grow own 7 w.heap.size w'.heap.size) w w':=Did.step h.far de de hu
theorem CaAt.open7(h:CaAt own w c n p a):Lg (fun j=>own j=7\/w.heap.size<=j) w p.lg n.bl a.G:=(Lg.kB _ _ _).open h.lg
theorem CaAt.turn8(h:CaAt own w c n p a){N:Nat}{K H:List Int}{A:Int->Bool}(hu:Upd (fun j=>own j=8\/w.heap.size<=j) w w')(hd:Ck (fun j=>own j=8\/w.heap.size<=j) w' p.ck N n.sl n.sl K A H):
  CaAt (grow own 8 w.heap.size w'.heap.size) w' c n p {a with kN:=N,K:=K,A:=A,H:=H}:=
 {h with
  str:=(hu.block c h.clt (fun hs=>by rcases hs with hs|hs;rw[h.oc]at hs;exact absurd hs de;exact absurd h.clt oM)).trans h.str
  oc:=(zw h.clt).trans h.oc
  ssd:=(Dv.kB _ _ _ _).other h.ssd de hu
  back:=(Dv.kB _ _ _ _).other h.back de hu
  jr:=(Jn.kB _ _ _ _ _ _ _).other h.jr de hu
  ix:=(Ix.kB _ _ _ _).other h.ix de hu
  ss:=(Ss.kB _ _).other h.ss de hu
  lg:=(Lg.kB _ _ _).other h.lg de hu
  ck:=(Ck.kB _ _ _ _ _ _ _).mine hu.size hd
  sm:=(Mp.kB _ _ _).other h.sm de hu
  far:=(Did.step h.far (t:=8) de de hu).far
  nib:=h.nib.keep hu (fun hs=>by rcases hs with hs|hs;rw[h.on]at hs;exact absurd hs de;exact absurd h.nib.lt oM)
  tur:=h.tur.keep hu (fun hs=>by rcases hs with hs|hs;rw[h.ot]at hs;exact absurd hs de;exact absurd h.tur.lt oM)
  on:=(zw h.nib.lt).trans h.on
  ot:=(zw h.tur.lt).trans h.ot
 }
theorem CaAt.did8(h:CaAt own w c n p a)(hu:Upd (fun j=>own j=8\/w.heap.size<=j) w w'):Did own (grow own 8 w.heap.size w'.heap.size) w w':=Did.step h.far de de hu
theorem CaAt.open8(h:CaAt own w c n p a):Ck (fun j=>own j=8\/w.heap.size<=j) w p.ck a.kN n.sl n.sl a.K a.A a.H:=(Ck.kB _ _ _ _ _ _ _).open h.ck
theorem CaAt.turn9(h:CaAt own w c n p a){N:Nat}{f:Int->Option Nat}(hu:Upd (fun j=>own j=9\/w.heap.size<=j) w w')(hd:Mp (fun j=>own j=9\/w.heap.size<=j) w' p.sm N f):
  CaAt (grow own 9 w.heap.size w'.heap.size) w' c n p {a with mN:=N,sums:=f}:=
 {h with
  str:=(hu.block c h.clt (fun hs=>by rcases hs with hs|hs;rw[h.oc]at hs;exact absurd hs de;exact absurd h.clt oM)).trans h.str
  oc:=(zw h.clt).trans h.oc
  ssd:=(Dv.kB _ _ _ _).other h.ssd de hu
  back:=(Dv.kB _ _ _ _).other h.back de hu
  jr:=(Jn.kB _ _ _ _ _ _ _).other h.jr de hu
  ix:=(Ix.kB _ _ _ _).other h.ix de hu
  ss:=(Ss.kB _ _).other h.ss de hu
  lg:=(Lg.kB _ _ _).other h.lg de hu
  ck:=(Ck.kB _ _ _ _ _ _ _).other h.ck de hu
  sm:=(Mp.kB _ _ _).mine hu.size hd
  far:=(Did.step h.far (t:=9) de de hu).far
  nib:=h.nib.keep hu (fun hs=>by rcases hs with hs|hs;rw[h.on]at hs;exact absurd hs de;exact absurd h.nib.lt oM)
  tur:=h.tur.keep hu (fun hs=>by rcases hs with hs|hs;rw[h.ot]at hs;exact absurd hs de;exact absurd h.tur.lt oM)
  on:=(zw h.nib.lt).trans h.on
  ot:=(zw h.tur.lt).trans h.ot
 }
theorem CaAt.did9(h:CaAt own w c n p a)(hu:Upd (fun j=>own j=9\/w.heap.size<=j) w w'):Did own (grow own 9 w.heap.size w'.heap.size) w w':=Did.step h.far de de hu
theorem CaAt.turn1(h:CaAt own w c n p a)(x:Nat)(hx:x<=1):CaAt own (w.setCell ⟨c,16,none⟩ (.int .i64 (x:Int))) c n p {a with which:=x}:=by
 have hu:Upd (fun j=>j=c) w (w.setCell ⟨c,16,none⟩ (.int .i64 (x:Int))):=zi w c 16 _;have hne:∀(k j:Nat),k≠1->own j=k->¬j=c:=fun k j hk hj e=>hk (by rw[<-hj,e,h.oc]);exact{h with
  str:=zh h.str 16 _
  ssd:=h.ssd.keep hu (fun j hj=>hne _ j de hj)
  back:=h.back.keep hu (fun j hj=>hne _ j de hj)
  jr:=(Jn.kB _ _ _ _ _ _ _).keep h.jr hu (fun j hj=>hne _ j de hj)
  ix:=(Ix.kB _ _ _ _).keep h.ix hu (fun j hj=>hne _ j de hj)
  ss:=(Ss.kB _ _).keep h.ss hu (fun j hj=>hne _ j de hj)
  lg:=(Lg.kB _ _ _).keep h.lg hu (fun j hj=>hne _ j de hj)
  ck:=h.ck.keep hu (fun j hj=>hne _ j de hj)
  sm:=(Mp.kB _ _ _).keep h.sm hu (fun j hj=>hne _ j de hj)
  far:=fun j hj=>h.far j oz
  nib:=h.nib.keep hu (hne _ _ de h.on)
  tur:=h.tur.keep hu (hne _ _ de h.ot)
  wh:=hx}
theorem CaAt.did1(h:CaAt own w c n p a)(x:Value):Did own own w (w.setCell ⟨c,16,none⟩ x):=(Did.refl h.far).setCell ⟨c,16,none⟩ (fun _=>by rw[show own c=1 from h.oc];exact⟨de,de⟩) x
theorem CaAt.jY(h:CaAt own w c n p a)(hu:Upd (fun _=>False) w w'):Did own own w w':=⟨hu.mono fE,fun _ _=>rfl,fun j hj=>by rw[h.far j hj];decide,fun j hj=>h.far j (qXq hu.size hj)⟩
end
def zx(own:Nat->Nat)(w:World)(c:Nat)(n:CaN)(p:CaP)(a:CaS)(v:Value)(e:Ending)(w':World):Prop:=
 e=.returned v/\∃own',CaAt own' w' c n p a/\Did own own' w w'
section
variable{own:Nat->Nat}{w w':World}{c:Nat}{n:CaN}{p:CaP}{a:CaS}
theorem CaAt.cells(h:CaAt own w c n p a):w.cell? ⟨c,14,none⟩=some (ptr p.ssd)/\w.cell? ⟨c,15,none⟩=some (ptr p.back)/\w.cell? ⟨c,16,none⟩=some (.int .i64 (a.which:Int))/\
  w.cell? ⟨c,17,none⟩=some (ptr p.jr)/\w.cell? ⟨c,18,none⟩=some (ptr p.ix)/\w.cell? ⟨c,19,none⟩=some (ptr p.ss)/\w.cell? ⟨c,20,none⟩=some (ptr p.lg)/\w.cell? ⟨c,21,none⟩=some (ptr p.ck)/\w.cell? ⟨c,22,none⟩=some (.map (some p.sm)):=by
 have hc:=za h.str;exact⟨hc 14,hc 15,hc 16,hc 17,hc 18,hc 19,hc 20,hc 21,hc 22⟩
theorem CaAt.sup(h:CaAt own w c n p a):w.cell? ⟨c,0,none⟩=some (.int .i64 (n.id:Int))/\w.cell? ⟨c,1,none⟩=some (.int .i64 (n.bl:Int))/\w.cell? ⟨c,2,none⟩=some (.int .i64 (n.sl:Int))/\
  w.cell? ⟨c,3,none⟩=some (.int .i64 (n.jo:Int))/\w.cell? ⟨c,4,none⟩=some (.int .i64 (n.pa:Int))/\w.cell? ⟨c,5,none⟩=some (.int .i64 (n.lo:Int))/\w.cell? ⟨c,6,none⟩=some (.int .i64 (n.ba:Int)):=by
 have hc:=za h.str;exact⟨hc 0,hc 1,hc 2,hc 3,hc 4,hc 5,hc 6⟩
theorem CaAt.lay(h:CaAt own w c n p a):w.cell? ⟨c,7,none⟩=some (.int .i64 1)/\w.cell? ⟨c,8,none⟩=some (.int .i64 (1+2*(n.pa:Int)))/\w.cell? ⟨c,13,none⟩=some (.int .i64 (1+2*(n.pa:Int)+(n.jo:Int)+(n.lo:Int)+(n.lo:Int)+(n.lo:Int)+(n.sl:Int)))/\
  w.cell? ⟨c,12,none⟩=some (.int .i64 (1+2*(n.pa:Int)+(n.jo:Int)+(n.lo:Int)+(n.lo:Int)+(n.lo:Int))):=by
 have hc:=za h.str;exact⟨hc 7,hc 8,hc 13,hc 12⟩
theorem CaAt.fz(h:CaAt own w c n p a)(i:Nat):w.frozen? ⟨c,i,none⟩=false:=zf h.str i
theorem Zw(h:CaAt own w c n p a):Calls prog 54 #[ptr p.ssd] w (zx own w c n p {a with dF:=(flushR a.dF a.dO a.dP).F,dO:=(flushR a.dF a.dO a.dP).O,dP:=(flushR a.dF a.dO a.dP).P} (.int .i64 (flushR a.dF a.dO a.dP).cd)):=
 (xE h.kA (fun _ h=> .inr h)).mono fun _ _ ⟨he,hd,hu⟩=>⟨he,_,h.kx hu hd (by simp only[flushR];(repeat' split)<;>simp[zM]),h.did2 hu⟩
theorem vF(h:CaAt own w c n p a):Calls prog 54 #[ptr p.back] w (zx own w c n p {a with bF:=(flushR a.bF a.bO a.bP).F,bO:=(flushR a.bF a.bO a.bP).O,bP:=(flushR a.bF a.bO a.bP).P} (.int .i64 (flushR a.bF a.bO a.bP).cd)):=
 (xE h.open3 (fun _ h=> .inr h)).mono fun _ _ ⟨he,hd,hu⟩=>⟨he,_,h.turn3 hu hd (by simp only[flushR];(repeat' split)<;>simp[zM]),h.did3 hu⟩
theorem ca_jnext(h:CaAt own w c n p a):Calls prog 165 #[ptr p.jr] w fun e w'=>e=.returned (.int .i64 (a.next:Int))/\w=w':=UZ h.jr
end
section
variable{own:Nat->Nat}{w w':World}{c:Nat}{n:CaN}{p:CaP}{a:CaS}
theorem QQ(G:List (Int->Bool))(k:Nat)(x:Int):(Zv G k x).length=G.length:=by simp[Zv]
theorem Wt(G:List (Int->Bool))(k:Nat):(scrubG G k).length=G.length:=by simp[scrubG]
theorem Zx(h:CaAt own w c n p a)(k:Nat)(hk:k<n.sl)(x:Int)(hx:x= -1\/(0<=x/\x<(n.bl:Int))):
  Calls prog 212 #[ptr p.lg,.int .i64 (k:Int),.int .i64 x] w (zx own w c n p {a with G:=Zv a.G k x} (.int .i64 0)):=
 (zdR h.open7 k (by rw[h.Gl];exact hk) x hx).mono fun _ _ ⟨he,hd,hu⟩=>⟨he,_,h.turn7 hu hd (QQ _ _ _),h.did7 hu⟩
theorem Te(h:CaAt own w c n p a)(k:Nat)(hk:k<n.sl):
  Calls prog 215 #[ptr p.lg,.int .i64 (k:Int)] w (zx own w c n p {a with G:=scrubG a.G k} (.int .i64 0)):=
 (zac h.open7 k (by rw[h.Gl];exact hk)).mono fun _ _ ⟨he,hd,hu⟩=>⟨he,_,h.turn7 hu hd (Wt _ _),h.did7 hu⟩
theorem QR(h:CaAt own w c n p a)(s:Int)(hs:s=(a.next:Int)-1):
  Calls prog 166 #[ptr p.jr,.int .i64 s] w (zx own w c n p {a with cov:=a.next-1,W:=[]} (.int .i64 0)):=
 (AP h.open4 s hs).mono fun _ _ ⟨he,hd,hu⟩=>⟨he,_,h.turn4 hu hd,h.did4 hu⟩
def Wu:Int->Bool:=updB (fun _=>false) (-1) true
def tG(G:List (Int->Bool))(k:Nat):List (Int->Bool):=List.replicate k Wu++G.drop k
theorem Wv(G:List (Int->Bool)):tG G 0=G:=by simp[tG]
theorem Tf(G:List (Int->Bool)):tG G G.length=List.replicate G.length Wu:=by simp[tG]
theorem qP{α:Type}(f:α->α):∀(l:List α) (x:α) (r:List α),(l++x::r).modify l.length f=l++f x::r
 |[],_,_=>oe
 |y::l,x,r=>by simpa using qP f l x r
theorem Ww{G:List (Int->Bool)}{k:Nat}(h:k<G.length):Zv (tG G k) k (-1)=tG G (k+1):=by
 have e:G.drop k=G[k]::G.drop (k+1):=qya h;have:=qP (fun A=>putA A (-1)) (List.replicate k Wu) G[k] (G.drop (k+1));rw[qzd]at this;unfold Zv tG;rw[e,this,List.replicate_succ',qxw];simp[putA,Wu]
end
open Go Go.RowKit Go.Shelf Tryz
attribute [local go_sem] qYa
theorem Ss.exact{S:Nat->Prop}{w:World}{b:Nat}{l:List Int}(h:Ss S w b l):∃S0:Nat->Prop,Ss S0 w b l/\(∀j,S0 j->S j)/\∀j,S0 j->∃cs t z,w.heap[j]?=some (.cells cs t z):=by
 obtain⟨v,h,hb,hs⟩:=h;refine⟨fun j=>j=b\/v.ownBlock=some j,⟨v,h,.inl rfl,fun j hj=> .inr hj⟩,fun j hj=>by rcases hj with rfl|hj;exact hb;exact hs j hj,fun j hj=>?_⟩;rcases hj with rfl|hj
 .exact ⟨_,_,_,h.str⟩
 .rcases h.sl with⟨-,⟨e,-⟩|⟨g,off,cap,cur,e,hg,-⟩⟩
  .rw [e]at hj;cases hj
  .rw [e]at hj;cases hj;exact⟨_,_,_,hg⟩
theorem Ss.grown{S:Nat->Prop}{w w':World}{b:Nat}{l:List Int}{row:Option Nat}(h:Ss S w b l)(hg:w.grownBy w' row)(hr:∀r,row=some r->∃o:Obj,w.heap[r]?=some o/\o.isCells=false):Ss S w' b l:=by
 obtain⟨S0,h0,hs,hc⟩:=h.exact;have:=(Ss.kB b l).keep h0 (Upd.kh (S:=fun j=>row=some j) hg (fun g e _=>e)) (fun j hj e=>by
  obtain⟨cs,t,z,hj'⟩:=hc j hj;exact Wg hj' hg hr e)
 exact(Ss.kB b l).out this (fun j _ hj=>hs j hj)
theorem zcA{S:Nat->Prop}{w:World}{b:Nat}{l:List Int}(h:Ss S w b l)(ht:Tur w)(slot state:Int):
  Calls prog 214 #[ptr b,.int .i64 slot,.int .i64 state] w fun e w'=>e=.returned (.int .i64 (turnCode l slot state))/\Ss S w' b (turnList l slot state)/\Upd S w w':=by
 obtain⟨v,h,hb,hs⟩:=h;exact(YC h ht slot state).mono fun _ _ ⟨he,h',hu⟩=>⟨he,⟨v,h',hb,hs⟩,hu.mono (fun k _ hk=>hs k hk)⟩
theorem Zy(l:List Int)(slot state:Int):(turnList l slot state).length=l.length:=by unfold turnList;split<;>simp
def freeTo(l:List Int)(pre:List Nat):List Int:=pre.foldl (fun(l:List Int) (k:Nat)=>turnList l (k:Int) 0) l
theorem YZ(l:List Int)(pre:List Nat)(x:Nat):freeTo l (pre++[x])=turnList (freeTo l pre) (x:Int) 0:=by simp[freeTo]
theorem qQ(l:List Int)(pre:List Nat):(freeTo l pre).length=l.length:=by
 induction pre generalizing l with
 |nil=>rfl
 |cons x pre ih=>exact(ih (turnList l (x:Int) 0)).trans (Zy _ _ _)
section
variable{own:Nat->Nat}{w w':World}{c:Nat}{n:CaN}{p:CaP}{a:CaS}
def JN(own:Nat->Nat)(w:World)(c:Nat)(n:CaN)(p:CaP)(a:CaS)(e:Ending)(w':World):Prop:=zx own w c n p {a with st:=freeTo a.st (pos a.st 3)} (.tuple #[]) e w'
theorem VC(h:CaAt own w c n p a):Calls prog 167 #[ptr c] w (JN own w c n p a):=by
 have hu0:Upd (fun _=>False) w (w.alloc (.cells #[ptr c] 98)):=(uur _ w).alloc _;have h1:=h.new hu0;have bO0:Boxed (w.alloc (.cells #[ptr c] 98)) w.heap.size 98 (ptr c):=Boxed.new w _ _;obtain⟨d0,d1,d2,d3,d4,d5,d6,d7,d8⟩:=h1.cells;obtain⟨vs,hss,hsb,hsv⟩:=h1.ss;have hpos:0<a.st.length:=by have:=h.sl;have:=h.ok.s1;omega
 have hA:=Vp hss 3 hpos;have hle:=hss.le;have HC:=Y4 h hu0 h1 hA;have hz:(w.alloc (.cells #[ptr c] 98)).heap.size=w.heap.size+1:=oe;have hcl:=h.clt;clear h hu0 h1 hA hss hsb hsv d0 d1 d2 d3 d4 d6 d7 d8;refine(callsIn_wide (n:=3)).1 ?_;refine callsIn_of_wp_marks func167 rfl trivial ?_ rfl;simp only[ntmps167,qXh,qyz,qzc,Nat.reduceAdd,Nat.reduceSub,qxi,qxj,qXb,qxy,qzu,qxz]
 gi_wp2_with (refine⟨trivial,?_⟩;gi_at_call 232;refine(callsIn_wide.2 HC.o.2.2.2).mono ?_;rintro e w1 ⟨Bs,Bt,g,off,cap,rfl,hge,hBs,hBt,hg,hcs,hct,hcl,hb1⟩)
 have hsz:=hb1.size;rw[hz]at hsz hge;have hu1:Upd (fun _=>False) w w1:=HC.o.2.1.trans (uuo hb1);have hca:=HC.o.1.new hu1;have bO:Boxed w1 w.heap.size 98 (ptr c):=(hb1.block _ (by rw[hz];omega)).trans bO0;have hS:Hid (∀j,¬(own j=6)->j<w1.heap.size->¬(w1.heap.size<=j\/own j=6)):=fun j h1 h2 h=>by rcases h with h|h;omega;exact h1 h
 have hfar:Hid (∀j,w.heap.size<=j->¬own j=6):=fun j hj e=>by rw[HC.o.1.far j hj]at e;exact absurd e de
 have HA:=qqh hca;clear hca;refine wpIn_rangeFunc_ownF rfl oM (gf:=303) (lb:= #[.pointer (some ⟨Bs,0,none⟩),.pointer (some ⟨Bt,0,none⟩)]) rfl trivial (enters_of func303 kR rfl)
  (sy Fence.wide _ trivial rfl oM (fun j=>w1.heap.size<=j\/own j=6) Bs Bt g off cap a.st 3 w1 hle hg hBt hBs (hS.out _ (hfar.out _ oM) hg) (hS.out _ (hfar.out _ oM) hBt) hcs hct hcl) uR (fun W l o o' hl=>wH (M:=w1.heap.size) (fun j h=> .inl h) W l o o' hl) (qxl _ _) (fun _=>rfl)
  (fun pre W=>Ss (fun j=>own j=6) W p.ss (freeTo a.st pre)/\Upd (fun j=>w1.heap.size<=j\/own j=6) w1 W)
  (fun _ _ _=>False)
  (fun pre X Y row hs hg hr=>⟨hs.1.grown hg (fun r e=>(hr r e).2),xq hs.2 hg (fun r e=> .inl (hr r e).1)⟩)
  (fun _ _ _ _ _ hs _ _=>hs)
  ⟨HA.o.ss,uur _ _⟩
  (fun x=>{tmps:= #[ptr c,.pointer (some ⟨w.heap.size,0,none⟩),.int .i64 (x:Int),ptr c,ptr c,.pointer (some ⟨c,19,none⟩),ptr p.ss,.func (.func 303) #[] #[.pointer (some ⟨Bs,0,none⟩),.pointer (some ⟨Bt,0,none⟩)],.int .i64 (x:Int),undef,undef,undef,undef,undef,undef],defers:=[]}) ?assign ?body ?done ?stop
 case assign=>
  intro l x W K hK
  gi_wp2
  simpa using hK
 case body=>
  rintro l pre x W ⟨hv,hu⟩ hlt;have hb:=hu.block _ (zd bO) (hS.out _ (hfar.out _ (qXo _)) (zd bO))|>.trans bO
  have hc1:W.cell? ⟨w.heap.size,0,none⟩=some (ptr c):=za hb 0;have hstr:=(hu.block c HA.o.clt (hS.out _ (by rw[HA.o.oc];decide) HA.o.clt)).trans HA.o.str;have hc2:W.cell? ⟨c,19,none⟩=some (ptr p.ss):=za hstr 19;have htu:=HA.o.tur.keep hu (hS.out _ (by rw[HA.o.ot];decide) HA.o.tur.lt);obtain⟨S0,h0,hs0,hcs0⟩:=hv.exact;have HT:=Y4 (zcA h0 htu (x:Int) 0) hu hs0 hcs0;clear hv hu hb hstr htu h0 hs0 hcs0
  gi_wp2_with ((first|(refine⟨trivial,fun _=>oM,?_⟩)|(refine⟨trivial,?_⟩)|skip);gi_at_call 214;refine(CallsIn.inRound l (callsIn_wide.2 HT.o.1)).mono ?_;rintro e W2 ⟨rfl,hs2,hu2⟩)
  obtain⟨hT,hu,hs0,hcs0⟩:=HT.o;refine⟨zC hu2 (fun j hj _=>hcs0 j hj),hu2.mono (fun k _ hk=> .inr (hs0 k hk)),?_,hu.trans (hu2.mono (fun k _ hk=> .inr (hs0 k hk)))⟩;rw[YZ];exact(Ss.kB _ _).out hs2 (fun j _ hj=>hs0 j hj)
 case done=>
  rintro D ys W hD rfl ⟨hv,hu⟩ hK
  gi_wp2
  refine⟨oe,.inl ⟨_,_,rfl,run_takeDeferred hK,?_⟩⟩;refine⟨_,qYu rfl _ _ _,?_⟩;have hW:=wH (S:=fun j=>w1.heap.size<=j\/own j=6) (M:=w1.heap.size) (fun j h=> .inl h) W D _ (.deferred none) hD hK rfl rfl;have hv2:=hv.grown (grownBy_putObj' W D (.deferred none)) (fun r e=>by cases e;exact⟨_,hK,rfl⟩);have hu2:Upd (fun j=>own j=6\/w.heap.size<=j) w (W.putObj D (.deferred none)):=(hu1.mono fE).new (hu.trans hW) (fun i hi hs=>by rcases hs with hs|hs;omega;exact .inl hs);have hsz2:=hu2.size;exact⟨rfl,_,HC.o.1.turn6 hu2 ((Ss.kB _ _).out hv2 (fun j _ hj=> .inl hj)) (qQ _ _),HC.o.1.did6 hu2⟩
 case stop=>
  rintro D c pre W _ _ h _;exact h.elim
end
end
section
theorem QS(n:Nat):madeCells #[Value.map none] (n*1)=Array.replicate n (Value.map none):=by
 apply Array.ext
 .simp [size_madeCells]
 .intro i h1 h2;have:i%1=0:=Nat.mod_one i;simp[madeCells,this]
theorem JO:(prog.info? 330).map (fun i=>(i.zero,i.size,i.bytes))=some (some (.map none),1,8):=kR
structure LgTo(W w:World)(g n k:Nat)(M:List (Nat×(Int->Bool))):Prop where
 sl:Sl w 330 1 (.slice (some ⟨g,0,none⟩) n n) n (LgC M++List.replicate (n-k) (.map none))
 len:M.length=k
 sets:∀p∈M,SetAt w p.1 4097 p.2/\p.2=fun _=>false
 nd:(M.map (·.1)).Nodup
 lo:∀p∈M,W.heap.size+2<=p.1
theorem JP{S:Nat->Prop}(n bl:Nat)(w:World)(hn:∀j,w.heap.size<=j->S j)(h1:1<=n)(h2:n<=1024)(h3:1<=bl)(h4:bl<=4096):
  Calls prog 142 #[.int .i64 (n:Int),.int .i64 (bl:Int)] w fun e w'=>∃b,e=.returned (.tuple #[.pointer (some ⟨b,0,none⟩),.int .i64 0])/\
   Lg S w' b bl (List.replicate n (fun _=>false))/\Below w.heap.size w w'/\w.heap.size<=b:=by
 obtain⟨i0,hi,hz0,hz1,hz2⟩:=qYs JO;have hmm:= @run_makeMap prog;have hmk:∀w:World,(Instr.makeSlice 327 (.int .i64 n) (.int .i64 n)).run prog w=.ok (.slice (some ⟨w.heap.size,0,none⟩) n n) (w.alloc (.cells (Array.replicate n (Value.map none)) 330)):=by
  intro w;have:=run_make (P:=prog) w 327 330 i0 (.map none) underlying327 hi hz0 .i64 .i64 n n oM oM jm oM;rw[this];simp only[qxt,hz1,Value.cells];rw[QS]
 have q1:decide ((n:Int)<1)=false:=by simp;omega
 have q2:decide (1024<(n:Int))=false:=by simp;omega
 have q3:decide ((bl:Int)<1)=false:=by simp;omega
 have q4:decide (4096<(bl:Int))=false:=by simp;omega
 clear hi hz0 hz1 hz2;go_enter func142,ntmps142
 go_wp2
 have ha:((w.alloc (.cells (Array.replicate n (Value.map none)) 330)).alloc (.cells #[.int .i64 (bl:Int),.slice (some ⟨w.heap.size,0,none⟩) n n] 329)).heap[w.heap.size]?=some (.cells (Array.replicate n (Value.map none)) 330):=by
  rw[qxk _ _ _ oe];exact zc w _ rfl
 have hb:=zc (w.alloc (.cells (Array.replicate n (Value.map none)) 330)) (.cells #[.int .i64 (bl:Int),.slice (some ⟨w.heap.size,0,none⟩) n n] 329) (n:=w.heap.size+1) oe;have hB:=((qxl w.heap.size w).alloc (qXo _) (.cells (Array.replicate n (Value.map none)) 330)).alloc oe (.cells #[.int .i64 (bl:Int),.slice (some ⟨w.heap.size,0,none⟩) n n] 329);have hsz:((w.alloc (.cells (Array.replicate n (Value.map none)) 330)).alloc (.cells #[.int .i64 (bl:Int),.slice (some ⟨w.heap.size,0,none⟩) n n] 329)).heap.size=w.heap.size+2:=oe;have hsl:Sl ((w.alloc (.cells (Array.replicate n (Value.map none)) 330)).alloc (.cells #[.int .i64 (bl:Int),.slice (some ⟨w.heap.size,0,none⟩) n n] 329)) 330 1 (.slice (some ⟨w.heap.size,0,none⟩) n n) n (List.replicate n (Value.map none)):=
  ⟨oe,.inr ⟨w.heap.size,0,n,_,rfl,ha,qXo _,by unfold maxLen;omega,oe,fun j u hj=>by rw[qXx,<-List.toArray_replicate,qyq];exact hj⟩⟩
 generalize (w.alloc (.cells (Array.replicate n (Value.map none)) 330)).alloc (.cells #[.int .i64 (bl:Int),.slice (some ⟨w.heap.size,0,none⟩) n n] 329)=w2 at*;have HB:=Y5 hb hB hsz hsl hn;clear ha hb hB hsz hsl hn hmk;go_loopw[32] (fun s32 wr=>∃k:Nat,k<=n/\s32=.int .i64 k/\(∃M,LgTo w wr w.heap.size n k M)/\Upd (fun j=>j=w.heap.size) w2 wr) (fun s32 _=>n-(intOf s32).toNat)
 case atStart=>exact⟨0,oM,rfl,⟨[],by simpa using HB.o.2.2.2.1,rfl,oe,oe,oe⟩,uur _ _⟩
 case round=>
  obtain⟨k,hk,rfl,⟨M,hM⟩,hu⟩:=hrel;have hstr:=(hu.block _ (zd HB.o.1) oM).trans HB.o.1;have c1:=za hstr 1;simp at c1;have hge:=hu.size;have hs2:=HB.o.2.2.1;by_cases hlt:k<n
  .have b1:(0:Int)<=(k:Int):=oM;have b2:(k:Int)<(n:Int):=oM;obtain⟨g',off',cap',cur,he,hg,hoc,hcc⟩:=hM.sl.at oM;cases he;have HM:=Y4 hM hu hstr hk;have hc:(wr.alloc (.map #[] 0)).cell? ⟨w.heap.size,k,none⟩=some (.map none):=by
    rw[za ((qxk _ _ _ (zd hg)).trans hg)];have hl:(LgC M).length=k:=by simp[LgC,hM.len]
    have:=hcc k (.map none) (by rw[qyh oM,hl,Nat.sub_self,qyn,if_pos oM]);simpa using this
   have hf:(wr.alloc (.map #[] 0)).frozen? ⟨w.heap.size,k,none⟩=false:=zf ((qxk _ _ _ (zd hg)).trans hg) k;clear hM hu hstr hg hoc hcc hk;have HX:=Y2 hs2 hge;clear hs2 hge;go_wp2
   go_roundw
   case rel=>
    obtain⟨hM,hu,hstr,hk⟩:=HM.o;obtain⟨hs2,hge⟩:=HX.o;have hal:Upd (fun _=>False) wr (wr.alloc (.map #[] 0)):=(uur _ wr).alloc _;have hsc:Upd (fun j=>j=w.heap.size) (wr.alloc (.map #[] 0)) ((wr.alloc (.map #[] 0)).setCell ⟨w.heap.size,k,none⟩ (.map (some wr.heap.size))):=zi _ _ _ _;refine⟨k+1,oM,by go_num,⟨M++[(wr.heap.size,fun _=>false)],?_,by simp[hM.len],?_,?_,?_⟩,(hu.trans (hal.mono fE)).trans hsc⟩
    .have h3:=(hM.sl.keep hal (fun _ _ h=>h)).setAt k oM (.map (some wr.heap.size));rw[qXx]at h3;have e:(LgC M++List.replicate (n-k) (Value.map none)).set k (.map (some wr.heap.size))=LgC (M++[(wr.heap.size,fun _=>false)])++List.replicate (n-(k+1)) (.map none):=by
      have:n-k=(n-(k+1))+1:=oM;rw[this,List.replicate_succ,qXe _ _ (by simp[hM.len])];simp[hM.len,LgC]
     rw[e]at h3;exact h3
    .intro p hp;rcases qzl.1 hp with hp|hp
     .refine ⟨((hM.sets p hp).1.keep hal id).keep hsc (fun e=>?_),(hM.sets p hp).2⟩;have:=hM.lo p hp;omega
     .simp at hp;subst hp;exact⟨((SetAt.made wr).mono oM).keep hsc (fun e=>by have e':wr.heap.size=w.heap.size:=e;omega),rfl⟩
    .rw [qzg,qzv];refine⟨hM.nd,oe,?_⟩;intro x hx y hy e;simp at hy;subst hy;obtain⟨p,hp,rfl⟩:=qzq.1 hx;have:=(hM.sets p hp).1.lt;omega
    .intro p hp;rcases qzl.1 hp with hp|hp
     .exact hM.lo p hp
     .simp at hp;subst hp;show _<=wr.heap.size;omega
   case measure=>simp[intOf];omega
  .obtain rfl:k=n:=oM;have HM:=Y3 hM hu hstr;clear hM hu hstr hk hge hs2;go_wp2
   go_ret2
   obtain⟨hM,hu,hstr⟩:=HM.o;obtain⟨hb,hB,hsz,-,hn⟩:=HB.o;have hMM:∀p∈M,p.1<wr.heap.size:=fun p hp=>(hM.sets p hp).1.lt;refine⟨w.heap.size+1,rfl,⟨.slice (some ⟨w.heap.size,0,none⟩) k k,M,⟨hstr,by have:=hM.sl;rw[hM.len];simpa using this,fun p hp=>(hM.sets p hp).1,hM.nd,fun p hp=>⟨?_,?_⟩,by simp[Value.ownBlock],by rw[hM.len];exact h2,⟨h3,h4⟩,fun p hp s hs=>?_⟩,?_,?_⟩,zj hB hu oM (fun j e=>oM),oM⟩
   .have:=hM.lo p hp;omega
   .have:=hM.lo p hp;simp[Value.ownBlock];omega
   .rw [(hM.sets p hp).2]at hs;simp at hs
   .apply qyc (by simp[hM.len]);intro i h1 h2;simp only[qyt,List.getElem_replicate];exact(hM.sets _ (qyu _)).2
   .rintro j (rfl|hj|hj)
    .exact hn _ oM
    .simp [Value.ownBlock]at hj;exact hn _ oM
    .obtain ⟨p,hp,rfl⟩:=qzq.1 hj;exact hn _ (by have:=hM.lo p hp;omega)
abbrev zcB:=Nat×((Nat->Prop)->World->Prop)
structure Mk(own0:Nat->Nat)(w0:World)(own:Nat->Nat)(w:World)(c:Nat)(cs:List Value)(bs bl:Nat)(us ul:Array Value)(L:List zcB):Prop where
 str:w.heap[c]?=some (.cells cs.toArray 170 (0,0))
 oc:own c=1
 cn:w0.heap.size<=c
 all:∀q∈L,Thing q.2/\q.1≠1/\q.2 (fun j=>own j=q.1) w
 far:∀j,w.heap.size<=j->own j=0
 nib:Nib w
 tur:Tur w
 on:own 0=0
 ot:own 1=0
 sb:w.heap[bs]?=some (.cells us 44 (0,0))
 lb:w.heap[bl]?=some (.cells ul 73 (0,0))
 bsc:bs≠c
 blc:bl≠c
 bel:Below w0.heap.size w0 w
 old:∀j,j<w0.heap.size->own j=own0 j
 new:∀j,w0.heap.size<=j->own j<16
section
variable{own0 own:Nat->Nat}{w0 w w':World}{c bs bl:Nat}{cs:List Value}{us ul:Array Value}{L:List zcB}
theorem Mk.add(h:Mk own0 w0 own w c cs bs bl us ul L)(t:Nat)(ht:t≠1/\t<16/\∀q∈L,q.1≠t){R:(Nat->Prop)->World->Prop}(hR:Thing R)(hb:Below w.heap.size w w')(hr:R (fun j=>w.heap.size<=j) w'):
  Mk own0 w0 (grow own t w.heap.size w'.heap.size) w' c cs bs bl us ul ((t,R)::L):=by
 have hu:=qqb hb;have hcl:=zd h.str;have ho:∀j,own j=t->j<w.heap.size\/t=0:=fun j hj=>by
  by_cases hl:j<w.heap.size
  .exact .inl hl
  .exact .inr (by rw[<-hj,h.far j oM])
 exact{
  str:=hu.jT h.str
  oc:=(zw hcl).trans h.oc
  cn:=h.cn
  all:=fun q hq=>by
   rcases qzm.1 hq with rfl|hq
   .exact ⟨hR,ht.1,hR.out hr (fun j hj hs=>YA hs hj)⟩
   .obtain ⟨a1,a2,a3⟩:=h.all q hq;exact⟨a1,a2,a1.other a3 (ht.2.2 q hq) (hu.mono fE)⟩
  far:=fun j hj=>by
   have:=hu.size;unfold grow;rw[if_neg oM];exact h.far j oM
  nib:=h.nib.keep hu id
  tur:=h.tur.keep hu id
  on:=(zw h.nib.lt).trans h.on
  ot:=(zw h.tur.lt).trans h.ot
  sb:=hu.jT h.sb
  lb:=hu.jT h.lb
  bsc:=h.bsc
  blc:=h.blc
  bel:=zj h.bel hu (qXo _) (fun _ h=>h.elim)
  old:=fun j hj=>(zw (qXr hj h.bel.size)).trans (h.old j hj)
  new:=fun j hj=>by
   unfold grow;split
   .exact ht.2.1
   .exact h.new j hj}
theorem Mk.set(h:Mk own0 w0 own w c cs bs bl us ul L)(i:Nat)(v:Value):Mk own0 w0 own (w.setCell ⟨c,i,none⟩ v) c (cs.set i v) bs bl us ul L:=by
 have hu:=zi w c i v;have hne:∀(k j:Nat),k≠1->own j=k->¬j=c:=fun k j hk hj e=>hk (by rw[<-hj,e,h.oc]);exact{
  str:=by have:=zh h.str i v;simpa using this
  oc:=h.oc
  cn:=h.cn
  all:=fun q hq=>by
   obtain⟨a1,a2,a3⟩:=h.all q hq;exact⟨a1,a2,a1.keep a3 hu (fun j hj=>hne _ j a2 hj)⟩
  far:=fun j hj=>h.far j oz
  nib:=h.nib.keep hu (hne _ _ de h.on)
  tur:=h.tur.keep hu (hne _ _ de h.ot)
  on:=h.on
  ot:=h.ot
  sb:=(hu.block _ (zd h.sb) h.bsc).trans h.sb
  lb:=(hu.block _ (zd h.lb) h.blc).trans h.lb
  bsc:=h.bsc
  blc:=h.blc
  bel:=zj h.bel hu (qXo _) (fun j e=>e▸h.cn)
  old:=h.old
  new:=h.new}
theorem Mk.cell(h:Mk own0 w0 own w c cs bs bl us ul L)(i:Nat):w.cell? ⟨c,i,none⟩=cs[i]?:=by rw[za h.str];simp
theorem Mk.part(h:Mk own0 w0 own w c cs bs bl us ul L){t:Nat}{R:(Nat->Prop)->World->Prop}(hq:(t,R)∈L):R (fun j=>own j=t) w:=(h.all _ hq).2.2
end
theorem Mk.start{own0:Nat->Nat}{w0 w4:World}{bs bl ssd back:Nat}{us ul:Array Value}{dF bF:List Bk}{dO bO:List (Nat×Bk)}{dP bP:List Int}(cs:List Value)(hU:Upd (fun _=>False) w0 w4)
  (h2:Dv (fun j=>own0 j=2) w0 ssd dF dO dP) (h3:Dv (fun j=>own0 j=3) w0 back bF bO bP) (far:∀j,w0.heap.size<=j->own0 j=0) (nib:Nib w0) (tur:Tur w0) (on:own0 0=0) (ot:own0 1=0)
  (sb:w4.heap[bs]?=some (.cells us 44 (0,0))) (lb:w4.heap[bl]?=some (.cells ul 73 (0,0))):
  ∃own,Mk own0 w0 own ((w4.alloc (.map #[] 0)).alloc (.cells cs.toArray 170)) (w4.heap.size+1) cs bs bl us ul
   [(9,fun S w=>Mp S w w4.heap.size 0 (fun _=>none)),(3,fun S w=>Dv S w back bF bO bP),(2,fun S w=>Dv S w ssd dF dO dP)]:=by
 obtain⟨w5,hw5⟩:=qqe ((w4.alloc (.map #[] 0)).alloc (.cells cs.toArray 170));have hu1:Upd (fun _=>False) w4 (w4.alloc (.map #[] 0)):=(uur _ w4).alloc _;have hu2:Upd (fun _=>False) (w4.alloc (.map #[] 0)) w5:=by rw[hw5];exact(uur _ _).alloc _
 have hu:=hu1.trans hu2;have hz:w5.heap.size=w4.heap.size+2:=by rw[hw5];simp
 have hs:=hU.size;have hl:=zd sb;have hl2:=zd lb;have hnl:=nib.lt;have htl:=tur.lt;have hout:∀(k:Nat),k≠0->∀(R:(Nat->Prop)->World->Prop),Thing R->R (fun j=>own0 j=k) w0->R (fun j=>(if j=w4.heap.size then 9 else if j=w4.heap.size+1 then 1 else own0 j)=k) w5:=fun k hk R hR h=>by
  have h1:R (fun j=>own0 j=k/\j<w0.heap.size) w0:=hR.out h (fun j hj hs=>⟨hs,hj⟩);exact hR.out (hR.new h1 (hU.trans hu)) (fun j hj ⟨a,b⟩=>by rw[if_neg oM,if_neg oM];exact a)
 rw[<-hw5];refine⟨fun j=>if j=w4.heap.size then 9 else if j=w4.heap.size+1 then 1 else own0 j,?_⟩;exact{
  str:=by rw[hw5];exact zc _ _ oe
  oc:=by rw[if_neg oM,if_pos rfl]
  cn:=oM
  all:=fun q hq=>by
   simp only[qzm,qzy,qYt]at hq;rcases hq with rfl|rfl|rfl
   .exact ⟨Mp.kB _ _ _,(by show(9:Nat)≠1;decide),(MapAt.made w4).keep hu2 id,oe⟩
   .exact ⟨Dv.kB _ _ _ _,(by show(3:Nat)≠1;decide),hout 3 de _ (Dv.kB _ _ _ _) h3⟩
   .exact ⟨Dv.kB _ _ _ _,(by show(2:Nat)≠1;decide),hout 2 de _ (Dv.kB _ _ _ _) h2⟩
  far:=fun j hj=>by rw[if_neg oM,if_neg oM];exact far j oM
  nib:=nib.keep (hU.trans hu) id
  tur:=tur.keep (hU.trans hu) id
  on:=by rw[if_neg oM,if_neg oM];exact on
  ot:=by rw[if_neg oM,if_neg oM];exact ot
  sb:=hu.jT sb
  lb:=hu.jT lb
  bsc:=oM
  blc:=oM
  bel:=Upd.below (hU.trans hu)
  old:=fun j hj=>by rw[if_neg oM,if_neg oM]
  new:=fun j hj=>by
   split
   .decide
   .split
    .decide
    .rw [far j hj];decide}
theorem JQ(n s:Nat)(w:World)(h1:1<=n)(h2:n<=4096)(h3:1<=s)(h4:s<=1024):
  Calls prog 140 #[.int .i64 n,.int .i64 s] w fun e w'=>∃b,e=.returned (.tuple #[ptr b,.int .i64 0])/\Ix (fun j=>w.heap.size<=j) w' b 0 (List.replicate n (-1,false)) s/\Below w.heap.size w w':=
 (Jw n s w h1 h2 h3 h4).mono fun _ _ ⟨b,v,mb,he,hi,hb,hm,hf,hw⟩=>⟨b,he,⟨v,mb,hi,hb,fun j hj=>by rcases hj with hj|hj;exact hf j hj;exact hj▸hm⟩,hw⟩
theorem JR(n:Nat)(w:World)(h1:1<=n)(h2:n<=1024):
  Calls prog 141 #[.int .i64 n] w fun e w'=>∃b,e=.returned (.tuple #[ptr b,.int .i64 0])/\Ss (fun j=>w.heap.size<=j) w' b (List.replicate n 0)/\Below w.heap.size w w':=
 (Jl n w h1 h2).mono fun _ _ ⟨he,hs,hw,_⟩=>⟨_,he,⟨_,hs,by show _<=_;omega,fun j hj=>by simp[Value.ownBlock]at hj;show _<=_;omega⟩,hw⟩
def ca0(n:CaN)(ssd back wh sm:Nat):List Value:=
 n.C++(layC n.sl n.jo n.pa n.lo++[ptr ssd,ptr back,.int .i64 (wh:Int),.pointer none,.pointer none,.pointer none,.pointer none,.pointer none,.map (some sm)])
theorem tR{ops:Array Oper}{rest:List Oper}{op:Oper}{a:Act}{w:World}{Q:Exit->Act->World->Prop}(hgd:op.guard=none)(p q r s t u:Operand)(ho:op.op=.build 170 #[(0,p),(1,q),(2,r),(3,s),(4,t),(10,u)])
  (n:CaN) (ssd back wh sm:Nat) (hp:a.eval p=.agg n.C.toArray) (hq:a.eval q=.agg (layC n.sl n.jo n.pa n.lo).toArray) (hr:a.eval r=ptr ssd) (hs:a.eval s=ptr back) (ht:a.eval t=.int .i64 (wh:Int)) (hu:a.eval u=.map (some sm)) (L:Array Value) (hL:L=(ca0 n ssd back wh sm).toArray)
  (h:wpList prog ops Q rest (a.put op.dst (.agg L)) w):wpList prog ops Q (op::rest) a w:=by
 have hrun:(Instr.build 170 #[(0,.agg n.C.toArray),(1,.agg (layC n.sl n.jo n.pa n.lo).toArray),(2,ptr ssd),(3,ptr back),(4,.int .i64 (wh:Int)),(10,.map (some sm))]).run prog w=.ok (.agg L) w:=by
  rw[hL];kernel_rfl
 refine qYz hgd fun K' hK'=>?_;unfold Oper.wp;simp only[execOp,ho,qzk,qzh,qzj,hp,hq,hr,hs,ht,hu,qYf,hrun,qYe];exact hK' _ _ h
theorem CaN.C_one(n:CaN):∀v∈n.C,v.oneCell'=true:=by
 intro v hv;simp only[CaN.C,qzm,qzy,qYt]at hv;rcases hv with rfl|rfl|rfl|rfl|rfl|rfl|rfl<;>rfl
theorem ut(sl jo pa lo:Nat):∀v∈layC sl jo pa lo,v.oneCell'=true:=by
 intro v hv;simp only[qzm,qzy,qYt]at hv;rcases hv with rfl|rfl|rfl|rfl|rfl|rfl|rfl<;>rfl
def caS0(n:CaN)(wh seq:Nat)(dF:List Bk)(dO:List (Nat×Bk))(dP:List Int)(bF:List Bk)(bO:List (Nat×Bk))(bP:List Int):CaS:=
 ⟨wh,dF,dO,dP,bF,bO,bP,seq,seq+1,[],0,List.replicate n.bl (-1,false),List.replicate n.sl 0,List.replicate n.sl Wu,0,[],fun _=>false,[],0,fun _=>none⟩
def Zz(own0:Nat->Nat)(w:World)(ssd back:Nat)(n:CaN)(a:CaS)(e:Ending)(w':World):Prop:=
 ∃c p own',e=.returned (.tuple #[ptr c,.int .i64 0])/\p.ssd=ssd/\p.back=back/\CaAt own' w' c n p a/\Did own0 own' w w'
theorem Mk.ca{own0 own:Nat->Nat}{w0 w:World}{c bs bl ssd back sm bjr bix bss blg bck:Nat}{us ul:Array Value}{n:CaN}{wh seq:Nat}{dF bF:List Bk}{dO bO:List (Nat×Bk)}{dP bP:List Int}
  (h:Mk own0 w0 own w c ((((((ca0 n ssd back wh sm).set 17 (ptr bjr)).set 18 (ptr bix)).set 19 (ptr bss)).set 20 (ptr blg)).set 21 (ptr bck)) bs bl us ul
   [(8,fun S w=>Ck S w bck 0 n.sl n.sl [] (fun _=>false) []),(7,fun S w=>Lg S w blg n.bl (List.replicate n.sl (fun _=>false))),(6,fun S w=>Ss S w bss (List.replicate n.sl 0)),(5,fun S w=>Ix S w bix 0 (List.replicate n.bl (-1,false)) n.sl),
    (4,fun S w=>Jn S w bjr ssd (1+2*n.pa) n.jo seq (seq+1) []),(9,fun S w=>Mp S w sm 0 (fun _=>none)),(3,fun S w=>Dv S w back bF bO bP),(2,fun S w=>Dv S w ssd dF dO dP)])
  (hok:n.Ok) (fl:dF.length=n.size) (gl:bF.length=n.bl) (hwh:wh<=1):
  CaAt own w c n ⟨ssd,back,bjr,bix,bss,blg,bck,sm⟩ {caS0 n wh seq dF dO dP bF bO bP with G:=List.replicate n.sl (fun _=>false)}where
 str:=h.str
 oc:=h.oc
 ok:=hok
 ssd:=h.part (t:=2) (R:=fun S w=>Dv S w ssd dF dO dP) oe
 back:=h.part (t:=3) (R:=fun S w=>Dv S w back bF bO bP) oe
 jr:=h.part (t:=4) (R:=fun S w=>Jn S w bjr ssd (1+2*n.pa) n.jo seq (seq+1) []) oe
 ix:=h.part (t:=5) (R:=fun S w=>Ix S w bix 0 (List.replicate n.bl (-1,false)) n.sl) oe
 ss:=h.part (t:=6) (R:=fun S w=>Ss S w bss (List.replicate n.sl 0)) oe
 lg:=h.part (t:=7) (R:=fun S w=>Lg S w blg n.bl (List.replicate n.sl (fun _=>false))) oe
 ck:=h.part (t:=8) (R:=fun S w=>Ck S w bck 0 n.sl n.sl [] (fun _=>false) []) oe
 sm:=h.part (t:=9) (R:=fun S w=>Mp S w sm 0 (fun _=>none)) oe
 far:=h.far
 nib:=h.nib
 tur:=h.tur
 on:=h.on
 ot:=h.ot
 fl:=fl
 gl:=gl
 pl:=by simp[caS0]
 sl:=by simp[caS0]
 Gl:=oe
 wh:=hwh
theorem zcC{own0:Nat->Nat}{w:World}{ssd back:Nat}{n:CaN}{dF bF:List Bk}{dO bO:List (Nat×Bk)}{dP bP:List Int}(h2:Dv (fun j=>own0 j=2) w ssd dF dO dP)(h3:Dv (fun j=>own0 j=3) w back bF bO bP)
  (far:∀j,w.heap.size<=j->own0 j=0) (nib:Nib w) (tur:Tur w) (on:own0 0=0) (ot:own0 1=0) (hok:n.Ok) (fl:dF.length=n.size) (gl:bF.length=n.bl) (wh seq:Nat) (hwh:wh<=1) (hseq:seq<1099511627776)
  (ao:Option Addr) (ln lc:Nat) (a':CaS) (hload:∀(own:Nat->Nat) (W:World) (c:Nat) (p:CaP),Did own0 own w W->CaAt own W c n p {caS0 n wh seq dF dO dP bF bO bP with G:=List.replicate n.sl (fun _=>false)}->Calls prog 144 #[ptr c,.slice ao ln lc] W (zx own W c n p a' (.int .i64 0))):
  Calls prog 89 #[.agg n.C.toArray,ptr ssd,ptr back,.int .i64 (wh:Int),.int .i64 (seq:Int),.slice ao ln lc] w (Zz own0 w ssd back n a'):=by
 have HLd:=qqh hload;clear hload;obtain⟨U,hU⟩:=qqe (n.C);obtain⟨V,hV⟩:=qqe (layC n.sl n.jo n.pa n.lo);obtain⟨w1,hw1⟩:=qqe (w.alloc (.cells U.toArray 44));have hg1:=qqg hw1;have hu1:=qqu hw1;have hrU:w1.rangeAt w.heap.size 0 U:=zg hg1;have hsU:(prog.info? 44).map (·.size)=some U.length:=by rw[hU];exact xj
 have HPl:Hid (Calls prog 26 #[.agg U.toArray] w1 fun e w'=>e=.returned (.tuple #[.agg V.toArray,.int .i64 0])/\Below w1.heap.size w1 w'):=by
  show Calls _ _ _ _ _;rw[hU,hV];obtain⟨b1,b2,s1,s2,j1,j2,l1,l2,a1,a2,p1,p2,z⟩:=hok;exact un n.id n.bl n.sl n.jo n.pa n.lo n.ba b1 b2 s1 s2 j1 j2 l1 l2 a1 a2 p1 p2 z w1
 rw[<-hU];have H:=Y14 h2 h3 far nib tur on ot hok fl gl hU hV hg1 hu1;rw[hw1]at hrU;have HW1:=qqh hw1;have HU:=Y2 hrU hsU;clear h2 h3 far nib tur on ot hok fl gl hU hV hg1 hu1 hrU hsU hw1;go_enter func89,ntmps89
 go_wp2_with (first
  |(refine qYy rfl _ _ rfl _ _ rfl _ _ HU.o.1 underlying44 rfl HU.o.2 ?_)
  |fail)
 rw[<-HW1.o];refine HPl.out.mono ?_;rintro e w2 ⟨rfl,hb2⟩;obtain⟨h2,h3,far,nib,tur,on,ot,hok,fl,gl,hU,hV,hg1,hu1⟩:=H.o;obtain⟨w3,hw3⟩:=qqe (w2.alloc (.cells V.toArray 73));have hu2:=qqb hb2;have hu3:=qqu hw3;have hg3:=qqg hw3;have hg13:=(hu2.trans hu3).jT hg1;have hU3:=(hu1.trans hu2).trans hu3;have hVl:V.length=7:=by rw[hV];rfl
 have hV1:∀v∈V,v.oneCell'=true:=by rw[hV];exact ut _ _ _ _
 have hsV:Hid ((prog.info? 73).map (·.size)=some V.length):=by show _=_;rw[hVl];exact xF
 have h23:=(Dv.kB _ _ _ _).new h2 hU3;have h33:=(Dv.kB _ _ _ _).new h3 hU3;have v6:w3.cell? ⟨w2.heap.size,6,none⟩=some (.int .i64 (n.size:Int)):=by
  rw[za hg3,hV];simp[layC,CaN.size]
 have u1:w3.cell? ⟨w.heap.size,1,none⟩=some (.int .i64 (n.bl:Int)):=by
  rw[za hg13,hU];simp[CaN.C]
 have hS2:∀k,Calls prog 78 #[ptr ssd] (w3.drewN k) fun e w'=>e=.returned (.int .i64 (n.size:Int))/\w'=w3.drewN k:=fun k=>by
  have:=tw ((Dv.kB _ _ _ _).new h23 ((uur (fun _=>False) w3).drewN k));rw[fl]at this;exact this
 have hS3:∀k,Calls prog 78 #[ptr back] (w3.drewN k) fun e w'=>e=.returned (.int .i64 (n.bl:Int))/\w'=w3.drewN k:=fun k=>by
  have:=tw ((Dv.kB _ _ _ _).new h33 ((uur (fun _=>False) w3).drewN k));rw[gl]at this;exact this
 have H3:=Y5 hU3 hg3 hg13 h23 h33;have HV:=Y4 hVl hV1 hS2 hS3;clear h2 h3 far nib tur on ot hok fl gl hU hV hg1 hu1 hb2 hu2 hu3 hg3 hg13 hU3 hVl hV1 h23 h33 hS2 hS3;have HW3:=qqh hw3;clear hw3;have HV6:=Y2 v6 u1;clear v6 u1;go_wp2_with (first
  |(refine zk rfl _ _ _ rfl _ _ _ rfl rfl (by rw[HV.o.1];rfl) hsV.out HV.o.2.1 ?_)
  |fail)
 rw[<-HW3.o];obtain⟨v6,u1⟩:=HV6.o
 go_quiet((go_at_call 78;(first|with_reducible exact Calls.quiet_of_same (HV.o.2.2.1 _)|with_reducible exact Calls.quiet_of_same (HV.o.2.2.2 _))))
 clear v6 u1;obtain⟨h2,h3,far,nib,tur,on,ot,hok,fl,gl,hU,hV,hg1,hu1⟩:=H.o;obtain⟨hU3,hg3,hg13,h23,h33⟩:=H3.o;have hud:Upd (fun _=>False) w3 (w3.drewN nq):=(uur _ w3).drewN nq;have hU4:=hU3.trans hud;have hg34:=hud.jT hg3;have hg14:=hud.jT hg13;generalize w3.drewN nq=w4 at*;obtain⟨L,hL⟩:=qqe (ca0 n ssd back wh w4.heap.size);obtain⟨ownA,MA⟩:=Mk.start L hU4 h2 h3 far nib tur on ot hg14 hg34;have rU:=zg hg14;have rV:=zg hg34;have hm1:Upd (fun _=>False) w4 (w4.alloc (.map #[] 0)):=(uur _ w4).alloc _;have HL:=Y2 hL MA;have HR:=Y2 rU rV;have HO:=qqh hok;have FL:=qqh fl;have GL:=qqh gl;have HUV:=Y2 hU hV;have hmm:= @run_makeMap prog;clear h2 h3 far nib tur on ot hok fl gl hU hV hg1 hu1 hU3 hg3 hg13 h23 h33 hud hU4 hg34 hg14 rU rV hm1 MA hL;rcases(show wh=0\/wh=1 by omega)with rfl|rfl
 all_goals
  go_upto_region 11 with(first
   |(refine qYy rfl _ _ rfl _ _ rfl _ _ HR.o.1 underlying44 rfl HU.o.2 ?_)
   |(refine qYy rfl _ _ rfl _ _ rfl _ _ HR.o.2 underlying73 rfl hsV.out ?_)
   |(refine tR rfl _ _ _ _ _ _ rfl n ssd back _ w4.heap.size (by show Value.agg U.toArray=_;rw[HUV.o.1]) (by show Value.agg V.toArray=_;rw[HUV.o.2]) oy oy oy oy L.toArray (by rw[HL.o.1]) ?_)
   |fail)
  have HL5:=qqh (zd HL.o.2.str);obtain⟨c,hc⟩:=qqe (w4.heap.size+1);rw[<-hc]at HL⊢;have M0:=HL.o.2;have hL0:=HL.o.1;generalize (w4.alloc (.map #[] 0)).alloc (.cells L.toArray 170)=W0 at*;generalize hsm:w4.heap.size=sm at*;clear hc HL HL5 hmm hsm HR;subst hL0;obtain⟨b1,b2,s1,s2,j1,j2,l1,l2,a1,a2,p1,p2,z⟩:=HO.o;have hq:=za M0.sb;have hv:=za M0.lb;rw[HUV.o.1]at hq;rw[HUV.o.2]at hv;have q1:W0.cell? ⟨w.heap.size,1,none⟩=some (.int .i64 (n.bl:Int)):=hq 1;have q2:W0.cell? ⟨w.heap.size,2,none⟩=some (.int .i64 (n.sl:Int)):=hq 2;have q3:W0.cell? ⟨w.heap.size,3,none⟩=some (.int .i64 (n.jo:Int)):=hq 3;have v1:W0.cell? ⟨w2.heap.size,1,none⟩=some (.int .i64 (1+2*(n.pa:Int))):=hv 1;have HN:=qqh (QG (S:=fun j=>W0.heap.size<=j) (M0.part (t:=2) (R:=fun S w=>Dv S w ssd dF dO dP) oe) (fun _ h=>h) (1+2*n.pa) n.jo seq oM j2 (by rw[FL.out];unfold CaN.size;omega) hseq);have HM:=qqh M0;clear hq hv M0;go_wp2_with fail
  try rw[show(1+2*(n.pa:Int))=((1+2*n.pa:Nat):Int) by simp]
  refine HN.o.mono ?_;rintro e Wx ⟨bjr,rfl,hX,-,hb⟩;have MX:=HM.o.add 4 oe (Jn.kB bjr ssd (1+2*n.pa) n.jo seq (seq+1) []) hb hX;have k17:=MX.cell 17;have g17:=zf MX.str 17;have HX:=qqh MX;clear hX hb MX q1 q2 q3 v1;go_upto_region 14 with fail
  have M1:=HX.o.set 17 (ptr bjr);generalize Wx.setCell ⟨c,17,none⟩ (ptr bjr)=W1 at*;clear HN HX k17 g17;have hq:=za M1.sb;have hv:=za M1.lb;rw[HUV.o.1]at hq;rw[HUV.o.2]at hv;have q1:W1.cell? ⟨w.heap.size,1,none⟩=some (.int .i64 (n.bl:Int)):=hq 1;have q2:W1.cell? ⟨w.heap.size,2,none⟩=some (.int .i64 (n.sl:Int)):=hq 2;have q3:W1.cell? ⟨w.heap.size,3,none⟩=some (.int .i64 (n.jo:Int)):=hq 3;have v1:W1.cell? ⟨w2.heap.size,1,none⟩=some (.int .i64 (1+2*(n.pa:Int))):=hv 1;have HN:=qqh (JQ n.bl n.sl W1 b1 b2 s1 s2);have HM:=qqh M1;clear hq hv M1;go_wp2_with fail
  try rw[show(1+2*(n.pa:Int))=((1+2*n.pa:Nat):Int) by simp]
  refine HN.o.mono ?_;rintro e Wx ⟨bix,rfl,hX,hb⟩;have MX:=HM.o.add 5 oe (Ix.kB bix 0 (List.replicate n.bl (-1,false)) n.sl) hb hX;have k18:=MX.cell 18;have g18:=zf MX.str 18;have HX:=qqh MX;clear hX hb MX q1 q2 q3 v1;go_upto_region 17 with fail
  have M2:=HX.o.set 18 (ptr bix);generalize Wx.setCell ⟨c,18,none⟩ (ptr bix)=W2 at*;clear HN HX k18 g18;have hq:=za M2.sb;have hv:=za M2.lb;rw[HUV.o.1]at hq;rw[HUV.o.2]at hv;have q1:W2.cell? ⟨w.heap.size,1,none⟩=some (.int .i64 (n.bl:Int)):=hq 1;have q2:W2.cell? ⟨w.heap.size,2,none⟩=some (.int .i64 (n.sl:Int)):=hq 2;have q3:W2.cell? ⟨w.heap.size,3,none⟩=some (.int .i64 (n.jo:Int)):=hq 3;have v1:W2.cell? ⟨w2.heap.size,1,none⟩=some (.int .i64 (1+2*(n.pa:Int))):=hv 1;have HN:=qqh (JR n.sl W2 s1 s2);have HM:=qqh M2;clear hq hv M2;go_wp2_with fail
  try rw[show(1+2*(n.pa:Int))=((1+2*n.pa:Nat):Int) by simp]
  refine HN.o.mono ?_;rintro e Wx ⟨bss,rfl,hX,hb⟩;have MX:=HM.o.add 6 oe (Ss.kB bss (List.replicate n.sl 0)) hb hX;have k19:=MX.cell 19;have g19:=zf MX.str 19;have HX:=qqh MX;clear hX hb MX q1 q2 q3 v1;go_upto_region 20 with fail
  have M3:=HX.o.set 19 (ptr bss);generalize Wx.setCell ⟨c,19,none⟩ (ptr bss)=W3 at*;clear HN HX k19 g19;have hq:=za M3.sb;have hv:=za M3.lb;rw[HUV.o.1]at hq;rw[HUV.o.2]at hv;have q1:W3.cell? ⟨w.heap.size,1,none⟩=some (.int .i64 (n.bl:Int)):=hq 1;have q2:W3.cell? ⟨w.heap.size,2,none⟩=some (.int .i64 (n.sl:Int)):=hq 2;have q3:W3.cell? ⟨w.heap.size,3,none⟩=some (.int .i64 (n.jo:Int)):=hq 3;have v1:W3.cell? ⟨w2.heap.size,1,none⟩=some (.int .i64 (1+2*(n.pa:Int))):=hv 1;have HN:=qqh (JP (S:=fun j=>W3.heap.size<=j) n.sl n.bl W3 (fun _ h=>h) s1 s2 b1 b2);have HM:=qqh M3;clear hq hv M3;go_wp2_with fail
  try rw[show(1+2*(n.pa:Int))=((1+2*n.pa:Nat):Int) by simp]
  refine HN.o.mono ?_;rintro e Wx ⟨blg,rfl,hX,hb,-⟩;have MX:=HM.o.add 7 oe (Lg.kB blg n.bl (List.replicate n.sl (fun _=>false))) hb hX;have k20:=MX.cell 20;have g20:=zf MX.str 20;have HX:=qqh MX;clear hX hb MX q1 q2 q3 v1;go_upto_region 23 with fail
  have M4:=HX.o.set 20 (ptr blg);generalize Wx.setCell ⟨c,20,none⟩ (ptr blg)=W4 at*;clear HN HX k20 g20;have hq:=za M4.sb;have hv:=za M4.lb;rw[HUV.o.1]at hq;rw[HUV.o.2]at hv;have q1:W4.cell? ⟨w.heap.size,1,none⟩=some (.int .i64 (n.bl:Int)):=hq 1;have q2:W4.cell? ⟨w.heap.size,2,none⟩=some (.int .i64 (n.sl:Int)):=hq 2;have q3:W4.cell? ⟨w.heap.size,3,none⟩=some (.int .i64 (n.jo:Int)):=hq 3;have v1:W4.cell? ⟨w2.heap.size,1,none⟩=some (.int .i64 (1+2*(n.pa:Int))):=hv 1;have HN:=qqh (Ju (S:=fun j=>W4.heap.size<=j) n.sl n.sl W4 s1 s2 s2 (fun _ h=>h));have HM:=qqh M4;clear hq hv M4;go_wp2_with fail
  try rw[show(1+2*(n.pa:Int))=((1+2*n.pa:Nat):Int) by simp]
  refine HN.o.mono ?_;rintro e Wx ⟨bck,rfl,hX,-,hb⟩;have MX:=HM.o.add 8 oe (Ck.kB bck 0 n.sl n.sl [] (fun _=>false) []) hb hX;have k21:=MX.cell 21;have g21:=zf MX.str 21;have HX:=qqh MX;clear hX hb MX q1 q2 q3 v1;go_upto_region 26 with fail
  have M5:=HX.o.set 21 (ptr bck);generalize Wx.setCell ⟨c,21,none⟩ (ptr bck)=W5 at*;clear HN HX k21 g21;have hca:=M5.ca HO.o FL.out GL.out hwh;have hd:Did own0 _ w W5:=⟨(uuo M5.bel),M5.old,M5.new,M5.far⟩
  have HL:=qqh (HLd.out _ _ _ _ hd hca);have HD:=qqh hd;clear hca hd M5;go_wp2_with fail
  refine HL.o.mono ?_;rintro e w9 ⟨rfl,own9,hca9,hd9⟩;have HE:=Y2 hca9 (HD.o.trans hd9);clear hca9 hd9;go_wp2
  go_ret2
  exact⟨c,⟨ssd,back,bjr,bix,bss,blg,bck,sm⟩,own9,rfl,rfl,rfl,HE.o.1,HE.o.2⟩
end
end Go.Proofs.YtpejdgiccaijfaaGreatDoor
