/- A device: Firm -/
import Derived.Test.YtbnpkobbnjihjaaGreatDoorG02
import Derived.Test.YtbnpkobbnjihjaaGreatDoorG03
import Derived.Lib.SliceRun
import Derived.Test.YtbnpkobbnjihjaaGreatDoorG04
import Derived.RangeFuncWrites
set_option maxRecDepth 100000
set_option maxHeartbeats 4000000
namespace Go.Proofs.YtbnpkobbnjihjaaGreatDoor
open Go Go.RowKit Tryz
variable{w w':World}{S T:Nat->Prop}{F:List Bk}{O W:List (Nat×Bk)}{P:List Int}{b n next j d base cov:Nat}{vw:Value}{row:Option Nat}
structure DRes where
 F:List Bk
 O:List (Nat×Bk)
 P:List Int
 cd:Int
def AB(S:Nat->Prop)(w:World)(b:Nat)(r:DRes)(e:Ending)(w':World):Prop:=e=.returned (.int .i64 r.cd)/\Dv S w' b r.F r.O r.P/\Upd S w w'
def flushR(F:List Bk)(O:List (Nat×Bk))(P:List Int):DRes:=
 if fate P=1 then⟨F,O,P.tail,21⟩else if fate P=0 then⟨flushF F O,[],P.tail,0⟩else ⟨F,O,P.tail,0⟩
def writeR(F:List Bk)(O:List (Nat×Bk))(P:List Int)(s:Nat)(y:Bk):DRes:=
 if fate P=1 then⟨F,O,P.tail,20⟩else if fate P=0 then⟨F,O++[(s,y)],P.tail,0⟩else ⟨F,O,P.tail,0⟩
theorem UJ{s:Nat}(h:s<n):hasC n (s:Int)=0:=if_neg oM
theorem xg(h:Dv S w b F O P)(q:∀j,w.heap.size<=j->S j):
  Calls prog 33 #[.pointer (some ⟨b,0,none⟩)] w (AB S w b (flushR F O P)):=
 (zcm h q).mono fun e w' h=>by
  rcases h with⟨h1,rfl,k,p⟩|⟨h1,rfl,k,p⟩|⟨h1,h2,rfl,k,p⟩
  .rw [flushR,if_pos h1];exact⟨rfl,k,p⟩
  .rw [flushR,if_neg oM,if_pos h1];exact⟨rfl,k,p⟩
  .rw [flushR,if_neg h2,if_neg h1];exact⟨rfl,k,p⟩
theorem wD(h:Dv S w b F O P)(q:∀j,w.heap.size<=j->S j)(s:Nat)(v:s<F.length)(x:Bk)(hx:x.length=64)(A:O.length<65536):
  Calls prog 28 #[.pointer (some ⟨b,0,none⟩),.int .i64 (s:Int),.agg (bkC x).toArray] w (AB S w b (writeR F O P s x)):=
 (zcl h q s x hx A).mono fun e w' h=>by
  have D:=UJ v;rcases h with⟨h1,-⟩|⟨-,h1,rfl,k,p⟩|⟨-,h1,rfl,k,p⟩|⟨-,h1,h2,rfl,k,p⟩
  .exact absurd D h1
  .rw [writeR,if_pos h1];exact⟨rfl,k,p⟩
  .rw [writeR,if_neg oM,if_pos h1];rw[qxs]at k;exact⟨rfl,k,p⟩
  .rw [writeR,if_neg h2,if_neg h1];exact⟨rfl,k,p⟩
def AN(S:Nat->Prop)(w:World)(b:Nat)(F:List Bk)(O:List (Nat×Bk))(P:List Int)(s:Nat)(e:Ending)(w':World):Prop:=
 ∃(y:Bk) (cd:Int),e=.returned (.tuple #[.agg (bkC y).toArray,.int .i64 cd])/\y=(if fate P=1 then zB else curB F O s)/\cd=(if fate P=1 then 19 else 0)/\y.length=64/\Dv S w' b F O P.tail/\Upd S w w'
theorem wE(p:Dv S w b F O P)(q:∀j,w.heap.size<=j->S j)(s:Nat)(v:s<F.length):
  Calls prog 100 #[.pointer (some ⟨b,0,none⟩),.int .i64 (s:Int)] w (AN S w b F O P s):=
 (zeQ p q s).mono fun e w' A=>by
  have D:=UJ v;rcases A with⟨h1,-⟩|⟨-,h1,rfl,h,k⟩|⟨-,h1,rfl,h,k⟩
  .exact absurd D h1
  .exact ⟨zB,19,rfl,(if_pos h1).symm,(if_pos h1).symm,zG,h,k⟩
  .exact ⟨curB F O s,0,rfl,(if_neg h1).symm,(if_neg h1).symm,uz p.good s,h,k⟩
theorem Dv.but(h:Dv S w b F O P){q:Nat}(p:w.heap.size<=q):Dv (fun j=>S j/\j≠q) w b F O P:=
 h.kw (fun j k s=>⟨k,oM⟩)
theorem need_any(n:Nat)(h1:1<=n)(h2:n<=100000)(w:World):Calls prog 22 #[.int .i64 (n:Int)] w fun e w'=>e=.returned (.int .i64 (((n-1)/4+1:Nat):Int))/\w=w':=by
 have q1:decide ((n:Int)<0)=false:=oe;have q2:((n:Int)==0)=false:=by rw[qYp];omega
 have k:¬((n:Int)<0):=oM;go_enter func22,ntmps22
 go_wp2
 go_ret
 refine⟨?_,rfl⟩;show Ending.returned (Value.int .i64 _)=_
 congr 2
 omega
theorem zct(n f t:Int)(h1:f<=n)(h2:n<=t)(w:World):Calls prog 23 #[.int .i64 n,.int .i64 f,.int .i64 t] w fun e w'=>e=.returned (.bool true)/\w=w':=by
 have q1:decide (f<=n)=true:=by simpa using h1
 have q2:decide (n<=t)=true:=by simpa using h2
 go_enter func23,ntmps23
 go_wp2
 go_ret
 exact⟨rfl,rfl⟩
abbrev superC(id bl sl jo pa lo ba:Int):List Value:=[.int .i64 id,.int .i64 bl,.int .i64 sl,.int .i64 jo,.int .i64 pa,.int .i64 lo,.int .i64 ba]
abbrev layC(sl jo pa lo:Nat):List Value:=[.int .i64 1,.int .i64 (1+2*(pa:Int)),.int .i64 (1+2*(pa:Int)+(jo:Int)),.int .i64 (1+2*(pa:Int)+(jo:Int)+(lo:Int)),.int .i64 (1+2*(pa:Int)+(jo:Int)+(lo:Int)+(lo:Int)),.int .i64 (1+2*(pa:Int)+(jo:Int)+(lo:Int)+(lo:Int)+(lo:Int)),.int .i64 (1+2*(pa:Int)+(jo:Int)+(lo:Int)+(lo:Int)+(lo:Int)+(sl:Int))]
theorem Upd.jV(h:Upd (fun _=>False) w w'){o:Obj}(e:w.heap[b]?=some o):w'.heap[b]?=some o:=by
 have:=h.block b (Array.getElem?_eq_some_iff.1 e).1 id;rw[this,e]
theorem Sg(sl k p q:Nat):(layC sl k p q).toArray.all (·.oneCell')=true:=by
 refine qYo fun s h=>?_;simp only[layC,qzm,qzy,qYv]at h;rcases h with rfl|rfl|rfl|rfl|rfl|rfl|rfl<;>rfl
theorem xh:(prog.info? 62).map (·.size)=some 7:=kR
theorem xt:(prog.info? 38).map (·.size)=some 7:=kR
theorem uG(id:Int)(s sl p q k v:Nat)(ar:1<=s)(au:s<=4096)(ak:1<=sl)(av:sl<=1024)(aw:4<=p)(ax:p<=1024)(ay:1<=k)(az:k<=1024)(a1:1<=v)(a2:v<=64)(aA:(sl-1)/4+1<=q)(aB:q<=4096)
  (aC:1+2*q+p+k+k+k+sl<=4096) (w:World):
  Calls prog 16 #[.agg (superC id s sl p q k v).toArray] w fun e w'=>e=.returned (.tuple #[.agg (layC sl p q k).toArray,.int .i64 0])/\Below w.heap.size w w':=by
 have D:=zc w (.cells (superC id s sl p q k v).toArray 38) rfl;have N:(w.alloc (.cells (superC id s sl p q k v).toArray 38)).cell? ⟨w.heap.size,1,none⟩=some (.int .i64 (s:Int)):=za D 1;have R:(w.alloc (.cells (superC id s sl p q k v).toArray 38)).cell? ⟨w.heap.size,2,none⟩=some (.int .i64 (sl:Int)):=za D 2;have U:(w.alloc (.cells (superC id s sl p q k v).toArray 38)).cell? ⟨w.heap.size,3,none⟩=some (.int .i64 (p:Int)):=za D 3;have V:(w.alloc (.cells (superC id s sl p q k v).toArray 38)).cell? ⟨w.heap.size,4,none⟩=some (.int .i64 (q:Int)):=za D 4;have X:(w.alloc (.cells (superC id s sl p q k v).toArray 38)).cell? ⟨w.heap.size,5,none⟩=some (.int .i64 (k:Int)):=za D 5;have Y:(w.alloc (.cells (superC id s sl p q k v).toArray 38)).cell? ⟨w.heap.size,6,none⟩=some (.int .i64 (v:Int)):=za D 6;go_enter func16,ntmps16
 go_wp2_with fail
 have E:Upd (fun _=>False) (w.alloc (.cells (superC id s sl p q k v).toArray 38)) ((w.alloc (.cells (superC id s sl p q k v).toArray 38)).alloc (.cells #[.int .i64 0,.int .i64 0,.int .i64 0,.int .i64 0,.int .i64 0,.int .i64 0,.int .i64 0] 62)):=(uur _ _).alloc _;have G:((w.alloc (.cells (superC id s sl p q k v).toArray 38)).alloc (.cells #[.int .i64 0,.int .i64 0,.int .i64 0,.int .i64 0,.int .i64 0,.int .i64 0,.int .i64 0] 62)).heap[w.heap.size+1]?=_:=zc _ _ oe;have Z:Upd (fun _=>False) w ((w.alloc (.cells (superC id s sl p q k v).toArray 38)).alloc (.cells #[.int .i64 0,.int .i64 0,.int .i64 0,.int .i64 0,.int .i64 0,.int .i64 0,.int .i64 0] 62)):=((uur _ w).alloc _).alloc _;have H:((w.alloc (.cells (superC id s sl p q k v).toArray 38)).alloc (.cells #[.int .i64 0,.int .i64 0,.int .i64 0,.int .i64 0,.int .i64 0,.int .i64 0,.int .i64 0] 62)).heap.size=w.heap.size+2:=oe;replace N:=E.jU N (fun h=>h);replace R:=E.jU R (fun h=>h);replace U:=E.jU U (fun h=>h);replace V:=E.jU V (fun h=>h);replace X:=E.jU X (fun h=>h);replace Y:=E.jU Y (fun h=>h);generalize (w.alloc (.cells (superC id s sl p q k v).toArray 38)).alloc (.cells #[.int .i64 0,.int .i64 0,.int .i64 0,.int .i64 0,.int .i64 0,.int .i64 0,.int .i64 0] 62)=A at*;generalize am:w.heap.size=m at*;have M:=Y3 G Z H;clear D E G Z H
 go_region_held3 (fun W=>W.cell? ⟨m,1,none⟩=some (.int .i64 (s:Int))/\W.cell? ⟨m,2,none⟩=some (.int .i64 (sl:Int))/\W.cell? ⟨m,3,none⟩=some (.int .i64 (p:Int))/\W.cell? ⟨m,4,none⟩=some (.int .i64 (q:Int))/\W.cell? ⟨m,5,none⟩=some (.int .i64 (k:Int))/\W.cell? ⟨m,6,none⟩=some (.int .i64 (v:Int)))
  ((go_split_ands;(simp only[qYi]at*);((repeat' constructor)<;>assumption)))
  (first|(go_at_call 23;refine(zct _ _ _ oM oM _).mono ?_;rintro e w' ⟨rfl,rfl⟩)|(go_at_call 22;refine(need_any _ ak oM _).mono ?_;rintro e w' ⟨rfl,rfl⟩))
 obtain⟨G,Z,H⟩:=M.o;clear M N R U V X Y
 rename_i an
 obtain⟨N,R,U,V,X,Y⟩:=an;have aD:m<A.drew.heap.size:=by show _<A.heap.size;omega
 have aE:m+1<A.drew.heap.size:=by show _<A.heap.size;omega
 have aa:Upd (fun _=>False) w A.drew:=Z.drew;replace G:A.drew.heap[m+1]?=_:=G;replace H:A.drew.heap.size=m+2:=H;have M:=Y3 G aa H;clear G Z H aa;generalize A.drew=J at*;have ab:Hid (∀a7,(J.alloc a7).there (m+1) 0 7):=by
  intro a7 j hj;have ad:(J.alloc a7).heap[m+1]?=_:=((uur (fun _=>False) J).alloc a7).jV M.o.1;rw[za ad,zg ad,qXy];refine⟨?_,rfl⟩;rw[qxe oz];rfl
 go_upto_region 14 with fail
 have ao:=zf (zc J (.cells (layC sl p q k).toArray 62) rfl);have ae:Below w.heap.size w (J.alloc (.cells (layC sl p q k).toArray 62)):=Upd.below ((M.o.2.1).alloc _);have a8:=ab.out (.cells (layC sl p q k).toArray 62);clear N R U V X Y M ab;generalize J.alloc (.cells (layC sl p q k).toArray 62)=af at*;generalize J.heap.size=aF at*;have a6:(layC sl p q k).length=7:=rfl;have h1:=Sg sl p q k;have ap:(Value.tuple #[.agg (layC sl p q k).toArray,.int .i64 0])=Value.tuple #[.agg (layC sl p q k).toArray,.int .i64 0]:=rfl;generalize aq:layC sl p q k=K at*;have ag:(prog.info? 62).map (·.size)=some K.length:=by rw[a6];exact xh
 have ah:(prog.info? 62).map (·.size)=some K.toArray.size:=by rw[qXh,a6];exact xh
 have ai:af.there (m+1) 0 K.toArray.size:=by rw[qXh,a6];exact a8
 have aj:af.there (m+1) 0 K.length:=by rw[a6];exact a8
 have L:=Y6 ae ai aj ag ah h1;clear ae a8 ai aj ag ah h1 a6 ap;go_wp2_with (first
  |(refine qZa rfl _ _ rfl _ _ rfl K _ ao underlying62 rfl L.o.2.2.2.1 ?_)
  |(refine qZc rfl _ _ _ rfl (m+1) 0 K.toArray rfl rfl L.o.2.1 L.o.2.2.2.2.1 L.o.2.2.2.2.2 ?_)
  |fail)
 refine qYq (zp rfl _ _ (m+1) 0 K _ rfl (qYl _ _ _ _ L.o.2.2.1) underlying62 rfl L.o.2.2.2.1) rfl ⟨by subst aq;rfl,zj (am▸L.o.1) (zo _ (m+1) 0 _) oM (fun aG e=>oM)⟩
def JrAt(w:World)(j:Nat)(d:Nat)(base n seq next:Int):Prop:=
 w.cell? ⟨j,0,none⟩=some (.pointer (some ⟨d,0,none⟩))/\w.cell? ⟨j,1,none⟩=some (.int .i64 base)/\w.cell? ⟨j,2,none⟩=some (.int .i64 n)/\
  w.cell? ⟨j,3,none⟩=some (.int .i64 seq)/\w.cell? ⟨j,4,none⟩=some (.int .i64 next)
theorem zeW(w:World)(j d:Nat)(base n seq next:Int)(h:JrAt w j d base n seq next):
  Calls prog 133 #[.pointer (some ⟨j,0,none⟩)] w fun e w'=>e=.returned (.int .i64 next)/\w=w':=by
 obtain⟨k,h1,h2,p,q⟩:=h;go_enter func133,ntmps133
 go_wp2
 go_ret
 exact⟨rfl,rfl⟩
theorem UK(h:Dv S w b F O P)(base n:Nat)(h1:1<=n)(h2:n<=1024)(k:base+n<=F.length)(p:F.length<=4096):
  Calls prog 173 #[.pointer (some ⟨b,0,none⟩),.int .i64 (base:Int),.int .i64 (n:Int)] w fun e w'=>e=.returned (.int .i64 0)/\w=w':=by
 have q1:decide ((base:Int)<0)=false:=oe;have q2:decide ((n:Int)<1)=false:=by simp;omega
 have q:decide ((n:Int)>1024)=false:=by simp;omega
 have s:decide (1024<(n:Int))=false:=by simp;omega
 have v:decide ((base:Int)>F.length-n)=false:=by simp;omega
 have A:decide ((F.length:Int)-n<(base:Int))=false:=by simp;omega
 go_enter func173,ntmps173
 go_wp2_with (first
  |(go_at_call 55;refine(tT h).mono ?_;rintro e w' ⟨rfl,rfl⟩)
  |fail)
 go_ret
 exact⟨rfl,rfl⟩
structure JnGood(base n cov next:Nat)(W:List (Nat×Bk)):Prop where
 w64:∀p∈W,p.2.length=64
 lt:∀p∈W,p.1<next
 n1:1<=n/\n<=1024
 wl:W.length+cov+1<=next
 room:next<=cov+n+1
 mx:next<=1099511627777
 bs:base<=4096
structure JnAt(w:World)(j:Nat)(vw:Value)(d base n cov next:Nat)(W:List (Nat×Bk)):Prop where
 str:w.heap[j]?=some (.cells #[.pointer (some ⟨d,0,none⟩),.int .i64 base,.int .i64 n,.int .i64 cov,.int .i64 next,vw] 285 (0,0))
 ws:Sl w 338 65 vw W.length (AA W)
 wb:vw.ownBlock≠some j
 good:JnGood base n cov next W
def jnS(j:Nat)(vw:Value):Nat->Prop:=fun k=>k=j\/vw.ownBlock=some k
section
variable{w w':World}{j d base n cov next:Nat}{vw:Value}{W:List (Nat×Bk)}
theorem JnAt.keep(h:JnAt w j vw d base n cov next W)(k:Upd S w w')(p:∀q,jnS j vw q->¬S q):JnAt w' j vw d base n cov next W:=
 {h with
  str:=(k.block _ (zd h.str) (p j (.inl rfl))).trans h.str
  ws:=h.ws.keep k (fun g s=>p g (.inr s))}
theorem JnAt.new(h:JnAt w j vw d base n cov next W)(k:Upd (fun _=>False) w w'):JnAt w' j vw d base n cov next W:=h.keep k (fun _ _ h=>h)
theorem JnAt.slt(k:JnAt w j vw d base n cov next W):∀h,jnS j vw h->h<w.heap.size:=by
 rintro h (rfl|p)
 .exact zd k.str
 .exact k.ws.lt p
theorem JnAt.c(h:JnAt w j vw d base n cov next W):w.cell? ⟨j,0,none⟩=some (.pointer (some ⟨d,0,none⟩))/\w.cell? ⟨j,1,none⟩=some (.int .i64 base)/\w.cell? ⟨j,2,none⟩=some (.int .i64 n)/\
  w.cell? ⟨j,3,none⟩=some (.int .i64 cov)/\w.cell? ⟨j,4,none⟩=some (.int .i64 next)/\w.cell? ⟨j,5,none⟩=some vw:=by
 refine⟨?_,?_,?_,?_,?_,?_⟩<;>rw[za h.str]<;>rfl
theorem JnAt.fz(h:JnAt w j vw d base n cov next W)(i:Nat):w.frozen? ⟨j,i,none⟩=false:=zg h.str i
structure WtAt(w:World)(vw:Value)(next:Nat)(W:List (Nat×Bk)):Prop where
 ws:Sl w 338 65 vw W.length (AA W)
 w64:∀p∈W,p.2.length=64
 lt:∀p∈W,p.1<next
 wl:W.length+1<=next
 mx:next<=1099511627777
theorem JnAt.wt(h:JnAt w j vw d base n cov next W):WtAt w vw next W:=⟨h.ws,h.good.w64,h.good.lt,by have:=h.good.wl;omega,h.good.mx⟩
theorem WtAt.keep(h:WtAt w vw next W)(p:Upd S w w')(q:∀k,vw.ownBlock=some k->¬S k):WtAt w' vw next W:={h with ws:=h.ws.keep p q}
theorem WtAt.new(h:WtAt w vw next W)(k:Upd (fun _=>False) w w'):WtAt w' vw next W:=h.keep k (fun _ _ h=>h)
theorem WtAt.range(q:WtAt w vw next W){k:Nat}(s:k<W.length):∃g h p,vw=.slice (some ⟨g,h,none⟩) W.length p/\g<w.heap.size/\W.length<=p/\w.rangeAt g (h+k*65) (wrC W[k].1 W[k].2):=by
 obtain⟨H,⟨_,J⟩|⟨g,h,p,K,rfl,v,E,L,M,G⟩⟩:=q.ws
 .omega
 .refine ⟨g,h,p,rfl,zd v,E,fun j N A=>?_⟩;have D:=(qyl.1 A).1;rw[wrC_len,q.w64 _ (qyu s)]at D;rw[za v,qXl];exact G _ _ (by rw[RP q.w64 s D];exact A)
theorem JnAt.range(q:JnAt w j vw d base n cov next W){k:Nat}(s:k<W.length):∃g h p,vw=.slice (some ⟨g,h,none⟩) W.length p/\g<w.heap.size/\W.length<=p/\w.rangeAt g (h+k*65) (wrC W[k].1 W[k].2):=q.wt.range s
end
def Jn(S:Nat->Prop)(w:World)(j d base n cov next:Nat)(W:List (Nat×Bk)):Prop:=∃vw,JnAt w j vw d base n cov next W/\∀k,jnS j vw k->S k
theorem Jn.kD(j d base n cov next:Nat)(W:List (Nat×Bk)):Thing (fun S w=>Jn S w j d base n cov next W)where
 keep:=fun h v q=>by
  obtain⟨s,h,k⟩:=h;exact⟨s,h.keep v (fun j p=>q j (k j p)),k⟩
 out:=fun h q=>by
  obtain⟨s,h,k⟩:=h;exact⟨s,h,fun j p=>q j (h.slt j p) (k j p)⟩
theorem Jn.good(h:Jn S w j d base n cov next W):JnGood base n cov next W:=by obtain⟨v,h,-⟩:=h;exact h.good
theorem TZ(h:Jn S w j d base n cov next W):
  Calls prog 133 #[.pointer (some ⟨j,0,none⟩)] w fun e w'=>e=.returned (.int .i64 (next:Int))/\w=w':=by
 obtain⟨s,h,-⟩:=h;obtain⟨k,c1,c2,p,q,v⟩:=h.c;exact zeW w j d base n cov next ⟨k,c1,c2,p,q⟩
theorem Sh(h:Dv T w b F O P)(k:∀j,w.heap.size<=j->S j)(base n seq:Nat)(h1:1<=n)(h2:n<=1024)(p:base+n<=F.length)(A:seq<1099511627776):
  Calls prog 107 #[.pointer (some ⟨b,0,none⟩),.int .i64 (base:Int),.int .i64 (n:Int),.int .i64 (seq:Int)] w fun e w'=>∃j,e=.returned (.tuple #[.pointer (some ⟨j,0,none⟩),.int .i64 0])/\
   Jn S w' j b base n seq (seq+1) []/\w.heap.size<=j/\Below w.heap.size w w':=by
 have q:=h.good.fl;have q1:decide ((seq:Int)<0)=false:=oe;have q2:decide ((seq:Int)>=1099511627776)=false:=by simp;omega
 have D:¬(1099511627776<=(seq:Int)):=oM;go_enter func107,ntmps107
 go_wp2_with (first
  |(go_at_call 173;refine(UK h base n h1 h2 p q).mono ?_;rintro e w' ⟨rfl,rfl⟩)
  |fail)
 go_ret2
 have s:=zc w (.cells #[.pointer (some ⟨b,0,none⟩),.int .i64 (base:Int),.int .i64 (n:Int),.int .i64 (seq:Int),.int .i64 ((seq:Int)+1),.slice none 0 0] 285) rfl;refine⟨w.heap.size,rfl,⟨.slice none 0 0,⟨?_,Sl.nil _ _ _,by simp[Value.ownBlock],⟨oe,oe,⟨h1,h2⟩,oe,oM,oM,oM⟩⟩,?_⟩,qXp _,(qxl _ w).alloc (qXp _) _⟩
 .rw [s];simp
 .rintro E (rfl|v)
  .exact k _ (qXp _)
  .cases v
theorem zcu:(prog.info? 338).map (·.size)=some 65:=kR
theorem ug(s:Int)(x:Bk)(hx:x.length=64):(prog.info? 338).map (·.size)=some (wrC s x).length:=by
 rw[zcu,wrC_len,hx]
theorem qu:Tryz.zeroCells338.size=65:=kR
theorem zcb(w:World)(q:Nat)(s:Int)(h:w.cell? ⟨q,0,none⟩=some (.int .i64 s))(x:Nat)(y:Bk)(hx:(x:Int)<=s):
  Calls prog 205 #[.agg (wrC (x:Int) y).toArray,.pointer (some ⟨q,0,none⟩)] w fun e w'=>e=.returned (.bool true)/\Below w.heap.size w w':=by
 have A:q<w.heap.size:=(zH h).2;obtain⟨k,p⟩:=qqe ((wrC (x:Int) y).toArray);have v:k[0]?=some (.int .i64 (x:Int)):=by rw[p];rfl
 have q1:decide ((x:Int)<=s)=true:=by simpa using hx
 have D:(w.alloc (.cells k 338)).cell? ⟨q,0,none⟩=some (.int .i64 s):=zl h _;have E:(w.alloc (.cells k 338)).cell? ⟨w.heap.size,0,none⟩=some (.int .i64 (x:Int)):=(za (zc w _ rfl) 0).trans v;rw[<-p];clear p h;go_enter func205,ntmps205
 go_wp2
 go_ret
 exact⟨rfl,(qxl _ _).alloc (qXp _) _⟩
theorem zcv:(prog.info? 338).map (fun i=>(i.zero.map (fun z=>(z.cells.size,z.cells.all (·.oneCell'))),i.size))=some (some (65,true),65):=kR
theorem ZM:∃i z,prog.info? 338=some i/\i.zero=some z/\z.cells.size=65/\z.cells.all (·.oneCell')=true/\i.size=65:=by
 obtain⟨i,p,k⟩:=qYc.1 zcv;simp only[qYe]at k;obtain⟨h1,h2⟩:=k;obtain⟨z,q,h⟩:=qYc.1 h1;simp only[qYe]at h;exact⟨i,z,p,q,h.1,h.2,h2⟩
theorem ZN{g off cap:Nat}{k:Array Value}(q:w.heap[g]?=some (.cells k 338 (0,0)))(U:off+n*65<=k.size)(V:0<n):
  ∃w',(∀s,(Builtin.clear_ #[283] s #[.slice (some ⟨g,off,none⟩) n cap]).run prog w=.ok (.tuple #[]) w')/\Upd (fun j=>j=g) w w'/\
   ∃p,w'.heap[g]?=some (.cells p 338 (0,0))/\p.size=k.size:=by
 obtain⟨i,z,H,J,K,L,X⟩:=ZM;have M:(Builtin.zeroCells z.cells n).toList.length=n*65:=by simp[Builtin.zeroCells,K]
 have h1:∀v∈(Builtin.zeroCells z.cells n).toList,v.oneCell'=true:=by
  intro v A;simp only[Builtin.zeroCells,Array.toList_map,qzq]at A;obtain⟨D,Y,rfl⟩:=A;have:D%z.cells.size<z.cells.size:=qXu _ oM;rw[getElem!_pos z.cells (D%z.cells.size) this];exact Array.all_eq_true.1 L _ this
 have E:=run_storeCells_cells (P:=prog) g off (Builtin.zeroCells z.cells n).toList 0 w
  (fun j G=>by rw[M]at G;rw[za q,qXm,qxe oM];rfl) (fun j G=>zg q _) h1
 simp only[qXm]at E;obtain⟨p,h2,N,-⟩:=zC (Builtin.zeroCells z.cells n).toList off w g k _ _ q;have R:∀w,(zeroValue 338).run prog w=.ok z w:=fun w=>by simp[zeroValue,typeInfo,H,J]
 refine⟨_,fun s=>?_,yo _ w g off _ rfl,p,h2,N⟩;obtain⟨m,rfl⟩:∃m,n=m+1:=⟨n-1,oM⟩
 simp[Builtin.clear_,run_underlying underlying283,R,E]
abbrev zeX(q:Nat):Value:=.func (.func 205) #[] #[.pointer (some ⟨q,0,none⟩)]
theorem zgH(h:WtAt w vw next W)(q:Nat)(s:Int)(v:w.cell? ⟨q,0,none⟩=some (.int .i64 s))(E:s=(next:Int)-1):
  Calls prog 265 #[vw,zeX q] w fun e w'=>e=.returned (.int .i64 (if W=[]then-1 else 0))/\Below w.heap.size w w':=by
 by_cases k:W=[]
 .subst k;rw[if_pos rfl];obtain⟨K,c,rfl⟩:=h.ws.rd.jW;clear h;go_enter func265,ntmps265
  go_wp2
  go_loop [8] (fun i=>i=.int .i64 0) (fun _=>0)
  case atStart=>rfl
  case round=>
   subst hrel;go_wp2
   go_ret
   exact⟨rfl,qxl _ _⟩
 .rw [if_neg k];have p:0<W.length:=by cases W with|nil=>exact absurd rfl k|cons a l=>simp
  obtain⟨g,L,M,rfl,N,R,A⟩:=h.range p;have hlt:=h.lt W[0] (qyu p);have G:=h.w64 W[0] (qyu p);have U:=h.wl;have V:=h.mx;rw[qYa,qXm]at A;have X:(0:Int)<(W.length:Int):=oM;have D:=zcb w q s v W[0].1 W[0].2 oM;generalize W[0].1=x at*;generalize W[0].2=y at*;have H:=qqh D;clear h k D E v hlt;generalize W.length=m at*;go_enter func265,ntmps265
  go_wp2
  go_loop [8] (fun i=>i=.int .i64 0) (fun _=>0)
  case atStart=>rfl
  case round=>
   subst hrel;go_wp2_with (first
    |refine qZa rfl _ _ rfl _ _ rfl _ _ A underlying338 rfl (ug _ _ G) ?_
    |fail)
   refine H.o.mono ?_;rintro e w' ⟨rfl,J⟩;go_wp2
   go_ret
   exact⟨rfl,J⟩
def AO(w:World)(vw:Value)(e:Ending)(w':World):Prop:=∃v',e=.returned v'/\Sl w' 338 65 v' 0 []/\v'.ownBlock=vw.ownBlock/\Upd (fun k=>vw.ownBlock=some k) w w'
theorem zgI(h:WtAt w vw next W)(q:Nat)(s:Int)(p:w.cell? ⟨q,0,none⟩=some (.int .i64 s))(D:vw.ownBlock≠some q)(v:s=(next:Int)-1):
  Calls prog 204 #[vw,zeX q] w (AO w vw):=by
 have K:=qqh (zgH h q s p v);by_cases L:W=[]
 .subst L;rw[if_pos rfl]at K;have M:=qqh h;clear h p v D;go_enter func204,ntmps204
  go_wp2_with fail
  refine K.o.mono ?_;rintro e w' ⟨rfl,H⟩;go_wp2
  go_ret
  exact⟨vw,rfl,(M.o.new (uuo H)).ws,rfl,(uuo H)⟩
 .rw [if_neg L]at K;have af:0<W.length:=by cases W with|nil=>exact absurd rfl L|cons a l=>simp
  obtain⟨-,⟨_,h2⟩|⟨g,V,X,ar,rfl,A,ag,ah,E,-⟩⟩:=h.ws
  .omega
  unfold maxLen at ah;have au:=h.wl;have av:=h.mx;have M:=Y6 h p v A E D;clear h p v L A E D;go_enter func204,ntmps204
  go_wp2_with fail
  refine K.o.mono ?_;rintro e w1 ⟨rfl,H⟩;have ai:=qqb H;clear H;go_wp2
  go_loopw[5,6] (fun aj U wr=>∃k:Nat,1<=k/\k<=W.length/\aj=.int .i64 0/\U=.int .i64 k/\Upd (fun _=>False) w wr) (fun _ U _=>W.length-(intOf U).toNat)
  case atStart=>exact⟨1,oM,oM,rfl,rfl,ai⟩
  case round=>
   obtain⟨k,aw,ax,rfl,rfl,G⟩:=hrel;by_cases hlt:k<W.length
   .obtain ⟨h,p,v,A,E,D⟩:=M.o;obtain⟨ay,az,aA,ak,aB,aC,am⟩:=(h.new G).range hlt;cases ak;have an:=h.lt W[k] (qyu hlt);have N:=h.w64 W[k] (qyu hlt);have aD:(0:Int)<=(k:Int):=oM;have aE:(k:Int)<(W.length:Int):=oM;have Y:wr.cell? ⟨q,0,none⟩=some (.int .i64 s):=G.jU p id;have Z:Upd (fun _=>False) w (wr.alloc (.cells (wrC (W[k].1:Int) W[k].2).toArray 338)):=G.alloc _;have ao:=zf (zc wr (.cells (wrC (W[k].1:Int) W[k].2).toArray 338) rfl);have a6:=zcb (wr.alloc (.cells (wrC (W[k].1:Int) W[k].2).toArray 338)) q s (zl Y _) W[k].1 W[k].2 oM;generalize W[k].1=x at*;generalize W[k].2=y at*;have a7:=Y2 a6 Z;clear h a6 v p an G A E D Y Z;go_wp2_with (first
     |refine qZa rfl _ _ rfl _ _ rfl _ _ am underlying338 rfl (ug _ _ N) ?_
     |refine qZa rfl _ _ rfl _ _ rfl _ _ ao underlying338 rfl (ug _ _ N) ?_
     |(refine zk rfl _ _ _ rfl _ _ _ rfl rfl (by rw[qu,wrC_len,N]) (ug _ _ N) (uw _ _) ?_)
     |fail)
    refine a7.o.1.mono ?_;rintro e a8 ⟨rfl,aa⟩;have R:Upd (fun _=>False) w a8:=a7.o.2.trans (uuo aa);clear aa;go_wp2
    go_roundw
    case rel=>exact⟨k+1,oM,oM,rfl,by go_num,R⟩
    case measure=>simp[intOf];omega
   .obtain rfl:k=W.length:=oM;obtain⟨h,p,v,A,E,D⟩:=M.o;have ab:=(G.block _ (zd A) id).trans A;have ap:=qXv 65 ag;obtain⟨a8,aF,R,aq,ad,ae⟩:=ZN (off:=V) (n:=W.length) (cap:=X) ab oM af;have J:=Y5 G R ad ae E;clear h p v A E D G R ad ab ae ap;go_wp2
    go_ret
    refine⟨_,rfl,⟨oe,.inr ⟨g,V,X,aq,rfl,J.o.2.2.1,oM,by unfold maxLen;omega,by rw[J.o.2.2.2.1];exact J.o.2.2.2.2,oe⟩⟩,rfl,(J.o.1.mono fE).trans (J.o.2.1.mono (fun k _ e=>by simp[Value.ownBlock,e]))⟩
def AP(S:Nat->Prop)(w:World)(j d base n next:Nat)(e:Ending)(w':World):Prop:=e=.returned (.int .i64 0)/\Jn S w' j d base n (next-1) next []/\Upd S w w'
theorem zcw(h:Jn S w j d base n cov next W)(s:Int)(v:s=(next:Int)-1):
  Calls prog 134 #[.pointer (some ⟨j,0,none⟩),.int .i64 s] w (AP S w j d base n next):=by
 obtain⟨vw,h,p⟩:=h;have q:Upd (fun _=>False) w (w.alloc (.cells #[.int .i64 s] 3)):=(uur _ w).alloc _;have am:(w.alloc (.cells #[.int .i64 s] 3)).cell? ⟨w.heap.size,0,none⟩=some (.int .i64 s):=za (zc w _ rfl) 0;have a6:=h.new q;have az:=zd h.str;have aA:=h.good.wl;have aB:=h.good.mx;have aC:=qqf;have q1:decide (s<(cov:Int))=false:=by simp;omega
 have q2:decide ((next:Int)<=s)=false:=by simp;omega
 have A:vw.ownBlock≠some w.heap.size:=fun e=>by have:=h.ws.lt e;omega
 have an:=Y5 h q A v p;clear h A v p;go_enter func134,ntmps134
 go_wp2_with fail
 have aa:=Y2 a6 am;generalize ab:w.alloc (.cells #[.int .i64 s] 3)=w1 at*;have aD:w.heap.size<w1.heap.size:=by rw[<-ab];simp
 clear ab;obtain⟨Y,c1,c2,a7,D,a8⟩:=a6.c;clear a6 q
 go_quiet(fail)
 have E:Upd (fun _=>False) w1 (w1.drewN nq):=(uur _ _).drewN nq;generalize w1.drewN nq=J at*;obtain⟨h,q,A,v,p⟩:=an.o;have k:=aa.o.1.new E;have ad:J.cell? ⟨w.heap.size,0,none⟩=some (.int .i64 s):=E.jU aa.o.2 id;clear Y c1 c2 a7 D a8;obtain⟨Y,c1,c2,a7,D,a8⟩:=k.c;have ao:=k.fz 3;have G:=zh k.str 3 (.int .i64 s);have H:=zi J j 3 (.int .i64 s);have ae:(J.setCell ⟨j,3,none⟩ (.int .i64 s)).cell? ⟨w.heap.size,0,none⟩=some (.int .i64 s):=(H.jU ad oM)
 have af:vw.ownBlock≠some j:=k.wb;have ag:=k.wt.keep H (fun M Z e=>af (by rw[Z,e]));have ap:=qqh (zgI ag w.heap.size s ae A v);have ah:=Y8 k E G H q p v A;have aq:=Y;have ar:(J.setCell ⟨j,3,none⟩ (.int .i64 s)).cell? ⟨j,5,none⟩=some vw:=by rw[za G];rfl
 obtain⟨au,c,av⟩:=k.ws.rd.jW;clear k E G H q p v A ag af ae h c1 c2 D aq;subst av;generalize aE:J.setCell ⟨j,3,none⟩ (.int .i64 s)=ai at*;go_wp2_with fail
 refine ap.o.mono ?_;rintro e N ⟨v4,rfl,R,U,V⟩;obtain⟨X,D,rfl⟩:=R.rd.jW;obtain⟨k,E,G,H,q,p,v,A⟩:=ah.o;have K:=(V.block _ (zd G) k.wb).trans G;have aF:N.cell? ⟨j,5,none⟩=some (.slice au W.length c):=by rw[za K];rfl
 have aG:=zg K 5;have aw:=Y4 R U V K;clear R U V K k E G H q p v A Y a7 a8 ar ao ad;go_wp2
 go_ret
 obtain⟨k,E,G,H,q,p,v,A⟩:=ah.o;obtain⟨R,U,V,K⟩:=aw.o;have aj:=zi N j 5 (.slice X 0 D);have ax:=zh K 5 (.slice X 0 D);have ak:(Value.slice X 0 D).ownBlock≠some j:=by rw[U];exact k.wb
 have L:=k.good;have ay:s=((next-1:Nat):Int):=by have:=L.wl;omega
 refine⟨rfl,⟨.slice X 0 D,⟨?_,R.kA aj ak,ak,⟨oe,oe,L.n1,by simp;have:=L.wl;omega,by have:=L.n1;omega,L.mx,L.bs⟩⟩,?_⟩,?_⟩
 .rw [ax,<-ay];rfl
 .rintro M (rfl|Z)
  .exact p _ (.inl rfl)
  .rw [U]at Z;exact p _ (.inr Z)
 .have a1:Upd S w J:=(q.trans E).mono fE;have a2:Upd S J ai:=H.mono (fun M _ e=>e▸p j (.inl rfl));have a3:Upd S ai N:=V.mono (fun M _ e=>p M (.inr e));have a4:Upd S N (N.setCell ⟨j,5,none⟩ (.slice X 0 D)):=aj.mono (fun M _ e=>e▸p j (.inl rfl));exact((a1.trans a2).trans a3).trans a4
theorem AQ:(prog.info? 338).map (fun i=>(i.zero.map (·.cells.size),i.size,i.bytes))=some (some 65,65,72):=kR
theorem Qa:(match prog.underlying 338 with|some (.struct fs)=>fs.toList.mapM (fun f=>(prog.info? f.type).map fun i=>(f.offset,i.size))|_=>none)=some [(0,1),(1,64)]:=kR
theorem xP:∃i z,prog.info? 338=some i/\i.zero=some z/\z.cells.size=65/\i.size=65/\i.bytes=72:=by
 obtain⟨i,k,h⟩:=qYc.1 AQ;simp only[qYe]at h;obtain⟨h1,h2,p⟩:=h;obtain⟨z,q,s⟩:=qYc.1 h1;exact⟨i,z,k,q,s,h2,p⟩
theorem vT(p q:Value)(s:p.cells.size=1)(v:q.cells.size=64)(w:World):(Instr.build 338 #[(0,p),(1,q)]).run prog w=.ok (.agg (p.cells.toList++q.cells.toList).toArray) w:=by
 refine run_build w _ _ _ ?_;obtain⟨i,z,A,D,E,_,_⟩:=xP;have h:=Qa;have k:=underlying338;unfold Program.built;rw[k]at h;rw[A,k];simp only[D];simp only at h;rw[h];exact YO p q s v z.cells E _ rfl rfl
theorem tV(v:Value)(p:v.cells.size=65)(w:World):(Instr.buildSlice 283 1 #[(0,v)]).run prog w=.ok (.slice (some ⟨w.heap.size,0,none⟩) 1 1) (w.alloc (.cells v.cells 338)):=by
 obtain⟨i,z,q,s,A,hsz,_⟩:=xP;refine run_buildSlice w _ _ 1 _ _ i z underlying283 q s jx jx ?_;obtain⟨a1,a2⟩:=yQ 0 v.cells ((Array.range (1*i.size)).map (z.cells[·%z.cells.size]!));rw[show(#[(0,v)]:Array (Nat×Value)).toList=[(0,v)]from rfl];rw[xw _ _ 0 0 65 v _ jD p jD];show some _=_
 congr 1
 apply qxd
 intro k;rw[a2 k];by_cases D:k<65
 .rw [if_pos ⟨oM,oM,by simp[hsz];omega⟩];rfl
 .rw [if_neg oM,qxf jQ,qxf oM]
theorem ZO(h:Option Tmp)(s:TypeId)(pos:String)(after:Array Edge)(p q:Operand)(a:Act)(w:World)(k:Act->World->Prop)(Q:Exit->Act->World->Prop)(v:(a.eval p).cells.size=1)(A:(a.eval q).cells.size=64):
  Oper.wp prog {dst:=h,op:=.build 338 #[(0,p),(1,q)],type:=s,pos:=pos,after:=after,guard:=none} a w k Q=k (a.put h (.agg ((a.eval p).cells.toList++(a.eval q).cells.toList).toArray)) w:=by
 unfold Oper.wp execOp;have:=vT (a.eval p) (a.eval q) v A w;simp only[qzk,qzh,qzj,qYg,this,qYf];rfl
theorem Vf(h:Option Tmp)(q:TypeId)(pos:String)(after:Array Edge)(p:Operand)(a:Act)(w:World)(k:Act->World->Prop)(Q:Exit->Act->World->Prop)(s:(a.eval p).cells.size=65):
  Oper.wp prog {dst:=h,op:=.buildSlice 283 1 #[(0,p)],type:=q,pos:=pos,after:=after,guard:=none} a w k Q=k (a.put h (.slice (some ⟨w.heap.size,0,none⟩) 1 1)) (w.alloc (.cells (a.eval p).cells 338)):=by
 unfold Oper.wp execOp;have:=tV (a.eval p) s w;simp only[qzk,qzh,qzj,qYg,this,qYf];rfl
theorem qX(a:Act)(p q:Operand)(w:World)(h:(a.eval p).cells.size=1)(k:(a.eval q).cells.size=64):
  (Instr.build 338 ((#[(0,p),(1,q)]:Array (Nat×Operand)).map fun(i,x)=>(i,a.eval x))).run prog w=.ok (.agg ((a.eval p).cells.toList++(a.eval q).cells.toList).toArray) w:=by
 have:=vT (a.eval p) (a.eval q) h k w;simp only[qzk,qzh,qzj];exact this
theorem ZP(a:Act)(p:Operand)(w:World)(h:(a.eval p).cells.size=65):
  (Instr.buildSlice 283 1 ((#[(0,p)]:Array (Nat×Operand)).map fun(i,x)=>(i,a.eval x))).run prog w=.ok (.slice (some ⟨w.heap.size,0,none⟩) 1 1) (w.alloc (.cells (a.eval p).cells 338)):=by
 have:=tV (a.eval p) h w;simp only[qzk,qzh,qzj];exact this
theorem Qb(s:Int)(x:Bk)(hx:x.length=64):List.foldl (fun(cs:Array Value) (x:Value×Nat)=>cs.setIfInBounds (1+x.2) x.1) (Tryz.zeroCells338.setIfInBounds 0 (.int .i64 s)) (bkC x).zipIdx=(wrC s x).toArray:=by
 have p:(bkC x).length=64:=by rw[zn,hx]
 have q:(Tryz.zeroCells338.setIfInBounds 0 (.int .i64 s)).size=65:=by rw[Array.size_setIfInBounds,qu]
 obtain⟨_,v⟩:=Go.Great.foldl_set 1 (bkC x) 0 (Tryz.zeroCells338.setIfInBounds 0 (.int .i64 s));apply qxd
 intro k;rw[v k,q];by_cases A:k<65
 .by_cases D:k=0
  .subst D;rw[if_neg oM,Array.getElem?_setIfInBounds_self_of_lt (by rw[qu];omega)];simp
  .rw [if_pos ⟨oM,oM,A⟩];obtain⟨m,rfl⟩:∃m,k=m+1:=⟨k-1,oM⟩
   simp
 .rw [if_neg oM,qxf oM,qxf (by simp[p];omega)]
theorem zeY(h:JnAt w j vw d base n cov next W){A:Nat}(a7:w.cell? ⟨A,0,none⟩=some (.pointer (some ⟨j,0,none⟩)))
     (a8:Dv T w d F O P) (aa:∀k,w.heap.size<=k->T k) (v:¬T j) (J:¬T A) (s:Nat) (ap:1<=s) (aq:s<next) (y:Bk) (hy:y.length=64) (ar:base+n<=F.length) (ab:O.length<65536):
  Calls prog 279 #[.agg (wrC (s:Int) y).toArray,.pointer (some ⟨A,0,none⟩)] w (AB T w d (writeR F O P (base+(s-1)%n) y)):=by
 have K:=h.good;have au:=K.n1;have av:=K.bs;have aw:=K.mx;obtain⟨w1,D⟩:=qqe (w.alloc (.cells (wrC (s:Int) y).toArray 338));have E:=qqu D;have R:=qqg D;obtain⟨ad,ae,af,-,-,-⟩:=(h.new E).c;have ag:=zf R;have U:w1.cell? ⟨w.heap.size,0,none⟩=some (.int .i64 (s:Int)):=za R 0;have V:w1.rangeAt w.heap.size 1 (bkC y):=fun i ax hv=>by
  have:=ag (1+i) ax ji;rw[qXy]at this;exact this
 have ah:=E.jU a7 id;obtain⟨L,G⟩:=qqe ((s-1)%n);have ay:L<n:=by rw[G];exact qXu _ oM
 obtain⟨M,X⟩:=qqe (base+L);have aG:IntKind.i64.wrap ((s:Int)-1)=(s:Int)-1:=qxt _ oM;have aH:IntKind.i64.wrap (((s:Int)-1).tmod (n:Int))=(L:Int):=by
  rw[show(s:Int)-1=((s-1:Nat):Int) by omega,<-Int.ofNat_tmod,<-G];exact qxt _ oM
 have az:IntKind.i64.wrap ((base:Int)+(L:Int))=(M:Int):=by
  rw[X,qxr];exact qxt _ oM
 have aI:IntKind.i64.wrap ((base:Int)+((s:Int)-1).tmod (n:Int))=(M:Int):=by
  rw[show(s:Int)-1=((s-1:Nat):Int) by omega,<-Int.ofNat_tmod,<-G];exact az
 have aJ:¬n=0:=oM;have aA:=underlying54;have aB:=zv y hy;have ai:M<F.length:=oM;have aj:Dv (fun k=>T k/\k≠w.heap.size) w1.drew d F O P:=((a8.but (qXp _)).keep E (fun _ _ h=>h)).keep ((uur (fun _=>False) _).drew) (fun _ _ h=>h);have aC:w.heap.size+1<=w1.drew.heap.size:=by rw[D];simp
 have ak:Upd T w w1.drew:=(E.drew).mono fE;rw[<-G,<-X];have q:=Y6 aj (fun k (N:w1.drew.heap.size<=k)=>(⟨aa k oM,oM⟩:T k/\k≠w.heap.size)) ai hy ab ak;have aD:=qqh D;have am:=Y2 v J;obtain⟨m,Y⟩:=qqe (w.heap.size);rw[<-Y]at U V q;have aE:=qqh Y;clear v J aj aa ai ab aC ak D E R a8 h a7 K ag G X ay hy Y ar av aw ap aq au;go_enter func279,ntmps279
 go_wp2
 rw[<-aD.o,<-aE.o];refine qZd (S:=fun W=>W.cell? ⟨A,0,none⟩=some (.pointer (some ⟨j,0,none⟩))/\W.cell? ⟨j,0,none⟩=some (.pointer (some ⟨d,0,none⟩))/\W.cell? ⟨j,1,none⟩=some (.int .i64 (base:Int))/\W.cell? ⟨j,2,none⟩=some (.int .i64 (n:Int))/\W.cell? ⟨m,0,none⟩=some (.int .i64 (s:Int))/\W.rangeAt m 1 (bkC y)) kR (by(simp only[qYi,qYk]);exact⟨ah,ad,ae,af,U,V⟩) (fun an=>?_);refine Wl.i [0,1,2,3,4,5,6,7,8,9,10,11,12,13,14,15,16,17] ?_;iterate 18 refine Wl.t an ?_
 refine Wl.o ?_;refine Wl.l 18 (fun w h=>h.2.2.2.2.2) aA aB an ?_;refine Wl.r 19 (fun Z H=>?_);go_simp
 refine(wD q.o.1 q.o.2.1 M q.o.2.2.1 y q.o.2.2.2.1 q.o.2.2.2.2.1).mono ?_;rintro e aK ⟨rfl,ao,a6⟩;have p:=Y3 ao (((uur (fun k=>T k/\k≠m) w1).drew).trans a6) (q.o.2.2.2.2.2.trans (a6.mono (fun k _ h=>h.1)));clear ao a6;have v:∀k,(T k/\k≠m)->¬k=j:=fun k N e=>am.o.1 (e▸N.1);have J:∀k,(T k/\k≠m)->¬k=A:=fun k N e=>am.o.2 (e▸N.1);refine H.o _ _ (⟨p.o.2.1.jU ah (fun h=>J _ h rfl),p.o.2.1.jU ad (fun h=>v _ h rfl),p.o.2.1.jU ae (fun h=>v _ h rfl),p.o.2.1.jU af (fun h=>v _ h rfl),p.o.2.1.jU U (fun h=>h.2 rfl),p.o.2.1.range V (fun h=>h.2 rfl)⟩) (fun aF=>?_);clear H Z;refine Wl.r 20 (fun Z H=>?_);go_simp
 refine H.o _ _ (aF) (fun aL=>?_);clear H Z;refine Wl.d ?_;go_wp2
 go_ret
 exact⟨rfl,p.o.1.wide (fun k h=>h.1),p.o.2.2⟩
def comW(base n:Nat)(F:List Bk):List (Nat×Bk)->List (Nat×Bk)->List Int->DRes
 |[],O,P=>⟨F,O,P,0⟩
 |(s,y)::W,O,P=>if(writeR F O P (base+(s-1)%n) y).cd=0 then comW base n F W (writeR F O P (base+(s-1)%n) y).O (writeR F O P (base+(s-1)%n) y).P else writeR F O P (base+(s-1)%n) y
theorem yL(F:List Bk)(O:List (Nat×Bk))(P:List Int)(s:Nat)(y:Bk):(writeR F O P s y).F=F:=by
 unfold writeR;split;rfl;split<;>rfl
theorem vc(F:List Bk)(O:List (Nat×Bk))(P:List Int)(s:Nat)(y:Bk):(writeR F O P s y).O.length<=O.length+1:=by
 unfold writeR;split;simp;split<;>simp
theorem Si(F:List Bk)(O:List (Nat×Bk))(P:List Int):(flushR F O P).O.length<=O.length:=by
 unfold flushR;split;simp;split<;>simp
theorem Vg(base n:Nat)(F:List Bk):∀(W O:List (Nat×Bk)) (P:List Int),(comW base n F W O P).F=F
 |[],_,_=>rfl
 |(s,y)::W,O,P=>by
  unfold comW;split
  .exact Vg base n F W _ _
  .exact yL _ _ _ _ _
theorem Vh(base n:Nat)(F:List Bk):∀(W O:List (Nat×Bk)) (P:List Int),(comW base n F W O P).O.length<=O.length+W.length
 |[],_,_=>by simp[comW]
 |(s,y)::W,O,P=>by
  have h1:=vc F O P (base+(s-1)%n) y;unfold comW;split
  .have:=Vh base n F W (writeR F O P (base+(s-1)%n) y).O (writeR F O P (base+(s-1)%n) y).P;simp only[qyz];omega
  .simp only[qyz];omega
abbrev zgJ(g0:Nat):Value:=.func (.func 279) #[] #[.pointer (some ⟨g0,0,none⟩)]
theorem zcx(h:JnAt w j vw d base n cov next W)(h1:∀ao∈W,1<=ao.1){aa:Nat}(L:w.cell? ⟨aa,0,none⟩=some (.pointer (some ⟨j,0,none⟩)))
     (q:Dv T w d F O P) (M:∀k,w.heap.size<=k->T k) (E:∀k,jnS j vw k->¬T k) (G:¬T aa) (N:base+n<=F.length) (Y:O.length+W.length<=65536):
  Calls prog 278 #[vw,zgJ aa] w (AB T w d (comW base n F W O P)):=by
 obtain⟨av,c,rfl⟩:=h.ws.rd.jW;have ai:=Y9 h h1 L M E G N Y q;clear h h1 L M E G N Y q;go_enter func278,ntmps278
 go_wp2
 go_step3
 go_wp2
 go_step3
 go_wp2
 go_loopw[5,10] (fun ap ab wr=>∃k v H,k<=W.length/\ap=.int .i64 0/\ab=.int .i64 (k:Int)/\Dv T wr d F v H/\Upd T w wr/\comW base n F W O P=comW base n F (W.drop k) v H/\v.length<=O.length+k) (fun _ ab _=>W.length-(intOf ab).toNat)
 case atStart=>exact⟨0,O,P,qXz _,rfl,rfl,ai.o.2.2.2.2.2.2.2.2,uur _ _,rfl,qXp _⟩
 case round=>
  obtain⟨k,v,H,A,rfl,rfl,q,D,p,R⟩:=hrel;by_cases hlt:k<W.length
  .obtain ⟨h,h1,L,M,E,G,N,Y,-⟩:=ai.o;have ad:=h.keep D E;obtain⟨g,aw,ax,aq,ar,au,ae⟩:=ad.range hlt;cases aq;have af:=h1 W[k] (qyu hlt);have ay:W.length<=65536:=oM;have ag:=h.good.lt W[k] (qyu hlt);have J:=h.good.w64 W[k] (qyu hlt);have aj:W.drop k=(W[k].1,W[k].2)::W.drop (k+1):=qxz hlt;have az:(0:Int)<=(k:Int):=oM;have aA:(k:Int)<(W.length:Int):=oM;rw[aj,comW]at p;obtain⟨K,ah⟩:=qqe (W[k].1);obtain⟨y,hy⟩:=qqe (W[k].2);rw[<-ah,<-hy]at ae p;rw[<-ah]at af ag;rw[<-hy]at J;have Z:Upd (fun _=>False) wr (wr.alloc (.cells (wrC (K:Int) y).toArray 338)):=(uur _ _).alloc _;have ak:=zf (zc wr (.cells (wrC (K:Int) y).toArray 338) rfl);have s:=D.trans (Z.mono fE);have am:=zeY (ad.new Z) (s.jU L G) (q.keep Z (fun _ _ h=>h)) (fun k A=>M k (qXr s.size A)) (E j (.inl rfl)) G K af ag y J N oM;have U:=yL F v H (base+(K-1)%n) y;have a6:=vc F v H (base+(K-1)%n) y;generalize writeR F v H (base+(K-1)%n) y=r at*;have V:=Y7 am s U a6 p R A;clear h ad h1 L M E G N Y D q am s U a6 p R ah hy aj af ag ar au Z A;go_wp2_with (first
    |refine qZa rfl _ _ rfl _ _ rfl _ _ ae underlying338 rfl (ug _ _ J) ?_
    |refine qZa rfl _ _ rfl _ _ rfl _ _ ak underlying338 rfl (ug _ _ J) ?_
    |(refine zk rfl _ _ _ rfl _ _ _ rfl rfl (by rw[qu,wrC_len,J]) (ug _ _ J) (uw _ _) ?_)
    |fail)
   refine V.o.1.mono ?_;rintro e aB ⟨rfl,X,an⟩;have a7:=Y2 X an;clear X an ae ak;by_cases a8:r.cd=0
   .rw [a8];go_wp2
    go_roundw
    case rel=>
     obtain⟨-,s,U,a6,p,R,A⟩:=V.o;have X:=a7.o.1;rw[U]at X;rw[if_pos a8]at p;exact⟨k+1,r.O,r.P,oM,rfl,by go_num,X,s.trans a7.o.2,p,oM⟩
    case measure=>simp[intOf];omega
   .have aC:(r.cd==0)=false:=by simpa using a8
    go_wp2
    go_ret
    obtain⟨-,s,U,a6,p,R,A⟩:=V.o;rw[if_neg a8]at p;rw[p];exact⟨rfl,a7.o.1,s.trans a7.o.2⟩
  .obtain rfl:k=W.length:=oM;have V:=Y3 q D p;clear q D p A R;go_wp2
   go_ret
   obtain⟨q,D,p⟩:=V.o;rw[p,List.drop_length];exact⟨rfl,q,D⟩
def comR(base n:Nat)(F:List Bk)(O:List (Nat×Bk))(P:List Int)(W:List (Nat×Bk)):DRes×List (Nat×Bk):=
 if(flushR F O P).cd≠0\/W=[]then(flushR F O P,W)
 else if(comW base n (flushR F O P).F W (flushR F O P).O (flushR F O P).P).cd≠0 then(comW base n (flushR F O P).F W (flushR F O P).O (flushR F O P).P,W)
 else if(flushR (comW base n (flushR F O P).F W (flushR F O P).O (flushR F O P).P).F (comW base n (flushR F O P).F W (flushR F O P).O (flushR F O P).P).O (comW base n (flushR F O P).F W (flushR F O P).O (flushR F O P).P).P).cd≠0 then
  (flushR (comW base n (flushR F O P).F W (flushR F O P).O (flushR F O P).P).F (comW base n (flushR F O P).F W (flushR F O P).O (flushR F O P).P).O (comW base n (flushR F O P).F W (flushR F O P).O (flushR F O P).P).P,W)
 else(flushR (comW base n (flushR F O P).F W (flushR F O P).O (flushR F O P).P).F (comW base n (flushR F O P).F W (flushR F O P).O (flushR F O P).P).O (comW base n (flushR F O P).F W (flushR F O P).O (flushR F O P).P).P,[])
theorem qZ(F:List Bk)(O:List (Nat×Bk))(P:List Int):(flushR F O P).F.length=F.length:=by
 unfold flushR;split;rfl;split;exact zM _ _;rfl
def zcy(T:Nat->Prop)(w:World)(j:Nat)(vw:Value)(d base n cov next:Nat)(r:DRes×List (Nat×Bk))(e:Ending)(w':World):Prop:=
 e=.returned (.int .i64 r.1.cd)/\Dv T w' d r.1.F r.1.O r.1.P/\(∃vw',JnAt w' j vw' d base n cov next r.2/\(vw'=vw\/vw'.ownBlock=none))/\Upd (fun k=>T k\/k=j) w w'
theorem AR(h:JnAt w j vw d base n cov next W)(h1:∀aN∈W,1<=aN.1)
     (ar:Dv T w d F O P) (au:∀k,w.heap.size<=k->T k) (K:∀k,jnS j vw k->¬T k) (M:base+n<=F.length) (N:O.length+W.length<=65536):
  Calls prog 220 #[.pointer (some ⟨j,0,none⟩)] w (zcy T w j vw d base n cov next (comR base n F O P W)):=by
 have aY:=qqf;obtain⟨aO,c,rfl⟩:=h.ws.rd.jW;obtain⟨w1,a8⟩:=qqe (w.alloc (.cells #[.pointer (some ⟨j,0,none⟩)] 140));have s:=qqu a8;have H:=qqg a8;obtain⟨m,A⟩:=qqe (w.heap.size);have R:w1.heap.size=m+1:=by rw[a8,A];simp
 have av:Dv (fun k=>T k/\k≠m) w1 d F O P:=(ar.but oM).keep s (fun _ _ h=>h);have D:∀k,w1.heap.size<=k->T k/\k≠m:=fun k U=>⟨au k oM,oM⟩
 have J:=h.new s;have ao:=za H 0;rw[<-A]at ao H;obtain⟨aw,-,-,-,-,aP⟩:=J.c;have ax:=qqh (xg av D);have q:∀k,jnS j (.slice aO W.length c) k->¬(T k/\k≠m):=fun k U aQ=>K k U aQ.1;have ad:=Y11 J h1 D q M N s H A R K;have ay:=aw;rw[a8]at ay;have aR:=qqh a8;have aS:=qqh A;clear h h1 ar au K M N s av D J H q a8 A R;have az:w1.cell? ⟨m,0,none⟩=some (.pointer (some ⟨j,0,none⟩)):=ao;go_enter func220,ntmps220
 go_wp2_with fail
 rw[<-aR.o,<-aS.o];clear ay;refine ax.o.mono ?_;rintro e aZ ⟨rfl,L,v⟩;obtain⟨J,h1,D,q,M,N,s,H,A,R,K⟩:=ad.o;have V:=qZ F O P;have X:=Si F O P;have p:comR base n F O P W=comR base n F O P W:=rfl
 conv at p=>rhs;unfold comR
 generalize comR base n F O P W=b0 at*;generalize flushR F O P=r at*;have E:=J.keep v q;have ap:=v.jU az (fun h=>h.2 rfl);obtain⟨aT,-,-,-,-,aA⟩:=E.c;have aj:=Y6 L v E V X p;clear J h1 D q M N s H A R K V X p E L v ax aw aP ao az;by_cases ae:r.cd=0
 .have aB:=qqh ae;rw[ae];clear ae;by_cases Z:W.length=0
  .have aq:=qqh Z;rw[Z]at aA;clear Z;go_wp2
   go_ret
   obtain⟨L,v,E,V,X,p⟩:=aj.o;rw[if_pos (Or.inr (List.length_eq_zero_iff.1 aq.out))]at p;subst p;refine⟨by rw[aB.out];rfl,L.wide (fun k h=>h.1),⟨_,E,.inl rfl⟩,?_⟩;obtain⟨J,h1,D,q,M,N,s,H,A,R,K⟩:=ad.o;exact(s.mono fE).trans (v.mono (fun k _ h=> .inl h.1))
  .have aq:=qqh Z;obtain⟨L,v,E,V,X,p⟩:=aj.o;obtain⟨J,h1,D,q,M,N,s,H,A,R,K⟩:=ad.o;have aC:=qqh (zcx E h1 ap L (fun k U=>D k (qXr v.size U)) q (fun h=>h.2 rfl) oM oM);rw[if_neg (fun e=>e.elim (fun h=>h aB.out) (fun h=>Z (by simp[h])))]at p;have ak:=Vg base n r.F W r.O r.P;have am:=Vh base n r.F W r.O r.P;generalize comW base n r.F W r.O r.P=af at*;have aD:=Y3 p ak am;clear p ak am J h1 D q M N s H A R K L v E V X Z;have Z:=aq.out;go_wp2_with fail
   refine aC.o.mono ?_;rintro e aU ⟨rfl,a6,ag⟩;obtain⟨L,v,E,V,X,-⟩:=aj.o;obtain⟨J,h1,D,q,M,N,s,H,A,R,K⟩:=ad.o;have Y:=E.keep ag q;have aE:=ag.jU ap (fun h=>h.2 rfl);obtain⟨aV,-,-,-,-,aW⟩:=Y.c;have aF:=qqh (xg a6 (fun k U=>D k (qXr (qXr v.size ag.size) U)));have a7:Upd (fun k=>T k\/k=j) w aU:=((s.mono fE).trans (v.mono (fun k _ h=> .inl h.1))).trans (ag.mono (fun k _ h=> .inl h.1));have aG:=Y4 a6 Y a7 q;clear J h1 D q M N s H A R K L v E V X a6 ag Y a7 aT aA ap aC;by_cases ah:af.cd=0
   .have aX:=qqh ah;rw[ah];clear ah;go_wp2_with fail
    refine aF.o.mono ?_;rintro e aH ⟨rfl,aa,an⟩;obtain⟨p,ak,am⟩:=aD.o;obtain⟨a6,Y,a7,q⟩:=aG.o;rw[if_neg (fun e=>e aX.out)]at p;generalize flushR af.F af.O af.P=aI at*;have G:=Y.keep an q;have b1:=an.jU aE (fun h=>h.2 rfl);have z5:=G.fz 5;obtain⟨-,-,-,-,-,b2⟩:=G.c;have ab:Upd (fun k=>T k\/k=j) w aH:=a7.trans (an.mono (fun k _ h=> .inl h.1));have aJ:=Y5 p aa G ab q;clear p ak am a6 Y a7 q aa an G ab aV aW aE aF;by_cases ai:aI.cd=0
    .have aK:=qqh ai;rw[ai];clear ai;go_wp2
     go_ret
     obtain⟨p,aa,G,ab,q⟩:=aJ.o;rw[if_neg (fun e=>e aK.out)]at p;subst p;have aL:=zi aH j 5 (.slice none 0 0);refine⟨by rw[aK.out];rfl,(aa.keep aL (fun k U e=>q k (.inl e) U)).wide (fun k h=>h.1),⟨.slice none 0 0,⟨(zh G.str 5 _).trans oe,Sl.nil _ _ _,by simp[Value.ownBlock],⟨oe,oe,G.good.n1,by have:=G.good.wl;simp;omega,G.good.room,G.good.mx,G.good.bs⟩⟩,.inr rfl⟩,ab.trans (aL.mono (fun k _ e=> .inr e))⟩
    .have aM:(aI.cd==0)=false:=by simpa using ai
     go_wp2
     go_ret
     obtain⟨p,aa,G,ab,q⟩:=aJ.o;rw[if_pos ai]at p;subst p;exact⟨rfl,aa.wide (fun k h=>h.1),⟨_,G,.inl rfl⟩,ab⟩
   .have aM:(af.cd==0)=false:=by simpa using ah
    go_wp2
    go_ret
    obtain⟨p,-⟩:=aD.o;obtain⟨a6,Y,a7,q⟩:=aG.o;rw[if_pos ah]at p;subst p;exact⟨rfl,a6.wide (fun k h=>h.1),⟨_,Y,.inl rfl⟩,a7⟩
 .have aM:(r.cd==0)=false:=by simpa using ae
  go_wp2
  go_ret
  obtain⟨L,v,E,V,X,p⟩:=aj.o;rw[if_pos (Or.inl ae)]at p;subst p;refine⟨rfl,L.wide (fun k h=>h.1),⟨_,E,.inl rfl⟩,?_⟩;obtain⟨J,h1,D,q,M,N,s,H,A,R,K⟩:=ad.o;exact(s.mono fE).trans (v.mono (fun k _ h=> .inl h.1))
open Go Go.RowKit Go.Shelf Tryz
attribute [local go_sem] qYb
abbrev zeZ(base:Nat){m:Nat}(x:{i:Nat//i<m}):Array Value:= #[.int .i64 (x.1:Int),.int .i64 ((base:Int)+(x.1:Int))]
theorem zcz(n:Nat)(ab:1<=n)(S:Nat->Prop)(l s v base m:Nat)(ad:m<=4096)(ae:base<=4096)(K:¬S s)(L:¬S v)(A G:List {i:Nat//i<m}->World->Prop)
  (M:∀k (x:{i:Nat//i<m}) W,A k W->k.length<m->YieldAt Fence.wide (n-1) prog l (zeZ base x) W fun e q=>
   (e=.returned (.bool true)/\A (k++[x]) q/\Upd S W q)\/(e=.returned (.bool false)/\G (k++[x]) q))
  (W:World) (N:s<W.heap.size) (R:v<W.heap.size) (U:W.cell? ⟨s,0,none⟩=some (.int .i64 m)) (V:W.cell? ⟨v,0,none⟩=some (.int .i64 base)) (X:A [] W):
  CallsIn Fence.wide n prog 169 #[.func (.yield l) #[] #[],.pointer (some ⟨s,0,none⟩),.pointer (some ⟨v,0,none⟩)] W fun e q=>(∃Y,e=.returned Y)/\
   ((∃H:List {i:Nat//i<m},H.map (·.1)=List.range m/\A H q)\/(∃k:List {i:Nat//i<m},k.map (·.1)=List.range k.length/\G k q)):=by
 refine callsIn_of_wp func169 rfl trivial ?_ rfl;simp only[ntmps169,qXh,qyz,qzc,Nat.reduceAdd,Nat.reduceSub,qxi,qxj,qXb,qxx,qzu,qxy]
 gi_wp2
 gi_loopw [4] (fun i wr=>∃(p:Nat) (k:List {i:Nat//i<m}),p<=m/\i=.int .i64 p/\k.map (·.1)=List.range p/\A k wr/\Upd S W wr)
  (fun i _=>m-(intOf i).toNat)
 case atStart=>exact⟨0,[],qXz _,rfl,rfl,X,uur _ _⟩
 case round=>
  obtain⟨p,k,af,rfl,D,J,E⟩:=hrel;have ag:wr.cell? ⟨s,0,none⟩=some (.int .i64 m):=(E.cellAt N K).trans U;have ah:wr.cell? ⟨v,0,none⟩=some (.int .i64 base):=(E.cellAt R L).trans V;by_cases hlt:p<m
  .have Z:k.length=p:=by have:=congrArg List.length D;simpa using this
   obtain⟨ai,aj,assign,body,hy,a6⟩:=M k ⟨p,hlt⟩ wr J oM;have ak:(p:Int)<(m:Int):=oM
   gi_wp2
   refine a6.mono ?_;rintro e am (⟨rfl,a7,a8⟩|⟨rfl,aa⟩)
   .gi_wp2
    go_roundw
    case rel=>exact⟨p+1,k++[⟨p,hlt⟩],oM,oe,by simp[List.range_succ,D],a7,E.trans a8⟩
    case measure=>simp[intOf];omega
   .gi_wp2
    refine qYq (qYw rfl _ _ _) rfl ?_;exact⟨⟨_,rfl⟩,.inr ⟨_,by simp[List.range_succ,D,Z],aa⟩⟩
  .obtain rfl:p=m:=oM
   gi_wp2
   go_end0
   exact⟨⟨_,rfl⟩,.inl ⟨_,D,J⟩⟩
theorem sV(n:Nat)(D:1<=n)(S:Nat->Prop)(h k base m:Nat)(w:World)(E:m<=4096)(G:base<=4096)(v:h<w.heap.size)(A:k<w.heap.size)(H:¬S h)(J:¬S k)
  (K:w.cell? ⟨h,0,none⟩=some (.int .i64 m)) (L:w.cell? ⟨k,0,none⟩=some (.int .i64 base)):
  SeqStopsK Fence.wide n prog 169 #[.pointer (some ⟨h,0,none⟩),.pointer (some ⟨k,0,none⟩)] (fun x:{i:Nat//i<m}=>zeZ base x) (Upd S) (fun q=>q.map (·.1)=List.range m) (fun q=>q.map (·.1)=List.range q.length) m w:=fun l M N W s _ _ R U=>
 zcz n D S l h k base m E G H J M N R W (qXs v s.size) (qXs A s.size) ((s.cell (p:=⟨h,0,none⟩) v).trans K) ((s.cell (p:=⟨k,0,none⟩) A).trans L) U
theorem tW(base m:Int)(w:World):
  Calls prog 99 #[.int .i64 base,.int .i64 m] w fun e w'=>e=.returned (.func (.func 169) #[] #[.pointer (some ⟨w.heap.size+1,0,none⟩),.pointer (some ⟨w.heap.size,0,none⟩)])/\
   w'=(w.alloc (.cells #[.int .i64 base] 3)).alloc (.cells #[.int .i64 m] 3):=by
 have h:=qqf;go_enter func99,ntmps99
 go_wp2
 go_ret
 exact⟨rfl,rfl⟩
theorem Sj(h:Dv S w b F O P)(base m:Nat)(h1:1<=m)(h2:base+m<=F.length):
  Calls prog 97 #[.pointer (some ⟨b,0,none⟩),.int .i64 (base:Int),.int .i64 (m:Int),.int .i64 1] w fun e w'=>e=.returned (.bool true)/\w=w':=by
 have k:=h.good.fl;have p:¬((base:Int)>(F.length:Int)):=oM;have q:(m:Int)<=((F.length:Int)-(base:Int)):=oM;have s:¬((m:Int)<1):=oM;have v:¬((base:Int)<0):=oM;have A:0<=((F.length:Int)-(base:Int)):=oM;have q1:decide ((F.length:Int)<(base:Int))=false:=by simp;omega
 go_enter func97,ntmps97
 go_wp2_with (first
  |(go_at_call 55;refine(tT h).mono ?_;rintro e w' ⟨rfl,rfl⟩)
  |fail)
 go_ret
 exact⟨rfl,rfl⟩
attribute [local go_sem] qYb
def AS(w:World)(S:Nat->Prop):Prop:=∀j,S j->j<w.heap.size->∃cs t z,w.heap[j]?=some (.cells cs t z)
theorem zA(k:Upd S w w')(v:AS w S):KeepsOthers w w':=
 ⟨k.size,fun p o h A=>by
  have q:=zd h;refine(k.block p q (fun D=>?_)).trans h;obtain⟨cs,t,z,s⟩:=v p D q;rw[h]at s;cases s;simp[Obj.isCells]at A⟩
theorem yI{a:World}(h:Upd S a w)(k:w.grownBy w' row)(p:∀r,row=some r->S r):Upd S a w':=
 h.trans (Upd.kj k (fun g e _=>p g e))
theorem Vi{cs:Array Value}{t:TypeId}{z:Nat×Nat}(k:w.heap[j]?=some (.cells cs t z))(_hg:w.grownBy w' row)(p:∀r,row=some r->∃o:Obj,w.heap[r]?=some o/\o.isCells=false):row≠some j:=fun e=>by
 obtain⟨o,h,q⟩:=p j e;rw[k]at h;cases h;simp[Obj.isCells]at q
theorem zcA:(#[.int .u8 0,.int .u8 0,.int .u8 0,.int .u8 0,.int .u8 0,.int .u8 0,.int .u8 0,.int .u8 0,.int .u8 0,.int .u8 0,.int .u8 0,.int .u8 0,.int .u8 0,.int .u8 0,.int .u8 0,.int .u8 0,.int .u8 0,.int .u8 0,.int .u8 0,.int .u8 0,.int .u8 0,.int .u8 0,.int .u8 0,.int .u8 0,.int .u8 0,.int .u8 0,.int .u8 0,.int .u8 0,.int .u8 0,.int .u8 0,.int .u8 0,.int .u8 0,.int .u8 0,.int .u8 0,.int .u8 0,.int .u8 0,.int .u8 0,.int .u8 0,.int .u8 0,.int .u8 0,.int .u8 0,.int .u8 0,.int .u8 0,.int .u8 0,.int .u8 0,.int .u8 0,.int .u8 0,.int .u8 0,.int .u8 0,.int .u8 0,.int .u8 0,.int .u8 0,.int .u8 0,.int .u8 0,.int .u8 0,.int .u8 0,.int .u8 0,.int .u8 0,.int .u8 0,.int .u8 0,.int .u8 0,.int .u8 0,.int .u8 0,.int .u8 0]:Array Value)=(bkC zB).toArray:=kR
def YN(base:Nat)(B:List Bk)(i:Nat):Nat×Bk:=(base+i,B.getD i zB)
def ckO(base m:Nat)(B:List Bk):List (Nat×Bk):=(List.range m).map (YN base B)
theorem DvAt.cells{s v A:Value}(k:DvAt w b s v A F O P):∀j,dvS b s v A j->∃cs t,w.heap[j]?=some (.cells cs t (0,0)):=by
 have p:∀{e:TypeId} {D n:Nat} {q:Value} {E:List Value},Sl w e D q n E->∀j,q.ownBlock=some j->∃cs t,w.heap[j]?=some (.cells cs t (0,0)):=by
  intro e D n q E hsl j h;rcases hsl with⟨-,⟨rfl,-⟩|⟨g,H,J,K,rfl,G,-⟩⟩
  .cases h
  .cases h;exact⟨_,_,G⟩
 rintro j (rfl|h|h|h)
 .exact ⟨_,_,k.str⟩
 .exact p k.fs j h
 .exact p k.os j h
 .exact p k.ps j h
theorem Dv.grown(h:Dv S w b F O P)(p:w.grownBy w' row)(q:∀r,row=some r->∃o:Obj,w.heap[r]?=some o/\o.isCells=false):Dv S w' b F O P:=by
 obtain⟨s,v,A,h,D⟩:=h;refine⟨s,v,A,h.keep (Upd.kj (S:=fun j=>row=some j) p (fun g e _=>e)) (fun j E e=>?_),D⟩;obtain⟨cs,t,G⟩:=h.cells j E;obtain⟨o,k,H⟩:=q j e;rw[G]at k;cases k;simp[Obj.isCells]at H
section
variable{F:Fence}{n:Nat}{P:Program}{ops:Array Oper}{rest:List Oper}{op:Oper}{a:Act}{w:World}{Q:Exit->Act->World->Prop}
theorem vU{p:Act->World->Prop}(k:TypeId)(x:Operand)(ho:op.op=.load k x)(b o:Nat)(hx:a.eval x=.pointer (some ⟨b,o,none⟩))(cs:List Value)(d:TypeDesc)(q:w.rangeAt b o cs)
  (s:P.underlying k=some d) (v:d.isRow=true) (A:(P.info? k).map (·.size)=some cs.length) (h:p (a.put op.dst (.agg cs.toArray)) w):op.wpIn F n P a w p Q:=by
 unfold Oper.wpIn;refine⟨by simp[Oper.about,ho],?_⟩;rw[Oper.semAt_plain F _ _ jC];unfold execOp;simp only[ho,hx,Instr.loadAt,Instr.sureAddr,qYg,Sem.run_pure,qYf,run_loadVar_mid w b o k cs d q s v A];exact h
theorem yM(k:op.guard=none)(h:TypeId)(x:Operand)(p:op.op=.load h x)(b o:Nat)(hx:a.eval x=.pointer (some ⟨b,o,none⟩))(cs:List Value)(d:TypeDesc)(q:w.rangeAt b o cs)
  (s:P.underlying h=some d) (v:d.isRow=true) (A:(P.info? h).map (·.size)=some cs.length) (D:wpListIn F n P ops Q rest (a.put op.dst (.agg cs.toArray)) w):wpListIn F n P ops Q (op::rest) a w:=
 wpListIn_plain k fun _ E=>vU h x p b o hx cs d q s v A (E _ _ D)
theorem re{p:Act->World->Prop}(k:TypeId)(x y:Operand)(ho:op.op=.store k x y)(b o:Nat)(cells:Array Value)(hx:a.eval x=.pointer (some ⟨b,o,none⟩))(hy:a.eval y=.agg cells)
  (q:w.there b o cells.size) (s:(P.info? k).map (·.size)=some cells.size) (h1:cells.all (·.oneCell')=true)
  (h:p (a.put op.dst undef) (w.setCells b o cells.toList)):op.wpIn F n P a w p Q:=by
 unfold Oper.wpIn;refine⟨by simp[Oper.about,ho],?_⟩;rw[Oper.semAt_plain F _ _ jC];unfold execOp;simp only[ho,hx,hy,Instr.storeAt,Instr.sureAddr,qYg,Sem.run_pure,qYf,run_storeVar_mid w b o k cells q s h1];exact h
theorem uh(k:op.guard=none)(h:TypeId)(x y:Operand)(p:op.op=.store h x y)(b o:Nat)(cells:Array Value)(hx:a.eval x=.pointer (some ⟨b,o,none⟩))(hy:a.eval y=.agg cells)
  (q:w.there b o cells.size) (s:(P.info? h).map (·.size)=some cells.size) (h1:cells.all (·.oneCell')=true)
  (v:wpListIn F n P ops Q rest (a.put op.dst undef) (w.setCells b o cells.toList)):wpListIn F n P ops Q (op::rest) a w:=
 wpListIn_plain k fun _ A=>re h x y p b o cells hx hy q s h1 (A _ _ v)
theorem xD(q:op.guard=none)(p:TypeId)(x y:Operand)(s:op.op=.store p x y)
  (zs:Array Value) (t:TypeId) (k:List Value) (hx:a.eval x=.pointer (some ⟨w.heap.size,0,none⟩)) (hy:a.eval y=.agg k.toArray) (v:zs.size=k.length)
  (hi:(P.info? p).map (·.size)=some k.length) (h1:∀A∈k,A.oneCell'=true)
  (h:wpListIn F n P ops Q rest (a.put op.dst undef) (w.alloc (.cells k.toArray t))):wpListIn F n P ops Q (op::rest) a (w.alloc (.cells zs t)):=by
 refine uh q p x y s w.heap.size 0 k.toArray hx hy (fun j D=>?_) oB (qYo h1) ?_
 .rw [za (zc w _ rfl),zg (zc w _ rfl)];simp at D;exact⟨by rw[qXy,qxe oM];rfl,rfl⟩
 .rw [List.toList_toArray,tS w t k zs v];exact h
end
end Go.Proofs.YtbnpkobbnjihjaaGreatDoor
