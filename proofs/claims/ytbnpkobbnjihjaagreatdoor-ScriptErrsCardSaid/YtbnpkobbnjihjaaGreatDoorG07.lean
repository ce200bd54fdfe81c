/- The index: con -/
import Derived.Test.YtbnpkobbnjihjaaGreatDoorG03
import Derived.Test.YtbnpkobbnjihjaaGreatDoorG04
import Derived.Shelf.SlMaps.Clone
import Derived.Deep.RegionLaw
import Derived.Lib.SliceRun
import Derived.Lib.AppendZeros
import Derived.BigRegionIn
import Derived.Shelf.RegionOpen
set_option maxRecDepth 100000
set_option maxHeartbeats 2000000
namespace Go.Proofs.YtbnpkobbnjihjaaGreatDoor
open Go Go.RowKit Tryz
variable{w w':World}{N mb b slots most few N' m:Nat}{ps:List (Int×Bool)}{v:Value}{A:Int->Bool}{S:Nat->Prop}{k x:Int}{K G l:List Int}
section
abbrev zP(s:Int)(d:Bool):Value:=.agg #[.int .i64 s,.bool d]
theorem yV(w:World):Calls prog 184 #[] w fun e w'=>e=.returned (zP (-1) false)/\Upd (fun _=>False) w w'/\w'.heap.size=w.heap.size+1:=by
 go_enter func184,ntmps184
 go_wp2
 have j:=zc w (.cells #[.int .i64 (-1),.bool false] 231) rfl;have n:=za j 0;have c1:=za j 1;simp at n c1;refine qYq (v:=zP (-1) false) ?_ rfl ⟨rfl,(uur _ _).alloc _,oe⟩;simp[results,results184,go_sem]
def plC(l:List (Int×Bool)):List Value:=l.flatMap fun p=>[.int .i64 p.1,.bool p.2]
theorem AT(l:List (Int×Bool)):(plC l).length=l.length*2:=xJ (f:=fun p:Int×Bool=>[Value.int .i64 p.1,Value.bool p.2]) (k:=2) (fun _=>rfl) l
theorem xQ{l:List (Int×Bool)}{k:Nat}(h:k<l.length):(plC l)[k*2]?=some (.int .i64 l[k].1)/\(plC l)[k*2+1]?=some (.bool l[k].2):=
 ⟨Us (f:=fun p:Int×Bool=>[Value.int .i64 p.1,Value.bool p.2]) (k:=2) (fun _=>rfl) l k 0 de l[k] (qyj h),
  Us (f:=fun p:Int×Bool=>[Value.int .i64 p.1,Value.bool p.2]) (k:=2) (fun _=>rfl) l k 1 de l[k] (qyj h)⟩
theorem Sk(n:Nat):noPl n=plC (List.replicate n (-1,false)):=by
 induction n with
 |zero=>rfl
 |succ n h=>rw[Nat.add_comm n 1,qO,h,<-List.replicate_append_replicate];simp[plC,noPl]
structure IndexAt(w:World)(b:Nat)(v:Value)(mb N:Nat)(ps:List (Int×Bool))(slots:Nat):Prop where
 str:w.heap[b]?=some (.cells #[v,.map (some mb),.int .i64 slots] 290 (0,0))
 sl:Sl w 231 2 v ps.length (plC ps)
 map:MapAt w mb N (atOf ps)
 good:Good ps slots
 ne:v.ownBlock≠some b
 nm:mb≠b
 nv:v.ownBlock≠some mb
 le:ps.length<=4096
 sl1:slots<=1024
def ixS(v:Value)(mb:Nat):Nat->Prop:=fun j=>v.ownBlock=some j\/j=mb
theorem IndexAt.keep(h:IndexAt w b v mb N ps slots)(j:Upd S w w')(q:¬S b)(n:∀p,ixS v mb p->¬S p):IndexAt w' b v mb N ps slots:=
 {str:=(j.block _ (zd h.str) q).trans h.str,sl:=h.sl.keep j (fun g s=>n g (.inl s)),map:=h.map.keep j (n mb (.inr rfl)),good:=h.good,ne:=h.ne,nm:=h.nm,nv:=h.nv,le:=h.le,sl1:=h.sl1}
theorem IndexAt.below(h:IndexAt w b v mb N ps slots)(j:Below w.heap.size w w'):IndexAt w' b v mb N ps slots:=
 h.keep (uuo (S:=fun _=>False) j) id (fun _ _ h=>h)
theorem IndexAt.mono(h:IndexAt w b v mb N ps slots)(j:N<=N'):IndexAt w b v mb N' ps slots:={h with map:=h.map.mono j}
theorem IndexAt.blt(h:IndexAt w b v mb N ps slots):b<w.heap.size:=zd h.str
theorem IndexAt.slt(j:IndexAt w b v mb N ps slots):∀h,ixS v mb h->h<w.heap.size:=by
 rintro h (n|rfl)
 .exact j.sl.lt n
 .exact j.map.lt
theorem AU(n s:Nat)(w:World)(h1:1<=n)(h2:n<=4096)(V:1<=s)(J:s<=1024):
  Calls prog 108 #[.int .i64 n,.int .i64 s] w fun e w'=>∃b v mb,e=.returned (.tuple #[.pointer (some ⟨b,0,none⟩),.int .i64 0])/\
   IndexAt w' b v mb 0 (List.replicate n (-1,false)) s/\w.heap.size<=b/\w.heap.size<=mb/\From w.heap.size v/\Below w.heap.size w w':=by
 have W:= @run_makeMap prog;go_enter func108,ntmps108
 go_wp2_with fail
 refine(yV _).mono ?_;rintro e w1 ⟨rfl,L,j⟩;have hx:(w1.alloc (.cells #[.int .i64 (-1),.bool false] 231)).heap[w.heap.size+1]?=some (.cells #[.int .i64 (-1),.bool false] 231):=zc _ _ j.symm;have M:=qqh hx;clear hx;go_wp2_with fail
 refine(TM n (w.heap.size+1) _ h1 h2 M.o).mono ?_;rintro e w2 ⟨rfl,p,q,D⟩;have E:w2.heap.size=w.heap.size+3:=by rw[D];simp[j]
 have F:Below w.heap.size w w2:=(zj (qxl _ w) (L.alloc (.cells #[.int .i64 (-1),.bool false] 231)) (qXp _) (fun _ h=>h.elim)).trans (q.mono (by simp[j];omega));have O:=qqh p;have Q:=qqh F;clear p F q D;go_wp2
 go_ret2
 have H:=Upd.alloc (uur (fun _=>False) w2) (.map #[] 0);have p:w2.heap[w.heap.size+2]?=some (.cells (noPl n).toArray 231):=by have:=O.o;simpa[j]using this
 have hsl:Sl w2 231 2 (.slice (some ⟨w.heap.size+2,0,none⟩) n n) (List.replicate n ((-1:Int),false)).length (plC (List.replicate n (-1,false))):=by
  rw[<-Sk];refine⟨by rw[yK];simp,.inr ⟨w.heap.size+2,0,n,(noPl n).toArray,oe,p,oe,by unfold maxLen;omega,by simp[yK],fun X u R=>by simpa using R⟩⟩
 have T:MapAt (w2.alloc (.map #[] 0)) (w.heap.size+3) 0 (atOf (List.replicate n (-1,false))):=by
  have:=MapAt.made w2;rw[E]at this;rw[Va];exact this
 refine⟨w.heap.size+3+1,.slice (some ⟨w.heap.size+2,0,none⟩) n n,w.heap.size+3,rfl,⟨zc _ _ (by simp[E]),?_,T.keep (Upd.alloc (uur (fun _=>False) _) _) id,Good.start n s,by simp[Value.ownBlock],oM,by simp[Value.ownBlock],by simp;omega,J⟩,oM,oM,?_,?_⟩
 .exact hsl.keep (H.alloc _) (fun _ _ h=>h)
 .intro g U;simp[Value.ownBlock]at U;omega
 .exact zj Q.o (H.alloc _) (qXp _) (fun _ h=>h.elim)
def getV(ps:List (Int×Bool))(b:Int):Int×Bool:=if b<0\/(ps.length:Int)<=b then(0,false)else if ps.getD b.toNat (-1,false)=(-1,false)then(0,false)else ps.getD b.toNat (-1,false)
def getC(ps:List (Int×Bool))(b:Int):Int:=if b<0\/(ps.length:Int)<=b then 10 else if ps.getD b.toNat (-1,false)=(-1,false)then 14 else 0
theorem Zcg07{P:Prop}(h:P:=by
  clear p;go_enter func214,ntmps214
  go_wp2
  refine qYq (v:=.tuple #[zP 0 false,.int .i64 10]) ?_ rfl ⟨rfl,(qxl _ _).alloc (qXp _) _⟩;simp[results,results214,go_sem]):P:=h
theorem AV(h:IndexAt w b v mb N ps slots)(k:Int)(p:k<0\/(ps.length:Int)<=k):
  Calls prog 214 #[.pointer (some ⟨b,0,none⟩),.int .i64 k] w fun e w'=>e=.returned (.tuple #[zP 0 false,.int .i64 10])/\Below w.heap.size w w':=by
 have q:Upd (fun _=>False) w (w.alloc (.cells #[.int .i64 0,.bool false] 231)):=(uur _ _).alloc _;have s:=(q.cellAt (o:=0) (zd h.str) id).trans (za h.str 0);simp at s;have D:=h.le;have j:=zc w (.cells #[.int .i64 0,.bool false] 231) rfl;have n:=za j 0;have c1:=za j 1;simp at n c1;have E:=qqh n;have F:=qqh c1;clear j n c1;obtain⟨H,c,rfl⟩:=h.sl.rd.jW;clear h;by_cases J:k<0
 .exact Zcg07
 .have h1:(ps.length:Int)<=k:=oM;exact Zcg07
theorem IndexAt.at(h:IndexAt w b v mb N ps slots){k:Nat}(q:k<ps.length):
  ∃g j n,v=.slice (some ⟨g,j,none⟩) ps.length n/\g<w.heap.size/\w.cell? ⟨g,j+k*2,none⟩=some (.int .i64 ps[k].1)/\w.cell? ⟨g,j+k*2+1,none⟩=some (.bool ps[k].2):=by
 obtain⟨g,j,n,D,rfl,p,_,s⟩:=h.sl.at oM;exact⟨g,j,n,rfl,zd p,by rw[za p];exact s _ _ (xQ q).1,by rw[za p];exact s (k*2+1) _ (xQ q).2⟩
theorem Xo(h:IndexAt w b v mb N ps slots)(k:Nat)(O:k<ps.length)(Q:ps[k].1≠-1):
  Calls prog 214 #[.pointer (some ⟨b,0,none⟩),.int .i64 k] w fun e w'=>e=.returned (.tuple #[zP ps[k].1 ps[k].2,.int .i64 0])/\Below w.heap.size w w':=by
 have p:Upd (fun _=>False) w (w.alloc (.cells #[.int .i64 0,.bool false] 231)):=(uur _ _).alloc _;have D:=(p.cellAt (o:=0) (zd h.str) id).trans (za h.str 0);simp at D;have Z:=h.le;have a6:=zd h.str;obtain⟨g,q,R,rfl,E,F,q1⟩:=h.at O;have T:=(p.cellAt E id).trans F;have U:=(p.cellAt E id).trans q1;have H:=zc w (.cells #[.int .i64 0,.bool false] 231) rfl;have V:=qqh H;clear h F q1 H;go_enter func214,ntmps214
 go_wp2
 go_region_held3 (fun s=>s.cell? ⟨b,0,none⟩=some (.slice (some ⟨g,q,none⟩) ps.length R)/\s.cell? ⟨g,q+k*2,none⟩=some (.int .i64 ps[k].1)/\s.cell? ⟨g,q+k*2+1,none⟩=some (.bool ps[k].2)) (go_keep)
  ((go_at_call 184;refine(yV _).mono ?_;rintro e w2 ⟨rfl,n,a7⟩;have a8:=(n.cellAt (o:=0) og id).trans D;have aa:=(n.cellAt og id).trans T;have ab:=(n.cellAt og id).trans U))
 have ad:(ps[k].1== -1)=false:=by simpa using Q
 have j:w2.heap[w.heap.size]?=some (.cells #[.int .i64 0,.bool false] 231):=(n.block _ oe id).trans V.o;have W:=za j 0;have X:=za j 1;have ae:=zg j 0;have af:=zg j 1;simp at W X;have Y:=qqh j;clear j;go_wp2
 have J:=zh (zh Y.o 0 (.int .i64 ps[k].1)) 1 (.bool ps[k].2);have L:=za J 0;have M:=za J 1;simp at L M;refine qYq (v:=.tuple #[zP ps[k].1 ps[k].2,.int .i64 0]) ?_ rfl ⟨rfl,?_⟩
 .simp [results,results214,go_sem,L,M]
 .exact zj (zj (((qxl _ _).alloc (qXp _) _).drew) n (qXp _) (fun _ (h:False)=>h.elim)) ((zi w2 w.heap.size 0 (.int .i64 ps[k].1)).trans (zi _ _ 1 _)) (qXp _) (fun ag e=>oM)
theorem Sm(h:IndexAt w b v mb N ps slots)(k:Nat)(Q:k<ps.length)(E:ps[k]=(-1,false)):
  Calls prog 214 #[.pointer (some ⟨b,0,none⟩),.int .i64 k] w fun e w'=>e=.returned (.tuple #[zP 0 false,.int .i64 14])/\Below w.heap.size w w':=by
 have p:Upd (fun _=>False) w (w.alloc (.cells #[.int .i64 0,.bool false] 231)):=(uur _ _).alloc _;have F:=(p.cellAt (o:=0) (zd h.str) id).trans (za h.str 0);simp at F;have Z:=h.le;have a6:=zd h.str;obtain⟨g,q,R,rfl,H,s,q1⟩:=h.at Q;rw[E]at s q1;have T:=(p.cellAt H id).trans s;have U:=(p.cellAt H id).trans q1;have J:=zc w (.cells #[.int .i64 0,.bool false] 231) rfl;have V:=qqh J;clear h s q1 J E;go_enter func214,ntmps214
 go_wp2
 go_region_held3 (fun D=>D.cell? ⟨b,0,none⟩=some (.slice (some ⟨g,q,none⟩) ps.length R)/\D.cell? ⟨g,q+k*2,none⟩=some (.int .i64 (-1))/\D.cell? ⟨g,q+k*2+1,none⟩=some (.bool false)) (go_keep)
  ((go_at_call 184;refine(yV _).mono ?_;rintro e w2 ⟨rfl,n,a7⟩;have a8:=(n.cellAt (o:=0) og id).trans F;have aa:=(n.cellAt og id).trans T;have ab:=(n.cellAt og id).trans U))
 have j:w2.heap[w.heap.size]?=some (.cells #[.int .i64 0,.bool false] 231):=(n.block _ oe id).trans V.o;have W:=za j 0;have X:=za j 1;have ad:=zg j 0;have ae:=zg j 1;simp at W X;have Y:=qqh j;clear j;go_wp2
 have L:=zh (zh Y.o 0 (.int .i64 0)) 1 (.bool false);have M:=za L 0;have O:=za L 1;simp at M O;refine qYq (v:=.tuple #[zP 0 false,.int .i64 14]) ?_ rfl ⟨rfl,?_⟩
 .simp [results,results214,go_sem,M,O]
 .exact zj (zj (((qxl _ _).alloc (qXp _) _).drew) n (qXp _) (fun _ (h:False)=>h.elim)) ((zi w2 w.heap.size 0 (.int .i64 0)).trans (zi _ _ 1 _)) (qXp _) (fun af e=>oM)
def putC(ps:List (Int×Bool))(slots:Nat)(k s:Int):Int:=
 if k<0\/(ps.length:Int)<=k\/s<0\/(slots:Int)<=s then 10 else if atOf ps s=none\/atOf ps s=some k.toNat then 0 else 15
def ui(ps:List (Int×Bool))(slots:Nat)(k s:Int)(d:Bool):List (Int×Bool):=if putC ps slots k s=0 then ps.set k.toNat (s,d)else ps
def uH(ps:List (Int×Bool))(slots:Nat)(k s:Int):Int×Bool:=if putC ps slots k s=0 then ps.getD k.toNat (-1,false)else(0,false)
theorem Upd.undrew(h:Upd S w.drew w'):Upd S w w':=⟨h.os,h.tape,h.output,h.size,h.block⟩
theorem Sl.setAt{e:TypeId}{g off n cap:Nat}{xs:List Value}(h:Sl w e m (.slice (some ⟨g,off,none⟩) n cap) n xs)(i:Nat)(L:i<n*m)(u:Value):
  Sl (w.setCell ⟨g,off+i,none⟩ u) e m (.slice (some ⟨g,off,none⟩) n cap) n (xs.set i u):=by
 obtain⟨D,⟨h1,_⟩|⟨M,O,Q,R,h1,E,p,F,H,J⟩⟩:=h
 .cases h1
 .cases h1;have T:n*m<=cap*m:=qXv m p;refine⟨by simpa using D,.inr ⟨g,off,cap,_,rfl,zh E _ _,p,F,by simpa using H,fun q x j=>?_⟩⟩;by_cases s:i=q
  .subst s;rw[List.getElem?_set_self oM]at j;cases j;rw[Array.getElem?_setIfInBounds_self,if_pos oM]
  .rw [List.getElem?_set_ne s]at j;rw[qxg oM];exact J q x j
theorem UL(s:Int)(d:Bool):∀(ps:List (Int×Bool)) (k:Nat),((plC ps).set (k*2) (.int .i64 s)).set (k*2+1) (.bool d)=plC (ps.set k (s,d))
 |[],k=>by simp[plC]
 |p::ps,0=>by simp[plC]
 |p::ps,k+1=>by
  have:=UL s d ps k;simp only[plC,qye,qXf,qxy,qzu]at this⊢;rw[show(k+1)*2=k*2+1+1 by omega];simp only[qXf];rw[this]
theorem Sl.putPlace{g off cap:Nat}(h:Sl w 231 2 (.slice (some ⟨g,off,none⟩) ps.length cap) ps.length (plC ps))(k:Nat)(j:k<ps.length)(s:Int)(d:Bool):
  Sl ((w.setCell ⟨g,off+k*2,none⟩ (.int .i64 s)).setCell ⟨g,off+k*2+1,none⟩ (.bool d)) 231 2 (.slice (some ⟨g,off,none⟩) ps.length cap) (ps.set k (s,d)).length (plC (ps.set k (s,d))):=by
 rw[<-UL,qze,qXl off];exact(h.setAt (k*2) oM _).setAt (k*2+1) oM _
theorem zcB(h:IndexAt w b v mb N ps slots)(k:Nat)(s:Int)(d:Bool)(E:k<ps.length)(au:0<=s)(h1:s<slots)(ad:mayPut ps k s)(b6:N<maxLen):
  Calls prog 186 #[.pointer (some ⟨b,0,none⟩),.int .i64 k,zP s d] w fun e w'=>e=.returned (.tuple #[zP ps[k].1 ps[k].2,.int .i64 0])/\
   IndexAt w' b v mb (N+1) (ps.set k (s,d)) slots/\Upd (ixS v mb) w w':=by
 have T:Upd (fun _=>False) w ((w.alloc (.cells #[.int .i64 s,.bool d] 231)).alloc (.cells #[.int .i64 0,.bool false] 231)):=((uur _ _).alloc _).alloc _;have L:=qqh h;have U:=h.blt;have b7:=h.le;have hsl:=h.sl1;have ae:=za h.str 0;have af:=za h.str 1;have ag:=za h.str 2;simp at ae af ag;obtain⟨g,j,ah,rfl,av,aw,ax⟩:=h.at E;have ai:=(T.cellAt (o:=0) U (fun h=>h)).trans ae;have aj:=(T.cellAt (o:=1) U (fun h=>h)).trans af;have b8:=(T.cellAt (o:=2) U (fun h=>h)).trans ag;have bD:¬(k:Int)<0:=oM;clear h;go_enter func186,ntmps186
 go_wp2
 go_quiet(fail)
 clear ai aj b8;generalize V:(((w.alloc (.cells #[.int .i64 s,.bool d] 231)).alloc (.cells #[.int .i64 0,.bool false] 231)).drewN nq)=n;have M:Upd (fun _=>False) w n:=by rw[<-V];exact T.drewN nq
 have a6:n.heap[w.heap.size]?=some (.cells #[.int .i64 s,.bool d] 231):=by
  rw[<-V];exact((Upd.alloc (uur (fun _=>False) _) (.cells #[.int .i64 0,.bool false] 231)).block w.heap.size oe (fun h=>h)).trans (zc w _ rfl)
 have ay:n.heap[w.heap.size+1]?=some (.cells #[.int .i64 0,.bool false] 231):=by
  rw[<-V];exact zc _ _ oe
 have az:n.heap.size=w.heap.size+2:=by rw[<-V];simp[World.drewN]
 clear V T;have ai:=(M.cellAt (o:=0) U (fun h=>h)).trans ae;have aj:=(M.cellAt (o:=1) U (fun h=>h)).trans af;have b9:=(M.cellAt av (fun h=>h)).trans aw;have ba:=(M.cellAt av (fun h=>h)).trans ax;have aA:=za a6 0;have aB:=za a6 1;simp at aA aB;have ak:=qqh (L.o.keep M (fun h=>h) (fun _ _ h=>h));have bb:=qqh a6;have bc:=qqh ay;clear a6 ay aw ax ag;have aC:=(show MapAt n.drew mb N (atOf ps)from ak.out.map).look (x:=s) oM oM;obtain⟨o,c,bd,aD⟩:∃(o:Bool) (c:Nat),(Instr.lookup 145 (.map (some mb)) (.int .i64 s) true).run prog n.drew=.ok (.tuple #[.int .i64 (c:Int),.bool o]) n.drew/\(o=false\/o=true/\c=k):=by
  refine⟨_,_,aC,?_⟩;rcases ad with e|e<;>rw[e]<;>simp
 clear aC;have aE:Hid (mayPut ps k s):=ad;clear ad;have be:o=false\/o=true/\k=c:=aD.imp id (fun h=>⟨h.1,h.2.symm⟩);clear aD;rcases be with rfl|⟨rfl,rfl⟩
 all_goals
  go_wp2
  go_region
  clear bd;go_wp2
  clear aA aB b9 ba ai aj;generalize a7:(n.alloc (.cells #[.int .i64 ps[k].1,.bool ps[k].2] 231)).drew=a8;have W:Upd (fun _=>False) n a8:=by rw[<-a7];exact((uur _ _).alloc _).drew
  have am:a8.heap[w.heap.size+2]?=some (.cells #[.int .i64 ps[k].1,.bool ps[k].2] 231):=by rw[<-a7,<-az];exact zc n _ rfl
  have aF:a8.heap.size=w.heap.size+3:=by rw[<-a7];show(n.alloc _).heap.size=_;simp[az]
  clear a7;have q:=ak.out.keep W (fun h=>h) (fun _ _ h=>h);have aG:=(W.block _ oM (fun h=>h)).trans bb.o;have aH:=(W.block _ oM (fun h=>h)).trans bc.o;have hr:=q.good.each k E;obtain⟨F,bf,aI,aJ,aK⟩:=(show MapAt a8.drew mb N (atOf ps)from q.map).drop (x:=ps[k].1) oY oY 0;have H:=aJ.undrew;have bg:F.heap.size=w.heap.size+3:=aK.trans aF;clear aJ aK;have aL:b≠mb:=fun e=>q.nm e.symm;have bh:g≠mb:=fun e=>q.nv jR;have bi:g≠b:=fun e=>q.ne jR;have bE:=L.o.map.lt;have X:Hid (F.heap[w.heap.size+2]?=some (.cells #[.int .i64 ps[k].1,.bool ps[k].2] 231)/\F.heap[w.heap.size+1]?=some (.cells #[.int .i64 0,.bool false] 231)/\F.heap[w.heap.size]?=some (.cells #[.int .i64 s,.bool d] 231)):=
   ⟨(H.block _ oM oM).trans am,(H.block _ oM oM).trans aH,(H.block _ oM oM).trans aG⟩
  have aM:=qqh (q.sl.keep H (fun aN an e=>by simp[Value.ownBlock]at an;omega));have aO:=za am 0;have m1:=za q.str 1;simp at aO m1;have bj:=qqh aI;have aP:=qqh ((H.block _ q.blt aL).trans q.str);have bk:=qqh (((M.trans W).mono (S':=fun p=>p=mb) (fun _ _ h=>h.elim)).trans H);clear W aG aH am aI hr;go_wp2
  go_region
  clear bf aO m1 H q aF;obtain⟨aN,bF,bG,bH,bl,Y,bn,ao⟩:=aM.out.at oM;cases bl;have bo:=(za Y (j+k*2)).trans (ao _ _ (xQ E).1);have bp:=(za Y (j+k*2+1)).trans (ao (k*2+1) _ (xQ E).2);have bq:=zg Y (j+k*2);have br:=zg Y (j+k*2+1);have t0:=za aP.out 0;have D:=za X.out.2.2 0;have Z:=za X.out.2.2 1;simp at t0 D Z;clear bn ao Y;go_wp2
  go_region
  clear t0 D Z bo bp bq br;generalize aa:((F.setCell ⟨g,j+k*2,none⟩ (.int .i64 s)).setCell ⟨g,j+k*2+1,none⟩ (.bool d)).drew=ab;have J:Upd (fun p=>p=g) F ab:=by rw[<-aa];exact((zi F g (j+k*2) _).trans (zi _ g (j+k*2+1) _)).drew
  have aQ:Sl ab 231 2 (.slice (some ⟨g,j,none⟩) ps.length ah) (ps.set k (s,d)).length (plC (ps.set k (s,d))):=by
   rw[<-aa];exact(aM.out.putPlace k E s d).keep ((uur (fun _=>False) _).drew) (fun _ _ h=>h)
  have bs:ab.heap.size=w.heap.size+3:=by rw[<-aa];simp[World.drew,bg]
  clear aa;have aR:=bj.out.keep J (fun e=>bh e.symm);have ap:=(J.block _ oM (fun e=>bi e.symm)).trans aP.out;have aS:=(J.block _ oM oM).trans X.out.1;have aT:=(J.block _ oM oM).trans X.out.2.1;have aU:=(J.block _ oM oM).trans X.out.2.2;obtain⟨O,bt,aV,aW,aX⟩:=(show MapAt ab.drew mb N (xT (atOf ps) ps[k].1 none)from aR).store (x:=s) oM oM k oM b6;have Q:=aW.undrew;have aY:=za ap 1;have D:=za aU 0;simp at aY D;clear aW;go_wp2
  go_region
  clear bt aY D;have aq:=(Q.block _ oM oM).trans aS;have R:=(Q.block _ oM oM).trans aT;have aZ:=(Q.block _ oM aL).trans ap;have b0:=aQ.keep Q (fun aN an e=>by simp[Value.ownBlock]at an;omega);have ar:=ak.out.good;have b1:IndexAt O b (.slice (some ⟨g,j,none⟩) ps.length ah) mb (N+1) (ps.set k (s,d)) slots:=
   {str:=aZ,sl:=by simpa using b0,map:=by rw[ar.atOf_put E d au h1 aE.o];exact aV,good:=ar.put E d au h1 aE.o,ne:=L.o.ne,nm:=L.o.nm,nv:=L.o.nv,le:=by simpa using b7,sl1:=hsl}
  have bI:O.heap.size=w.heap.size+3:=aX.trans bs;have b2:Upd (ixS (.slice (some ⟨g,j,none⟩) ps.length ah) mb) w O:=
   ((bk.out.mono (fun p _ e=> .inr e)).trans (J.mono (fun p _ e=> .inl jR))).trans (Q.mono (fun p _ e=> .inr e))
  have bu:=qqh b1;have bv:=qqh b2;have bx:=qqh R;have bz:=za R 0;have bA:=za R 1;have bJ:=zg R 0;have q1:=zg R 1;have bB:=za aq 0;have bC:=za aq 1;simp at bz bA bB bC;clear aq R aZ b0 ar b1 b2 aS aT aU ap aR aV J Q aQ aX;go_wp2
  have b3:=zh (zh bx.o 0 (.int .i64 ps[k].1)) 1 (.bool ps[k].2);have D:=za b3 0;have Z:=za b3 1;simp at D Z;have b4:Upd (fun p=>p=w.heap.size+1) O ((O.setCell ⟨w.heap.size+1,0,none⟩ (.int .i64 ps[k].1)).setCell ⟨w.heap.size+1,1,none⟩ (.bool ps[k].2)):=(zi O (w.heap.size+1) 0 _).trans (zi _ _ 1 _);refine qYq (v:=.tuple #[zP ps[k].1 ps[k].2,.int .i64 0]) ?_ rfl ⟨rfl,?_,?_⟩
  .simp [results,results186,go_sem,D,Z]
  .exact bu.o.keep b4 oM (fun p b5 e=>by have:=L.o.slt p b5;omega)
  .exact bv.o.new (b4.mono (fun _ _ h=>h)) (fun p b5 e=>oM)
theorem rf(w:World)(a:Nat)(h:w.heap[a]?=some (.cells #[.int .i64 0,.bool false] 231)):w.cell? ⟨a,0,none⟩=some (.int .i64 0)/\w.cell? ⟨a,1,none⟩=some (.bool false)/\w.frozen? ⟨a,0,none⟩=false/\w.frozen? ⟨a,1,none⟩=false:=
 ⟨za h 0,za h 1,zg h 0,zg h 1⟩
theorem rh(w:World)(a:Nat)(p:w.heap[a]?=some (.cells #[.int .i64 0,.bool false] 231)):
  (((w.setCell ⟨a,0,none⟩ (.int .i64 0)).setCell ⟨a,1,none⟩ (.bool false)).cell? ⟨a,0,none⟩=some (.int .i64 0)/\((w.setCell ⟨a,0,none⟩ (.int .i64 0)).setCell ⟨a,1,none⟩ (.bool false)).cell? ⟨a,1,none⟩=some (.bool false)):=by
 have h:=zh (zh p 0 (.int .i64 0)) 1 (.bool false);have j:=za h 0;have n:=za h 1;simp at j n;exact⟨j,n⟩
theorem tD{B:Nat}{a:World}(h:Below B a w)(x:Nat)(hx:B<=x)(u j:Value):Below B a ((w.setCell ⟨x,0,none⟩ u).setCell ⟨x,1,none⟩ j):=
 (h.setCell (p:=⟨x,0,none⟩) hx _).setCell (p:=⟨x,1,none⟩) hx _
theorem Qc(h:IndexAt w b v mb N ps slots)(k:Nat)(s:Int)(d:Bool)(Y:k<ps.length)(Z:0<=s)(h1:s<slots)(q:¬mayPut ps k s):
  Calls prog 186 #[.pointer (some ⟨b,0,none⟩),.int .i64 k,zP s d] w fun e w'=>e=.returned (.tuple #[zP 0 false,.int .i64 15])/\Below w.heap.size w w':=by
 have p:Upd (fun _=>False) w ((w.alloc (.cells #[.int .i64 s,.bool d] 231)).alloc (.cells #[.int .i64 0,.bool false] 231)):=((uur _ _).alloc _).alloc _;have T:=qqh h;have D:=h.blt;have a6:=h.le;have hsl:=h.sl1;have E:=za h.str 1;have L:=(p.cellAt (o:=0) D id).trans (za h.str 0);have M:=(p.cellAt (o:=2) D id).trans (za h.str 2);simp at L E M;obtain⟨a7,c,rfl⟩:=h.sl.rd.jW;have a8:¬(k:Int)<0:=oM;obtain⟨o,O,U⟩:∃o:Nat,atOf ps s=some o/\o≠k:=by
  cases e:atOf ps s with
  |none=>exact absurd (.inl e) q
  |some o=>exact⟨o,rfl,fun V=>q (.inr (by rw[e,V]))⟩
 have aa:((o:Int)==(k:Int))=false:=by simp;omega
 clear h q;go_enter func186,ntmps186
 go_wp2
 go_quiet(fail)
 clear L M;generalize n:(((w.alloc (.cells #[.int .i64 s,.bool d] 231)).alloc (.cells #[.int .i64 0,.bool false] 231)).drewN nq)=j;have W:Below w.heap.size w j:=by rw[<-n];exact zN (((qxl _ _).alloc (qXp _) _).alloc oe _) _
 have F:Upd (fun _=>False) w j:=by rw[<-n];exact p.drewN nq
 have H:j.heap[w.heap.size+1]?=some (.cells #[.int .i64 0,.bool false] 231):=by rw[<-n];exact zc _ _ oe
 have Q:j.heap[w.heap.size]?=some (.cells #[.int .i64 s,.bool d] 231):=by
  rw[<-n];exact((Upd.alloc (uur (fun _=>False) _) (.cells #[.int .i64 0,.bool false] 231)).block w.heap.size oe id).trans (zc w _ rfl)
 clear n p;obtain⟨ab,ad,ae,af⟩:=rf _ _ H;have R:=qqh (rh _ _ H);have X:=za Q 0;simp at X;have ag:=(F.cellAt D id).trans E;have J:=(show MapAt j.drew mb N (atOf ps)from(MapAt.keep (w':=j) T.o.map (S:=fun _=>False) F id)).look (x:=s) oM oM;rw[O]at J;simp only[Option.getD_some,Option.isSome_some]at J;clear H Q F E O U;go_wp2
 go_region
 clear J;go_wp2
 refine qYq (v:=.tuple #[zP 0 false,.int .i64 15]) ?_ rfl ⟨rfl,tD (w:=j.drew) W.drew _ oM _ _⟩;simp[results,results186,go_sem,R.out.1,R.out.2]
theorem AW(h:IndexAt w b v mb N ps slots)(k s:Int)(d:Bool)(O:k<0\/(ps.length:Int)<=k\/s<0\/(slots:Int)<=s):
  Calls prog 186 #[.pointer (some ⟨b,0,none⟩),.int .i64 k,zP s d] w fun e w'=>e=.returned (.tuple #[zP 0 false,.int .i64 10])/\Below w.heap.size w w':=by
 have j:Upd (fun _=>False) w ((w.alloc (.cells #[.int .i64 s,.bool d] 231)).alloc (.cells #[.int .i64 0,.bool false] 231)):=((uur _ _).alloc _).alloc _;have D:=h.blt;have V:=h.le;have hsl:=h.sl1;have E:=(j.cellAt (o:=0) D id).trans (za h.str 0);have F:=(j.cellAt (o:=2) D id).trans (za h.str 2);simp at E F;obtain⟨W,c,rfl⟩:=h.sl.rd.jW;clear h j;have Q:k<0\/(¬k<0/\(ps.length:Int)<=k)\/(¬k<0/\¬(ps.length:Int)<=k/\s<0)\/(¬k<0/\¬(ps.length:Int)<=k/\¬s<0/\(slots:Int)<=s):=oM;clear O;rcases Q with h1|⟨h1,h2⟩|⟨h1,h2,n⟩|⟨h1,h2,n,R⟩
 case' inr.inl=>
  have H:decide (k<0)=false:=by simpa using h1
  have J:decide ((ps.length:Int)<=k)=true:=by simpa using h2
 case' inr.inr.inl=>
  have H:decide (k<0)=false:=by simpa using h1
  have J:decide ((ps.length:Int)<=k)=false:=by simpa using h2
  have T:decide (s<0)=true:=by simpa using n
 case' inr.inr.inr=>
  have H:decide (k<0)=false:=by simpa using h1
  have J:decide ((ps.length:Int)<=k)=false:=by simpa using h2
  have T:decide (s<0)=false:=by simpa using n
  have X:decide ((slots:Int)<=s)=true:=by simpa using R
 all_goals
  go_enter func186,ntmps186
  go_wp2
  go_quiet(fail)
  clear E F;generalize p:(((w.alloc (.cells #[.int .i64 s,.bool d] 231)).alloc (.cells #[.int .i64 0,.bool false] 231)).drewN nq)=L;have U:Below w.heap.size w L:=by rw[<-p];exact zN (((qxl _ _).alloc (qXp _) _).alloc oe _) _
  have q:L.heap[w.heap.size+1]?=some (.cells #[.int .i64 0,.bool false] 231):=by rw[<-p];exact zc _ _ oe
  clear p;obtain⟨Y,Z,a6,a7⟩:=rf _ _ q;have M:=qqh (rh _ _ q);clear q;go_wp2
  refine qYq (v:=.tuple #[zP 0 false,.int .i64 10]) ?_ rfl ⟨rfl,tD U _ oM _ _⟩;simp[results,results186,go_sem,M.out.1,M.out.2]
theorem qw{n:Nat}(h:n<ps.length):ps.getD n (-1,false)=ps[n]:=by simp[List.getD,h]
theorem ZQ(h:IndexAt w b v mb N ps slots)(k:Int):
  Calls prog 214 #[.pointer (some ⟨b,0,none⟩),.int .i64 k] w fun e w'=>e=.returned (.tuple #[zP (getV ps k).1 (getV ps k).2,.int .i64 (getC ps k)])/\Below w.heap.size w w':=by
 by_cases p:k<0\/(ps.length:Int)<=k
 .simp only[getV,getC,if_pos p];exact AV h k p
 .obtain ⟨j,rfl⟩:∃j:Nat,k=j:=⟨k.toNat,oM⟩
  have n:j<ps.length:=oM;simp only[getV,getC,if_neg p,qxs,qw n];rcases h.good.each j n with e|e
  .simp only[e,if_true];exact Sm h j n e
  .have h1:ps[j].1≠-1:=oM;have h2:ps[j]≠(-1,false):=fun e=>h1 (by rw[e]);simp only[if_neg h2];exact Xo h j n h1
theorem AX(h:IndexAt w b v mb N ps slots)(k s:Int)(d:Bool)(F:N<maxLen):
  Calls prog 186 #[.pointer (some ⟨b,0,none⟩),.int .i64 k,zP s d] w fun e w'=>e=.returned (.tuple #[zP (uH ps slots k s).1 (uH ps slots k s).2,.int .i64 (putC ps slots k s)])/\
   IndexAt w' b v mb (N+1) (ui ps slots k s d) slots/\Upd (ixS v mb) w w':=by
 by_cases p:k<0\/(ps.length:Int)<=k\/s<0\/(slots:Int)<=s
 .have e:putC ps slots k s=10:=by unfold putC;rw[if_pos p]
  simp only[uH,ui,e,if_neg (show¬(10:Int)=0 by decide)];exact(AW h k s d p).mono fun e w' ⟨D,n⟩=>⟨D,(h.below n).mono (qXq _),uuo n⟩
 .obtain ⟨j,rfl⟩:∃j:Nat,k=j:=⟨k.toNat,oM⟩
  have E:j<ps.length:=oM;by_cases q:mayPut ps j s
  .have e:putC ps slots j s=0:=by
    unfold putC;rw[if_neg p,if_pos (by simpa[mayPut]using q)]
   simp only[uH,ui,e,if_true,qxs,qw E];exact zcB h j s d E oM oM q F
  .have e:putC ps slots j s=15:=by
    unfold putC;rw[if_neg p,if_neg (by simpa[mayPut]using q)]
   simp only[uH,ui,e,if_neg (show¬(15:Int)=0 by decide)];exact(Qc h j s d E oM oM q).mono fun e w' ⟨D,n⟩=>⟨D,(h.below n).mono (qXq _),uuo n⟩
def dropL(ps:List (Int×Bool))(k:Int):List (Int×Bool):=if getC ps k=0 then ps.set k.toNat (-1,false)else ps
theorem sW(h:Good ps slots)(p:getC ps k=0):∃(n:Nat) (q:n<ps.length),k=n/\0<=ps[n].1/\ps[n].1<slots/\getV ps k=ps[n]:=by
 unfold getC at p;by_cases s:k<0\/(ps.length:Int)<=k
 .rw [if_pos s]at p;cases p
 .rw [if_neg s]at p;obtain⟨n,rfl⟩:∃n:Nat,k=n:=⟨k.toNat,oM⟩
  have q:n<ps.length:=oM;simp only[qxs,qw q]at p;by_cases e:ps[n]=(-1,false)
  .simp [e]at p
  .refine ⟨n,q,rfl,?_,?_,?_⟩
   .rcases h.each n q with j|j;exact absurd j e;exact j.1
   .rcases h.each n q with j|j;exact absurd j e;exact j.2
   .simp only[getV,if_neg s,qxs,qw q,if_neg e]
theorem Sn(h:getC ps k≠0):getV ps k=(0,false):=by
 unfold getC at h;unfold getV;split
 .rfl
 .rename_i j
  rw[if_neg j]at h;split
  .rfl
  .rename_i h2
   rw[if_neg h2]at h;exact absurd rfl h
theorem So(h:IndexAt w b v mb N ps slots)(k:Int)(n:getC ps k≠0):
  Calls prog 392 #[.pointer (some ⟨b,0,none⟩),.int .i64 k] w fun e w'=>e=.returned (.tuple #[zP 0 false,.int .i64 (getC ps k)])/\Below w.heap.size w w':=by
 have D:=qqh (h.keep ((uur (fun _=>False) w).alloc (.cells #[.int .i64 0,.bool false] 231)) id (fun _ _ h=>h));obtain⟨c,j⟩:=qqe (getC ps k);obtain⟨z,E⟩:=qqe (getV ps k);have p:=ZQ D.o k;rw[<-j,<-E]at p;have F:=qqh p;rw[<-j]at n;rw[<-j];have M:(c==0)=false:=by simpa using n
 clear j E h D n p;go_enter func392,ntmps392
 go_wp2_with fail
 refine F.o.mono ?_;rintro e w1 ⟨rfl,q⟩;have J:=q.size;simp at J;have L:=zj ((qxl _ w).alloc (qXp _) _) (uuo (S:=fun _=>False) q) (qXp _) (fun _ h=>h.elim);have s:(w1.alloc (.cells #[.int .i64 z.1,.bool z.2] 231)).heap[w.heap.size]?=some (.cells #[.int .i64 0,.bool false] 231):=
  (((uuo (S:=fun _=>False) q).alloc _).block _ oe id).trans (zc w _ rfl)
 obtain⟨O,Q,R,T⟩:=rf _ _ s;have H:=qqh (rh _ _ s);clear s F;go_wp2
 refine qYq (v:=.tuple #[zP 0 false,.int .i64 c]) ?_ rfl ⟨rfl,tD (L.alloc oM _) _ oM _ _⟩;simp[results,results392,go_sem,H.out.1,H.out.2]
theorem AY(h:IndexAt w b v mb N ps slots)(n:Nat)(E:n<ps.length)(bc:0<=ps[n].1):
  Calls prog 392 #[.pointer (some ⟨b,0,none⟩),.int .i64 n] w fun e w'=>e=.returned (.tuple #[zP ps[n].1 ps[n].2,.int .i64 0])/\
   IndexAt w' b v mb N (ps.set n (-1,false)) slots/\Upd (ixS v mb) w w':=by
 have X:=h.good;have hr:=X.each n E;have hsl:=h.sl1;have aF:=h.le;have Y:Upd (fun _=>False) w (w.alloc (.cells #[.int .i64 0,.bool false] 231)):=(uur (fun _=>False) w).alloc (.cells #[.int .i64 0,.bool false] 231);have s:=qqh h;have ad:=qqh (Xo (h.keep Y id (fun _ _ h=>h)) n E oM);clear h;go_enter func392,ntmps392
 go_wp2_with fail
 refine ad.o.mono ?_;rintro e w1 ⟨rfl,O⟩;have aG:=O.size;simp at aG;clear ad;have Q:Upd (fun _=>False) w (w1.alloc (.cells #[.int .i64 ps[n].1,.bool ps[n].2] 231)):=(Y.trans (uuo O|>.mono (S':=fun _=>False) (fun _ _ h=>h))).alloc _;have R:(w1.alloc (.cells #[.int .i64 ps[n].1,.bool ps[n].2] 231)).heap[w1.heap.size]?=some (.cells #[.int .i64 ps[n].1,.bool ps[n].2] 231):=zc w1 _ rfl;have Z:(w1.alloc (.cells #[.int .i64 ps[n].1,.bool ps[n].2] 231)).heap[w.heap.size]?=some (.cells #[.int .i64 0,.bool false] 231):=
  (((uuo (S:=fun _=>False) O).alloc _).block _ oe id).trans (zc w _ rfl)
 go_wp2
 generalize a6:(w1.alloc (.cells #[.int .i64 ps[n].1,.bool ps[n].2] 231))=w2;rw[a6]at Q R Z;have ae:w2.heap.size=w1.heap.size+1:=by rw[<-a6];simp
 clear a6 O Y;have q:=s.o.keep Q id (fun _ _ h=>h);obtain⟨af,aH,ag,ah,ai⟩:=(show MapAt w2.drew mb N (atOf ps)from q.map).drop (x:=ps[n].1) oM oY 0;have H:=ah.undrew;obtain⟨g,j,T,rfl,aI,aJ,aK⟩:=q.at E;have aL:b≠mb:=fun e=>q.nm e.symm;have aM:g≠mb:=fun e=>q.nv jR;have aN:g≠b:=fun e=>q.ne jR;have bd:=s.o.map.lt;have be:=s.o.blt;have bf:=s.o.sl.lt (g:=g) rfl;have aj:=za q.str 1;have ak:=za R 0;simp at aj ak;have am:=(H.block _ oM oM).trans R;have an:=(H.block _ oM oM).trans Z;have U:=(H.block _ q.blt aL).trans q.str;have a7:=q.sl.keep H (fun aO aP e=>by simp[Value.ownBlock]at aP;omega);have aQ:=qqh ag;have aR:af.heap.size=w1.heap.size+1:=ai.trans ae;have aS:=qqh ((Q.mono (S':=fun p=>p=mb) (fun _ _ h=>h.elim)).trans H);clear Q R Z ae q aJ aK ah H ag aI ai;go_wp2
 go_region
 clear aH aj ak;have t0:=za U 0;simp at t0;obtain⟨aO,bg,bh,bi,aT,J,aU,a8⟩:=a7.at oM;cases aT;have aV:=qqh am;have aW:=qqh an;have aX:=qqh U;have aY:=qqh a7;have ao:=(za J (j+n*2)).trans (a8 _ _ (xQ E).1);have ap:=(za J (j+n*2+1)).trans (a8 (n*2+1) _ (xQ E).2);have aq:=zg J (j+n*2);have ar:=zg J (j+n*2+1);have bj:=zd J;have bk:=zd U;clear am an U a7 aU a8 J;go_wp2
 go_region_held3 (fun aZ=>aZ.cell? ⟨b,0,none⟩=some (.slice (some ⟨g,j,none⟩) ps.length T)) (go_keep)
  ((go_at_call 184;refine(yV _).mono ?_;rintro e V ⟨rfl,F,au⟩;have b0:=(F.cellAt (o:=0) og id).trans t0;have b1:=(F.cellAt og id).trans ao;have b2:=(F.cellAt og id).trans ap;have b3:=(F.frozenAt og id).trans aq;have b4:=(F.frozenAt og id).trans ar))
 generalize W:((V.setCell ⟨g,j+n*2,none⟩ (.int .i64 (-1))).setCell ⟨g,j+n*2+1,none⟩ (.bool false))=D;have aa:Upd (fun _=>False) af V:=F.undrew;have av:Upd (fun p=>p=g) V D:=by rw[<-W];exact(zi V g (j+n*2) _).trans (zi _ g (j+n*2+1) _)
 have aw:=aY.o.keep aa (fun _ _ h=>h);have ax:Sl D 231 2 (.slice (some ⟨g,j,none⟩) ps.length T) (ps.set n (-1,false)).length (plC (ps.set n (-1,false))):=by
  rw[<-W];exact aw.putPlace n E (-1) false
 have bl:D.heap.size=w1.heap.size+2:=by rw[<-W];simp[au];simp[aR]
 clear W b0 b1 b2 b3 b4 ao ap aq ar t0;have L:=(aa.mono (S':=fun p=>p=g) (fun _ _ h=>h.elim)).trans av;have ay:=aQ.o.keep L (fun e=>aM e.symm);have az:=(L.block _ oM (fun e=>aN e.symm)).trans aX.o;have ab:=(L.block _ oM oM).trans aV.o;have M:=(L.block _ oM oM).trans aW.o;have b5:Hid (IndexAt D b (.slice (some ⟨g,j,none⟩) ps.length T) mb N (ps.set n (-1,false)) slots):=
  {str:=az,sl:=by simpa using ax,map:=by rw[X.atOf_drop E];exact ay,good:=X.drop n,ne:=s.o.ne,nm:=s.o.nm,nv:=s.o.nv,le:=by simpa using aF,sl1:=hsl}
 have b6:Hid (Upd (ixS (.slice (some ⟨g,j,none⟩) ps.length T) mb) w D):=
  (aS.o.mono (fun p _ e=> .inr e)).trans (L.mono (fun p _ e=> .inl jR))
 have b7:=qqh M;have b8:=za M 0;have b9:=za M 1;have bn:=zg M 0;have q1:=zg M 1;have ba:=za ab 0;have bb:=za ab 1;simp at b8 b9 ba bb;clear aa av aw ax L ay az ab M au F;go_wp2
 have aA:=zh (zh b7.o 0 (.int .i64 ps[n].1)) 1 (.bool ps[n].2);have aB:=za aA 0;have aC:=za aA 1;simp at aB aC;have aD:Upd (fun p=>p=w.heap.size) D ((D.setCell ⟨w.heap.size,0,none⟩ (.int .i64 ps[n].1)).setCell ⟨w.heap.size,1,none⟩ (.bool ps[n].2)):=(zi D w.heap.size 0 _).trans (zi _ _ 1 _);refine qYq (v:=.tuple #[zP ps[n].1 ps[n].2,.int .i64 0]) ?_ rfl ⟨rfl,?_,?_⟩
 .simp [results,results392,go_sem,aB,aC]
 .exact b5.o.keep aD oM (fun p aE e=>by have:=s.o.slt p aE;omega)
 .exact b6.o.new (aD.mono (fun _ _ h=>h)) (fun p aE e=>oM)
theorem Sr(j:IndexAt w b v mb N ps slots)(k:Int):
  Calls prog 392 #[.pointer (some ⟨b,0,none⟩),.int .i64 k] w fun e w'=>e=.returned (.tuple #[zP (getV ps k).1 (getV ps k).2,.int .i64 (getC ps k)])/\
   IndexAt w' b v mb N (dropL ps k) slots/\Upd (ixS v mb) w w':=by
 by_cases h:getC ps k=0
 .obtain ⟨n,s,rfl,D,h1,E⟩:=sW j.good h;have p:dropL ps n=ps.set n (-1,false):=by simp[dropL,h]
  rw[p,E,h];exact AY j n s D
 .have p:dropL ps k=ps:=by simp[dropL,h]
  rw[p,Sn h];exact(So j k h).mono fun e w' ⟨F,q⟩=>⟨F,j.below q,uuo q⟩
theorem zcC:(prog.info? 231).map (fun i=>(i.zero,i.size,i.bytes))=some (some (.agg #[.int .i64 0,.bool false]),2,16):=kR
theorem wF(h:Rd w 2 v ps.length (plC ps))(X:ps.length<=4096)(Y:0<ps.length):
  Calls prog 202 #[v] w fun e w'=>∃j,e=.returned j/\Sl w' 231 2 j ps.length (plC ps)/\From w.heap.size j/\Below w.heap.size w w':=by
 obtain⟨s,D,E,F,H⟩:=qYu zcC;have J:=qqh h;obtain⟨L,Z,M,c,rfl,n,_⟩:=h;have a6:=fun(w:World) (a:Option Addr) (O c:Nat)=>Lib.run_eql_slice_nil (P:=prog) w 286 231 a O c 0 0 underlying286;cases M with
 |none=>
  have a7:=n rfl;omega
 |some a=>
  clear n L;have Q:Sl (w.alloc (.cells #[] 231)) 231 2 (.slice (some ⟨w.heap.size,0,none⟩) 0 0) 0 []:=
   ⟨oe,.inr ⟨w.heap.size,0,0,#[],rfl,zc _ _ rfl,oe,by simp[maxLen],oe,oe⟩⟩
  have R:Hid (Rd (w.alloc (.cells #[] 231)) 2 (.slice (some a) ps.length c) ps.length (plC ps)):=J.o.keep ((uur (fun _=>False) _).alloc _) (fun _ _ h=>h);have T:∀u∈plC ps,u.oneCell'=true:=by intro u p;simp only[plC,qzp]at p;obtain⟨a8,_,q⟩:=p;simp at q;rcases q with rfl|rfl<;>simp[Value.oneCell']
  go_enter func202,ntmps202
  go_wp2_with (at_builtin;refine zF rfl _ _ 286 rfl s (.agg #[.int .i64 0,.bool false]) 16 underlying286 D E F H rfl de rfl Q _ ps.length (plC ps) rfl R.o T oh oM ?_)
  intro j w2 U V W;go_wp2
  go_ret
  refine⟨_,rfl,by simpa using U,?_,?_⟩
  .exact W.ge oe oE
  .refine zj ((qxl _ _).alloc (qXp _) _) V (qXp _) oy
open Go Go.RowKit Go.Maps Tryz
def SetAt(w:World)(mb N:Nat)(A:Int->Bool):Prop:=
 ∃D:DataW Unit,w.ownsMap prog 3 unitElem mb N D/\∀s:Int,Maps.has D (.int .i64 s)=A s
theorem SetAt.lt(h:SetAt w mb N A):mb<w.heap.size:=by obtain⟨D,h,_⟩:=h;exact h.lt
theorem SetAt.keep(j:SetAt w mb N A)(n:Upd S w w')(p:¬S mb):SetAt w' mb N A:=by
 obtain⟨q,⟨s,D,h,r⟩,E⟩:=j;exact⟨q,⟨s,D,(n.block _ (zd h) p).trans h,r⟩,E⟩
theorem SetAt.mono(h:SetAt w mb N A)(j:N<=N'):SetAt w mb N' A:=by obtain⟨n,h,p⟩:=h;exact⟨n,h.mono j,p⟩
theorem SetAt.made(w:World):SetAt (w.alloc (.map #[] 0)) w.heap.size 0 (fun _=>false):=
 ⟨.map [],World.ownsMap_made w _ _ _,fun _s=>rfl⟩
def updB(A:Int->Bool)(x:Int)(v:Bool):Int->Bool:=fun s=>if s=x then v else A s
def InR(x:Int):Prop:= -9223372036854775808<=x/\x<9223372036854775808
theorem zfa(w:World):(zeroValue 391).run prog w=.ok (.agg #[]) w:=by
 exact Tryz.zeroValue391 w
theorem SetAt.look(h:SetAt w mb N A)(hx:InR x):
  (Instr.lookup 296 (.map (some mb)) (.int .i64 x) true).run prog w=.ok (.tuple #[.agg #[],.bool (A x)]) w:=by
 obtain⟨s,j,n⟩:=h;obtain⟨v,ps,p,q⟩:=j.look_ok yB underlying296 (zfa w) unitElem_mk (qm hx.1 hx.2);obtain⟨rfl,_⟩:=unitElem_inv q;rw[p,n x]
theorem SetAt.drop(q:SetAt w mb N A)(hx:InR x)(n:TypeId):
  ∃w',(Builtin.delete_ #[296,3] n #[.map (some mb),.int .i64 x]).run prog w=.ok (.tuple #[]) w'/\SetAt w' mb N (updB A x false)/\Upd (fun s=>s=mb) w w'/\w'.heap.size=w.heap.size:=by
 obtain⟨L,D,E⟩:=q;obtain⟨w',F,H,p⟩:=D.drop yB underlying296 (qm hx.1 hx.2) n;refine⟨w',F,⟨_,H,fun h=>?_⟩,yC p,yu p⟩;by_cases j:h=x
 .subst j;simp[updB,has_del_same]
 .have J:Lit.int .i64 h≠Lit.int .i64 x:=fun e=>j (by injection e);simp only[updB,if_neg j,has_del_other J];exact E h
theorem SetAt.store(q:SetAt w mb N A)(hx:InR x)(s:N<maxLen):
  ∃w',(Instr.mapUpdate 296 (.map (some mb)) (.int .i64 x) (.agg #[])).run prog w=.ok () w'/\SetAt w' mb (N+1) (updB A x true)/\Upd (fun D=>D=mb) w w'/\w'.heap.size=w.heap.size:=by
 obtain⟨O,n,E⟩:=q;have F:=n.isMap;have H:∀y:Int,WideAt.IsKeyLit (.int .i64 y):=fun _=>trivial;obtain⟨w',J,L,p⟩:=n.store (ps:=[]) (d:=.agg []) yB underlying296 s (qm hx.1 hx.2) unitElem_mk;refine⟨w',J,⟨_,L,fun h=>?_⟩,yC p,yu p⟩;by_cases j:h=x
 .subst j;simp only[updB,if_true];rw[has_put_same F (H _)]
 .have M:Lit.int .i64 h≠Lit.int .i64 x:=fun e=>j (by injection e);simp only[updB,if_neg j,has_put_other M];exact E h
theorem yW(h:SetAt w mb N A):
  Calls prog 437 #[.map (some mb)] w fun e w'=>e=.returned (.map (some w.heap.size))/\SetAt w' w.heap.size N A/\Below w.heap.size w w':=by
 obtain⟨F,⟨j,n,H,p,q,s⟩,D⟩:=h;have L:=fun w=>run_eql_map_nil_sl (P:=prog) w 296 _ _ (some mb) underlying296;have E:SetAt (w.alloc (.map j n)) w.heap.size N A:=⟨F,⟨j,n,(MapKept.heap_alloc w _).1,p,q,s⟩,D⟩
 have J:=qqh E;clear E D s q p;go_enter func437,ntmps437
 go_wp2
 rw[run_callFunc_extern func460 kR kR kR (e:=Extern.MapsClone.clone) kR,run_maps_clone_sl w 296 H];simp only[Result.andThen];rw[Oper.upon_value];go_wp2
 rw[run_typeAssert_map_sl _ 296 _ _ _ _ underlying296];simp only[Result.andThen];rw[Oper.upon_value];go_wp2
 go_ret
 exact⟨rfl,J.o,(qxl _ _).alloc (qXp _) _⟩
theorem uI(h:SetAt w mb N A)(k:Int)(j:InR k):
  Calls prog 438 #[.map (some mb),.int .i64 k] w fun e w'=>e=.returned (.bool (A k))/\Below w.heap.size w w':=by
 have n:=qqf;have p:=(SetAt.keep h ((uur (fun _=>False) w).alloc (.cells #[.bool false] 4)) id).look j;clear h
 go_enter_defers func438,ntmps438
 go_wp2
 refine leaves_cons (f:=461) (args:= #[.pointer (some ⟨w.heap.size,0,none⟩)]) oe jN ?_;refine(sB _ _).mono ?_;rintro e q s ⟨rfl,rfl,rfl⟩;simp[Leaves,settle,results,results438,go_sem];exact(qxl _ _).alloc (qXp _) _
end
section
theorem vI:(prog.info? 3).map (fun i=>(i.zero,i.size,i.bytes))=some (some (.int .i64 0),1,8):=kR
theorem uJ(l:List Int):∀u∈ints l,u.oneCell'=true:=by intro u h;simp only[ints,qzq]at h;obtain⟨j,_,rfl⟩:=h;rfl
theorem yE(h:Rd w 1 v l.length (ints l))(Y:l.length<=4096):
  Calls prog 267 #[v] w fun e w'=>∃j,e=.returned j/\Sl w' 3 1 j l.length (ints l)/\From w.heap.size j/\Below w.heap.size w w':=by
 obtain⟨s,D,E,F,H⟩:=qYu vI;have p:=qqh h;obtain⟨q,J,L,c,rfl,n,_⟩:=h;have Z:=fun(w:World) (a:Option Addr) (M c:Nat)=>Lib.run_eql_slice_nil (P:=prog) w 77 3 a M c 0 0 underlying77;cases L with
 |none=>
  have O:=n rfl;have Q:Hid (Sl w 3 1 (.slice none 0 0) l.length (ints l)):=by
   have:l=[]:=List.length_eq_zero_iff.1 O;subst this;exact Sl.nil _ _ _
  clear n q p J;go_enter func267,ntmps267
  go_wp2
  go_ret
  exact⟨_,rfl,Q.out,From.nil _ _ _,qxl _ _⟩
 |some a=>
  clear n q;have R:Sl (w.alloc (.cells #[] 3)) 3 1 (.slice (some ⟨w.heap.size,0,none⟩) 0 0) 0 []:=
   ⟨oe,.inr ⟨w.heap.size,0,0,#[],rfl,zc _ _ rfl,oe,by simp[maxLen],oe,oe⟩⟩
  have T:Hid (Rd (w.alloc (.cells #[] 3)) 1 (.slice (some a) l.length c) l.length (ints l)):=p.o.keep ((uur (fun _=>False) _).alloc _) (fun _ _ h=>h);have U:=uJ l;go_enter func267,ntmps267
  go_wp2_with (at_builtin;refine zF rfl _ _ 77 rfl s (.int .i64 0) 8 underlying77 D E F H rfl de rfl R _ l.length (ints l) rfl T.o U oh oM ?_)
  intro j w2 V W X;go_wp2
  go_ret
  refine⟨_,rfl,by simpa using V,?_,?_⟩
  .exact X.ge oe oE
  .refine zj ((qxl _ _).alloc (qXp _) _) W (qXp _) oy
theorem sC(l:List Int)(i j:Nat):(l.eraseIdx i)[j]?=if j<i then l[j]? else l[j+1]?:=by
 rw[List.getElem?_eraseIdx]
theorem ZR(h:Sl w 3 1 v l.length (ints l))(ax:l.length<=4096){i:Nat}(aa:i<l.length):
  Calls prog 251 #[v,.int .i64 i,.int .i64 ((i:Int)+1)] w fun e w'=>∃L,e=.returned L/\L.ownBlock=v.ownBlock/\Sl w' 3 1 L (l.eraseIdx i).length (ints (l.eraseIdx i))/\Upd (ownS v) w w':=by
 obtain⟨ab,ad,ay,ae,az⟩:=qYu vI;obtain⟨aA,⟨rfl,Q⟩|⟨g,j,p,R,rfl,T,aB,af,ag,M⟩⟩:=h
 .omega
 have U:(l.eraseIdx i).length=l.length-1:=List.length_eraseIdx_of_lt aa;obtain⟨q,E⟩:=qqe (ints (l.drop (i+1)));have V:q.length=l.length-(i+1):=by rw[E];simp
 have F:w.drew.heap[g]?=some (.cells R 3 (0,0)):=T;obtain⟨A,aC,ah⟩:∃A:Addr,(if p=i+1 then some (⟨g,j,none⟩:Addr)else some ⟨g,j+(i+1),none⟩)=some A/\Hid (∀t u,q[t]?=some u->w.drew.cell? (A.add t)=some u):=by
  by_cases h:p=i+1
  .refine ⟨⟨g,j,none⟩,by simp[h],fun t u n=>?_⟩;have Q:q.length=0:=oM;rw[List.length_eq_zero_iff.1 Q]at n;simp at n
  .refine ⟨⟨g,j+(i+1),none⟩,by simp[h],fun t u n=>?_⟩;rw[qxa,za F];rw[E]at n;have:(ints l)[i+1+t]?=some u:=by
    rw[<-n];simp[ints,List.getElem?_drop]
   rw[show j+(i+1)+t=j+(i+1+t) by omega];exact M _ _ this
 have ai:Hid (q.length=(l.length-(i+1))*1):=by rw[Nat.mul_one];exact V
 have aj:Hid (∀u∈q,u.oneCell'=true):=by rw[E];exact uJ _
 have ak:Hid (∀t,t<q.length->(w.drew.cell? ⟨g,j+i*1+t,none⟩).isSome=true/\w.drew.frozen? ⟨g,j+i*1+t,none⟩=false):=by
  intro t am;rw[za F,zg F];refine⟨?_,rfl⟩;rw[qxe oM];rfl
 obtain⟨an,H,aD,W⟩:=zC q (j+i*1) w.drew g R 3 (0,0) F;obtain⟨s,J⟩:=qqe (w.drew.setCells g (j+i*1) q);rw[<-J]at H;have X:∀t,t<l.length-(i+(l.length-(i+1)))->(s.cell? ⟨g,j+(i+(l.length-(i+1)))+t,none⟩).isSome=true:=by
  intro t am;rw[za H,qxe oM];rfl
 have aE:∀O,(Builtin.clear_ #[77] O #[.slice (some ⟨g,j+(i+(l.length-(i+1))),none⟩) (l.length-(i+(l.length-(i+1)))) (p-(i+(l.length-(i+1))))]).run prog s=.ok (.tuple #[]) (s.setCells g (j+(i+(l.length-(i+1)))) (List.replicate (l.length-(i+(l.length-(i+1)))) (.int .i64 0))):=
  fun O=>Lib.run_clear_slice s _ 3 O (.int .i64 0) underlying77 (fun w=>Tryz.zeroValue3 w) rfl rfl g (j+(i+(l.length-(i+1)))) _ _ oM X (fun t _=>zg H _)
 obtain⟨ao,Y,aF,Z⟩:=zC (List.replicate (l.length-(i+(l.length-(i+1)))) (Value.int .i64 0)) (j+(i+(l.length-(i+1)))) s g an 3 (0,0) H;have a6:Upd (ownS (.slice (some ⟨g,j,none⟩) l.length p)) w (s.setCells g (j+(i+(l.length-(i+1)))) (List.replicate (l.length-(i+(l.length-(i+1)))) (.int .i64 0))):=by
  refine Upd.trans (b:=s) ?_ (yo _ _ _ _ _ rfl);rw[J];exact((uur _ w).drew).trans (yo _ _ _ _ _ rfl)
 have a7:Sl (s.setCells g (j+(i+(l.length-(i+1)))) (List.replicate (l.length-(i+(l.length-(i+1)))) (.int .i64 0))) 3 1 (.slice (some ⟨g,j,none⟩) (i+(l.length-(i+1))) p) (l.eraseIdx i).length (ints (l.eraseIdx i)):=by
  refine⟨oe,.inr ⟨g,j,p,ao,by rw[U,show i+(l.length-(i+1))=l.length-1 by omega],Y,oM,af,oM,fun D u n=>?_⟩⟩;have ap:=(qyl.1 n).1;rw[xl,U]at ap;rw[Z,if_neg oM,W];simp only[ints,qym,sC]at n;by_cases a8:D<i
  .rw [if_neg oM];rw[if_pos a8]at n;exact M D u (by simpa[ints]using n)
  .rw [if_neg a8]at n;rw[if_pos ⟨oM,oM,oM⟩,E,show j+D-(j+i*1)=D-i by omega];simp only[ints,qym,qyi];rw[show i+1+(D-i)=D+1 by omega];exact n
 have aq:=qqh a6;have ar:=qqh a7;have au:Hid (s=w.drew.setCells g (j+i*1) q):=J;have aG:i<=p:=oM;have aH:i+1<=p:=oM;have av:(0:Int)<=(i:Int)+1:=oM;have aw:(i:Int)+1<=(l.length:Int):=oM;have aI:0<=(i:Int)+1/\(i:Int)+1<=(l.length:Int):=⟨av,aw⟩
 have aJ:((i:Int)==(i:Int)+1)=false:=by simp;omega
 clear X a6 a7 Z W Y H J M T F E V ag;go_enter func251,ntmps251
 go_wp2_with fail
 go_region_law (refine step_append_room rfl (.tmp 22) (.tmp 25) 77 rfl 3 ab 1 underlying77 ad ae g j i p (by simp[Act.eval,Act.put]) A (l.length-(i+1)) (p-(i+1)) q (by simp[Act.eval,Act.put]) ai.out ah.out aj.out oM ak.out ?_;rw[<-au.out])
 go_wp2
 go_ret
 exact⟨_,rfl,rfl,ar.o,aq.o⟩
theorem Su(n:Nat)(T:n<=4096)(w:World):
  Calls prog 462 #[.slice none 0 0,.int .i64 n] w fun e w'=>∃q,e=.returned q/\Sl w' 3 1 q 0 []/\From w.heap.size q/\Below w.heap.size w w':=by
 obtain⟨F,H,J,U,hz2⟩:=qYu vI;by_cases L:n=0
 .subst L;go_enter func462,ntmps462
  go_wp2
  go_ret
  exact⟨_,rfl,Sl.nil _ _ _,From.nil _ _ _,qxl _ _⟩
 .have M:(n:Int)<=9223372036854775807:=oM;have s:=Lib.run_append_nil_zeros (P:=prog) w 77 3 77 3 F (.int .i64 0) .i64 .i64 underlying77 underlying3 H J n oM oM M jm;have hge:=grownCap_ge w n 0 3;have j:=grownCap_le_maxLen w n 0 3 oh;generalize grownCap w n 0 3=p at s hge j;obtain⟨C,D⟩:=qqe (Builtin.zeroCells (Value.int .i64 0).cells n++Builtin.zeroCells (Value.int .i64 0).cells (p-n));have E:C.size=p:=by
   rw[D];simp[Builtin.zeroCells,Value.cells];omega
  rw[<-D]at s;have V:(0:Int)<(n:Int):=oM;have W:(p:Int)<=9223372036854775807:=by unfold maxLen at j;omega
  have O:=qqh E;have Q:=qqh j;clear D E j;go_enter func462,ntmps462
  go_wp2_with (at_builtin;refine Lib.wpList_append_run _ rfl _ _ _ _ rfl _ _ rfl rfl _ _ s ?_)
  go_wp2
  go_ret
  refine⟨_,rfl,⟨rfl,.inr ⟨w.heap.size,0,p,C,rfl,zc _ _ rfl,oM,Q.o,by rw[O.o];omega,oe⟩⟩,?_,?_⟩
  .intro g R;simp[Value.ownBlock]at R;omega
  .exact (qxl _ w).trans (Upd.below (((uur _ w).drew).alloc _))
theorem Vj{gs:Nat}{W X:Value}{fz:Nat×Nat}{j lb:List Int}(J:w.heap[gs]?=some (.cells #[W,X] 77 fz))
  (M:Rd w 1 W j.length (ints j)) (s:Rd w 1 X lb.length (ints lb)) (ai:j.length+lb.length<=4096):
  Calls prog 439 #[.slice (some ⟨gs,0,none⟩) 2 2] w fun e w'=>∃O,e=.returned O/\Sl w' 3 1 O (j.length+lb.length) (ints j++ints lb)/\From w.heap.size O/\Below w.heap.size w w':=by
 obtain⟨Y,Z,a6,a7,a8⟩:=qYu vI;have aj:=qqh M;have ak:=qqh s;have am:=qqh J;obtain⟨aq,ca,rfl⟩:=M.jW;obtain⟨ar,au,rfl⟩:=s.jW;have E:=za J 0;have F:=za J 1;simp at E F;have G:=Y2 E F;clear M s J E F;go_enter func439,ntmps439
 go_wp2
 go_loopg[3,11] 2 (fun g an i wr=>∃n:Nat,n+g=2/\i=.int .i64 n/\an=.int .i64 ((if n=0 then 0 else if n=1 then j.length else j.length+lb.length:Nat):Int)/\wr=w)
 case atStart=>exact⟨0,rfl,rfl,rfl,rfl⟩
 case round=>
  obtain⟨n,aa,rfl,rfl,rfl⟩:=hrel;obtain⟨E,F⟩:=G.out;rcases(by omega:n=0\/n=1\/n=2)with rfl|rfl|rfl
  .simp only[if_true];have ao:decide (((0:Nat):Int)+(j.length:Int)<0)=false:=by simp only[qYr];omega
   go_wp2
   go_roundg 1
   case measure=>omega
   case rel=>exact⟨1,rfl,rfl,oe,rfl⟩
  .have H:(if(1:Nat)=0 then 0 else if(1:Nat)=1 then j.length else j.length+lb.length)=j.length:=rfl;rw[H];clear H;have ao:decide ((j.length:Int)+(lb.length:Int)<0)=false:=by simp only[qYr];omega
   go_wp2
   go_roundg 0
   case measure=>omega
   case rel=>exact⟨2,rfl,rfl,oe,rfl⟩
  .have H:(if(2:Nat)=0 then 0 else if(2:Nat)=1 then j.length else j.length+lb.length)=j.length+lb.length:=rfl;rw[H];clear H;go_wp2_with fail
   refine(Su (j.length+lb.length) ai _).mono ?_;rintro e w1 ⟨av,rfl,ab,ad,ae⟩;have Q:=Y3 ab ad ae;clear ab ad ae;obtain⟨D,rfl⟩:∃D:World,D=wr:=⟨_,rfl⟩
   obtain⟨aw,ap⟩:∃x,x=gk:=⟨_,rfl⟩
   clear ap aa;go_wp2
   go_loopg[6,27] 2 (fun g v i wr=>∃n:Nat,n+g=2/\i=.int .i64 n/\∃L:List Int,L=(if n=0 then[]else if n=1 then j else j++lb)/\Sl wr 3 1 v L.length (ints L)/\From D.heap.size v/\Below D.heap.size D wr)
   case atStart=>exact⟨0,rfl,rfl,[],rfl,Q.out.1,Q.out.2.1,Q.out.2.2⟩
   case round=>
    obtain⟨n,aa,rfl,L,rfl,af,ag,s⟩:=hrel;have q:=Y3 af ag s;have ah:gs<D.heap.size:=zd am.o;have E:=(s.cell (p:=⟨gs,0,none⟩) ah).trans G.out.1;have F:=(s.cell (p:=⟨gs,1,none⟩) ah).trans G.out.2;clear af ag s;rcases(by omega:n=0\/n=1\/n=2)with rfl|rfl|rfl
    .have R:Hid (Sl wr 3 1 u6 ([]:List Int).length (ints [])):=q.out.1;go_wp2_with (at_builtin;refine zF rfl _ _ 77 rfl Y (.int .i64 0) 8 underlying77 Z a6 a7 a8 rfl de rfl R.o _ j.length (ints j) rfl (aj.o.below q.out.2.2) (uJ _) (by unfold maxLen;simp;omega) og ?_)
     intro v2 w2 T U V;go_wp2
     go_roundg 1
     case measure=>omega
     case rel=>exact⟨1,rfl,rfl,j,rfl,by simpa using T,V.ge q.out.2.2.size q.out.2.1,zj q.out.2.2 U (qXp _) q.out.2.1.own⟩
    .have R:Hid (Sl wr 3 1 u6 j.length (ints j)):=q.out.1;go_wp2_with (at_builtin;refine zF rfl _ _ 77 rfl Y (.int .i64 0) 8 underlying77 Z a6 a7 a8 rfl de rfl R.o _ lb.length (ints lb) rfl (ak.o.below q.out.2.2) (uJ _) oh oM ?_)
     intro v2 w2 T U V;go_wp2
     go_roundg 0
     case measure=>omega
     case rel=>exact⟨2,rfl,rfl,j++lb,rfl,by simpa using T,V.ge q.out.2.2.size q.out.2.1,zj q.out.2.2 U (qXp _) q.out.2.1.own⟩
    .go_wp2
     go_ret
     exact⟨_,rfl,by simpa using q.out.1,q.out.2.1,q.out.2.2⟩
structure CkGood(most few:Nat)(K:List Int)(A:Int->Bool)(G:List Int):Prop where
 kr:∀x∈K,InR x
 gr:∀x∈G,InR x
 kd:K.Nodup
 gd:G.Nodup
 dis:∀x∈K,x∉G
 ask:∀x,A x=true->x∈K
 kl:K.length<=most
 gl:G.length<=few
 ml:most<=1024
 fl:few<=1024
 m1:1<=most
structure CkMem(w:World)(b mb N:Nat)(vk vg:Value)(most few:Nat)(K:List Int)(A:Int->Bool)(G:List Int):Prop where
 str:w.heap[b]?=some (.cells #[.int .i64 most,.int .i64 few,vk,.map (some mb),vg] 298 (0,0))
 ks:Sl w 3 1 vk K.length (ints K)
 gs:Sl w 3 1 vg G.length (ints G)
 set:SetAt w mb N A
 kb:vk.ownBlock≠some b
 gb:vg.ownBlock≠some b
 km:vk.ownBlock≠some mb
 gm:vg.ownBlock≠some mb
 bm:mb≠b
 kg:Dis vk vg
structure CkAt(w:World)(b mb N:Nat)(vk vg:Value)(most few:Nat)(K:List Int)(A:Int->Bool)(G:List Int):Prop extends CkMem w b mb N vk vg most few K A G where
 good:CkGood most few K A G
def Sv(b mb:Nat)(vk vg:Value):Nat->Prop:=fun j=>j=b\/j=mb\/vk.ownBlock=some j\/vg.ownBlock=some j
section
variable{w w':World}{b mb N most few:Nat}{vk vg:Value}{K G:List Int}{A:Int->Bool}
theorem CkMem.keep(h:CkMem w b mb N vk vg most few K A G)(j:Upd S w w')(n:∀q,Sv b mb vk vg q->¬S q):CkMem w' b mb N vk vg most few K A G:=
 {h with
  str:=(j.block _ (zd h.str) (n b (.inl rfl))).trans h.str
  ks:=h.ks.keep j (fun g p=>n g (.inr (.inr (.inl p))))
  gs:=h.gs.keep j (fun g p=>n g (.inr (.inr (.inr p))))
  set:=SetAt.keep h.set j (n mb (.inr (.inl rfl)))}
theorem CkMem.below(h:CkMem w b mb N vk vg most few K A G)(j:Below w.heap.size w w'):CkMem w' b mb N vk vg most few K A G:=
 h.keep (uuo (S:=fun _=>False) j) (fun _ _ h=>h)
theorem CkAt.keep(h:CkAt w b mb N vk vg most few K A G)(j:Upd S w w')(n:∀q,Sv b mb vk vg q->¬S q):CkAt w' b mb N vk vg most few K A G:=
 {h with
  str:=(j.block _ (zd h.str) (n b (.inl rfl))).trans h.str
  ks:=h.ks.keep j (fun g p=>n g (.inr (.inr (.inl p))))
  gs:=h.gs.keep j (fun g p=>n g (.inr (.inr (.inr p))))
  set:=SetAt.keep h.set j (n mb (.inr (.inl rfl)))}
theorem CkAt.below(h:CkAt w b mb N vk vg most few K A G)(j:Below w.heap.size w w'):CkAt w' b mb N vk vg most few K A G:=
 h.keep (uuo (S:=fun _=>False) j) (fun _ _ h=>h)
theorem CkAt.mono(h:CkAt w b mb N vk vg most few K A G)(j:N<=N'):CkAt w b mb N' vk vg most few K A G:={h with set:=h.set.mono j}
theorem CkAt.blt(h:CkAt w b mb N vk vg most few K A G):b<w.heap.size:=zd h.str
theorem CkAt.slt(h:CkAt w b mb N vk vg most few K A G):∀j,Sv b mb vk vg j->j<w.heap.size:=by
 rintro j (rfl|rfl|n|n)
 .exact h.blt
 .exact h.set.lt
 .exact h.ks.lt n
 .exact h.gs.lt n
theorem CkAt.kle(h:CkAt w b mb N vk vg most few K A G):K.length<=1024:=qXr h.good.kl h.good.ml
theorem CkAt.gle(h:CkAt w b mb N vk vg most few K A G):G.length<=1024:=qXr h.good.gl h.good.fl
end
theorem CkGood.start{f:Nat}(h1:1<=m)(h2:m<=1024)(j:f<=1024):CkGood m f [] (fun _=>false) []:=
 {kr:=oe,gr:=oe,kd:=oe,gd:=oe,dis:=oe,ask:=oe,kl:=oe,gl:=oe,ml:=h2,fl:=j,m1:=h1}
theorem ZS(p:k∈l):∃i:Nat,∃n:i<l.length,idxI l k=i/\l[i]=k/\∀h (E:h<l.length),h<i->l[h]≠k:=by
 unfold idxI;cases j:l.findIdx? (·==k)with
 |none=>
  rw[List.findIdx?_eq_none_iff]at j;have:=j k p;simp at this
 |some i=>
  rw[List.findIdx?_eq_some_iff_getElem]at j;obtain⟨n,q,s⟩:=j;exact⟨i,n,rfl,by simpa using q,fun h _ D=>by simpa using s h D⟩
theorem uK(h:k∉l):idxI l k= -1:=sP (fun _ j e=>h (e▸qyu j))
theorem AZ(m f:Nat)(w:World)(h1:1<=m)(h2:m<=1024)(n:f<=1024):
  Calls prog 111 #[.int .i64 m,.int .i64 f] w fun e w'=>∃b mb,e=.returned (.tuple #[.pointer (some ⟨b,0,none⟩),.int .i64 0])/\
   CkAt w' b mb 0 (.slice none 0 0) (.slice none 0 0) m f [] (fun _=>false) []/\w.heap.size<=b/\w.heap.size<=mb/\Below w.heap.size w w':=by
 have s:= @run_makeMap prog;have q1:¬((m:Int)<1):=oM;have q2:¬((1024:Int)<m):=oM;have D:¬((f:Int)<0):=oM;have E:¬((1024:Int)<f):=oM;have j:=Y3 h1 h2 n;clear h1 h2 n;go_enter func111,ntmps111
 go_wp2
 go_ret2
 have p:=Upd.alloc (uur (fun _=>False) w) (.map #[] 0);have q:(w.alloc (.map #[] 0)).heap.size=w.heap.size+1:=oe;refine⟨w.heap.size+1,rfl,w.heap.size,⟨⟨zc _ _ q.symm,Sl.nil _ _ _,Sl.nil _ _ _,(SetAt.made w).keep (Upd.alloc (uur (fun _=>False) _) _) id,by simp[Value.ownBlock],by simp[Value.ownBlock],by simp[Value.ownBlock],by simp[Value.ownBlock],oM,Dis.nil _ _ _⟩,CkGood.start j.o.1 j.o.2.1 j.o.2.2⟩,oM,qXp _,(p.alloc _).below⟩
def touchC(K:List Int)(k:Int):Int:=if k∈K then 0 else 14
theorem CkGood.touch(h:CkGood most few K A G)(j:k∈K):CkGood most few K (updB A k true) G:=by
 have n:∀x,updB A k true x=true->x∈K:=by
  intro x hx;by_cases e:x=k
  .exact e▸j
  .simp only[updB,if_neg e]at hx;exact h.ask x hx
 exact{h with ask:=n}
theorem Vk{vk vg:Value}(h:CkAt w b mb N vk vg most few K A G)(k:Int)(R:N<maxLen):
  Calls prog 391 #[.pointer (some ⟨b,0,none⟩),.int .i64 k] w fun e w'=>e=.returned (.int .i64 (touchC K k))/\
   CkAt w' b mb (N+1) vk vg most few K (if k∈K then updB A k true else A) G/\Upd (fun T=>T=mb) w w':=by
 have E:=qqh h;have H:=qqh h.ks.rd;have Y:=h.kle;have U:=za h.str 2;have J:=za h.str 3;simp at U J;have V:=h.blt;by_cases n:k∈K
 .obtain ⟨i,Z,F,_⟩:=ZS n;obtain⟨W,c,rfl⟩:=h.ks.rd.jW;have s:touchC K k=0:=if_pos n;rw[s,if_pos n];have L:=qqh n;clear h s n;have a6:decide ((i:Int)<0)=false:=by simp only[qYr];omega
  go_enter func391,ntmps391
  go_wp2_with fail
  refine(xo H.o oM k).mono ?_;rintro e w1 ⟨rfl,q⟩;rw[F];have j:=qqh (E.o.below q);have a7:=(q.cell (p:=⟨b,3,none⟩) V).trans J;obtain⟨w2,a8,M,O,Q⟩:=SetAt.store j.o.set (x:=k) (E.o.good.kr k L.o) R;have D:=Y3 M O Q;have X:=qqh q;clear M O Q q;go_wp2
  go_ret
  refine⟨rfl,?_,(uuo X.out).trans (D.out.2.1)⟩;exact{j.o with
   str:=(D.out.2.1.block b j.o.blt j.o.bm.symm).trans j.o.str
   ks:=j.o.ks.keep D.out.2.1 (fun g hg e=>j.o.km jT)
   gs:=j.o.gs.keep D.out.2.1 (fun g hg e=>j.o.gm jT)
   set:=D.out.1
   good:=j.o.good.touch L.o}
 .have F:=uK n;obtain⟨W,c,rfl⟩:=h.ks.rd.jW;have s:touchC K k=14:=if_neg n;rw[s,if_neg n];clear h s n;go_enter func391,ntmps391
  go_wp2_with fail
  refine(xo H.o oM k).mono ?_;rintro e w1 ⟨rfl,q⟩;rw[F];go_wp2
  go_ret
  exact⟨rfl,(E.o.below q).mono oM,uuo q⟩
section
variable{w w' w2:World}{b mb N most few:Nat}{vk vg v2:Value}{K G K' G':List Int}{A A':Int->Bool}
theorem CkMem.c(h:CkMem w b mb N vk vg most few K A G):w.cell? ⟨b,0,none⟩=some (.int .i64 most)/\w.cell? ⟨b,1,none⟩=some (.int .i64 few)/\w.cell? ⟨b,2,none⟩=some vk/\
  w.cell? ⟨b,3,none⟩=some (.map (some mb))/\w.cell? ⟨b,4,none⟩=some vg:=by
 refine⟨?_,?_,?_,?_,?_⟩<;>rw[za h.str]<;>rfl
theorem CkMem.fz(h:CkMem w b mb N vk vg most few K A G)(i:Nat):w.frozen? ⟨b,i,none⟩=false:=zg h.str i
theorem uL{v':Value}{x:Nat}(h:blockFrom w v v')(j:v.ownBlock≠some x)(hx:x<w.heap.size):v'.ownBlock≠some x:=by
 intro e;rcases h with h|⟨g,h,n⟩
 .exact j (by rw[<-h,e])
 .rw [h]at e;cases e;omega
theorem CkMem.setKeys(h:CkMem w b mb N vk vg most few K A G)(j:Upd (ownS vk) w w2)(h2:Sl w2 3 1 v2 K'.length (ints K'))(n:blockFrom w vk v2):
  CkMem (w2.setCell ⟨b,2,none⟩ v2) b mb N v2 vg most few K' A G:=by
 have p:v2.ownBlock≠some b:=uL n h.kb (zd h.str);have q:v2.ownBlock≠some mb:=uL n h.km h.set.lt;have s:w2.heap[b]?=_:=(j.block b (zd h.str) (fun e=>h.kb e)).trans h.str;exact{
  str:=zh s 2 v2
  ks:=h2.kA (zi _ _ _ _) p
  gs:=(h.gs.kB h.kg.symm j).kA (zi _ _ _ _) h.gb
  set:=(h.set.keep j (fun e=>h.km e)).keep (zi _ _ _ _) h.bm
  kb:=p
  gb:=h.gb
  km:=q
  gm:=h.gm
  bm:=h.bm
  kg:=h.kg.from n (fun g D=>h.gs.lt D)}
theorem CkMem.updKeys(_:CkMem w b mb N vk vg most few K A G)(j:Upd (ownS vk) w w2):Upd (Sv b mb vk vg) w (w2.setCell ⟨b,2,none⟩ v2):=
 (j.mono (fun _k _ h=> .inr (.inr (.inl h)))).trans (Upd.mono (zi _ _ _ _) (fun _k _ h=> .inl h))
theorem CkMem.setGhosts(h:CkMem w b mb N vk vg most few K A G)(j:Upd (ownS vg) w w2)(h2:Sl w2 3 1 v2 G'.length (ints G'))(n:blockFrom w vg v2):
  CkMem (w2.setCell ⟨b,4,none⟩ v2) b mb N vk v2 most few K A G':=by
 have p:v2.ownBlock≠some b:=uL n h.gb (zd h.str);have q:v2.ownBlock≠some mb:=uL n h.gm h.set.lt;have s:w2.heap[b]?=_:=(j.block b (zd h.str) (fun e=>h.gb e)).trans h.str;exact{
  str:=zh s 4 v2
  ks:=(h.ks.kB h.kg j).kA (zi _ _ _ _) h.kb
  gs:=h2.kA (zi _ _ _ _) p
  set:=(h.set.keep j (fun e=>h.gm e)).keep (zi _ _ _ _) h.bm
  kb:=h.kb
  gb:=p
  km:=h.km
  gm:=q
  bm:=h.bm
  kg:=(h.kg.symm.from n (fun g D=>h.ks.lt D)).symm}
theorem CkMem.updGhosts(_:CkMem w b mb N vk vg most few K A G)(j:Upd (ownS vg) w w2):Upd (Sv b mb vk vg) w (w2.setCell ⟨b,4,none⟩ v2):=
 (j.mono (fun _k _ h=> .inr (.inr (.inr h)))).trans (Upd.mono (zi _ _ _ _) (fun _k _ h=> .inl h))
theorem CkMem.setAsked(h:CkMem w b mb N vk vg most few K A G)(j:Upd (fun n=>n=mb) w w2)(h2:SetAt w2 mb N' A'):CkMem w2 b mb N' vk vg most few K A' G:=
 {h with
  str:=(j.block b (zd h.str) h.bm.symm).trans h.str
  ks:=h.ks.keep j (fun g hg e=>h.km jT)
  gs:=h.gs.keep j (fun g hg e=>h.gm jT)
  set:=h2}
end
def Ck(S:Nat->Prop)(w:World)(b N most few:Nat)(K:List Int)(A:Int->Bool)(G:List Int):Prop:=
 ∃mb vk vg,CkAt w b mb N vk vg most few K A G/\∀j,Sv b mb vk vg j->S j
section
variable{S:Nat->Prop}{w w' w2:World}{b N most few:Nat}{K G:List Int}{A:Int->Bool}
theorem Ck.keep(j:Ck S w b N most few K A G){T:Nat->Prop}(p:Upd T w w')(q:∀h,S h->¬T h):Ck S w' b N most few K A G:=by
 obtain⟨mb,vk,vg,j,n⟩:=j;exact⟨mb,vk,vg,j.keep p (fun h s=>q h (n h s)),n⟩
theorem Ck.new(h:Ck S w b N most few K A G)(j:Upd (fun _=>False) w w'):Ck S w' b N most few K A G:=h.keep j (fun _ _ h=>h)
theorem Ck.below(h:Ck S w b N most few K A G)(j:Below w.heap.size w w'):Ck S w' b N most few K A G:=h.new (uuo j)
theorem Ck.mono(h:Ck S w b N most few K A G)(j:N<=N'):Ck S w b N' most few K A G:=by
 obtain⟨mb,vk,vg,h,n⟩:=h;exact⟨mb,vk,vg,h.mono j,n⟩
theorem Ck.out(j:Ck S w b N most few K A G){S':Nat->Prop}(p:∀h,h<w.heap.size->S h->S' h):Ck S' w b N most few K A G:=by
 obtain⟨mb,vk,vg,j,q⟩:=j;exact⟨mb,vk,vg,j,fun h n=>p h (j.slt h n) (q h n)⟩
end
theorem tX{i:Nat}(hi:i<l.length)(n:l[i]=k)(p:∀j (h:j<l.length),j<i->l[j]≠k):l.eraseIdx i=l.erase k:=by
 induction l generalizing i with
 |nil=>simp at hi
 |cons x l q=>
  cases i with
  |zero=>
   have s:x=k:=n;subst s;simp
  |succ i=>
   have hx:x≠k:=p 0 oe oM;rw[List.eraseIdx_cons_succ,List.erase_cons_tail (by simpa using hx),q oB (by simpa using n) (fun j hj D=>p (j+1) oz oM)]
def addC(most:Nat)(K:List Int)(k:Int):Int:=if k∈K then 15 else if K.length=most then 17 else 0
def sD(most:Nat)(K:List Int)(k:Int):List Int:=if k∈K\/K.length=most then K else K++[k]
def agA(A:Int->Bool)(G:List Int)(k:Int):Int->Bool:=if k∈G then updB A k true else A
def Qd(most:Nat)(K:List Int)(A:Int->Bool)(G:List Int)(k:Int):Int->Bool:=if k∈K\/K.length=most then A else agA A G k
def Qe(most:Nat)(K:List Int)(G:List Int)(k:Int):List Int:=if k∈K\/K.length=most then G else G.erase k
section
variable{most few:Nat}{K G:List Int}{A:Int->Bool}
theorem CkGood.push(h:CkGood most few K A G)(j:k∉K)(q:K.length≠most)(n:k∉G)(p:InR k):CkGood most few (K++[k]) A G:={
 kr:=by intro x hx;rcases qzl.1 hx with h1|h1;exact h.kr x h1;simp at h1;exact h1▸p
 gr:=h.gr
 kd:=by rw[qzv];exact⟨h.kd,oe,by intro x hx y hy e;simp at hy;subst hy;exact j (e▸hx)⟩
 gd:=h.gd
 dis:=by intro x hx;rcases qzl.1 hx with h1|h1;exact h.dis x h1;simp at h1;exact h1▸n
 ask:=fun x hx=>qzl.2 (.inl (h.ask x hx))
 kl:=by have:=h.kl;simp;omega
 gl:=h.gl
 ml:=h.ml
 fl:=h.fl
 m1:=h.m1}
theorem CkGood.drop(h:CkGood most few K A G)(k:Int):CkGood most few (K.erase k) (updB A k false) G:={
 kr:=fun x hx=>h.kr x (qzr hx)
 gr:=h.gr
 kd:=h.kd.erase k
 gd:=h.gd
 dis:=fun x hx=>h.dis x (qzr hx)
 ask:=fun x hx=>by
  by_cases e:x=k
  .subst e;simp[updB]at hx
  .simp only[updB,if_neg e]at hx;exact(List.mem_erase_of_ne e).2 (h.ask x hx)
 kl:=qXr (List.length_erase_le) h.kl
 gl:=h.gl
 ml:=h.ml
 fl:=h.fl
 m1:=h.m1}
theorem CkGood.erase(h:CkGood most few K A G)(k:Int):CkGood most few K A (G.erase k):={h with
 gr:=fun x hx=>h.gr x (qzr hx)
 gd:=h.gd.erase k
 dis:=fun x hx j=>h.dis x hx (qzr j)
 gl:=qXr (List.length_erase_le) h.gl}
end
theorem zaa(h:Ck S w b N most few K A G)(k:Int)(s:k∈K\/K.length=most):
  Calls prog 189 #[.pointer (some ⟨b,0,none⟩),.int .i64 k] w fun e w'=>e=.returned (.int .i64 (addC most K k))/\Below w.heap.size w w':=by
 obtain⟨mb,vk,vg,h,-⟩:=h;have E:=qqh h.ks.rd;have M:=h.kle;have F:=h.blt;obtain⟨H,-,L,-,-⟩:=h.c;obtain⟨O,c,rfl⟩:=h.ks.rd.jW;clear h;by_cases j:k∈K
 .obtain ⟨i,Q,D,_⟩:=ZS j;have n:addC most K k=15:=if_pos j;rw[n];clear n s j H;go_enter func189,ntmps189
  go_wp2_with fail
  refine(xo E.o oM k).mono ?_;rintro e w1 ⟨rfl,q⟩;rw[D];go_wp2
  go_ret
  exact⟨rfl,q⟩
 .have J:K.length=most:=s.resolve_left j;have D:=uK j;have n:addC most K k=17:=by unfold addC;rw[if_neg j,if_pos J]
  rw[n];have R:((K.length:Int)==(most:Int))=true:=by simp;omega
  clear n s j J;go_enter func189,ntmps189
  go_wp2_with fail
  refine(xo E.o oM k).mono ?_;rintro e w1 ⟨rfl,q⟩;rw[D];have T:=(q.cell (p:=⟨b,0,none⟩) F).trans H;have U:=(q.cell (p:=⟨b,2,none⟩) F).trans L;go_wp2
  go_quiet(fail)
  go_wp2
  go_ret
  exact⟨rfl,zN q _⟩
theorem Sw(h:Ck S w b N most few K A G)(am:∀j,w.heap.size<=j->S j)(k:Int)(X:InR k)(aL:N<maxLen)(Y:k∉K)(an:K.length≠most):
  Calls prog 189 #[.pointer (some ⟨b,0,none⟩),.int .i64 k] w fun e w'=>e=.returned (.int .i64 0)/\
   Ck S w' b (N+1) most few (K++[k]) (agA A G k) (G.erase k)/\Upd S w w':=by
 obtain⟨aM,aN,aO,ao,aP⟩:=qYu vI;obtain⟨mb,vk,vg,h,ap⟩:=h;have aQ:=qqh am;have J:=qqh ap;have aq:=qqh h.ks.rd;have b3:=h.kle;have b4:=h.gle;have aR:=uK Y;have ar:=qqh h;have R:=Y2 Y an;obtain⟨Z,-,L,-,-⟩:=h.c;have b5:((K.length:Int)==(most:Int))=false:=by simp;omega
 clear h Y am ap an;go_enter func189,ntmps189
 go_wp2_with fail
 refine(xo aq.o oM k).mono ?_;rintro e w1 ⟨rfl,a6⟩;rw[aR];have M:=ar.o.below a6;have aS:=qqh (uuo (S:=S) a6);clear Z L aq;obtain⟨Z,-,L,-,-⟩:=M.c;obtain⟨b6,c,a7⟩:=M.ks.rd.jW;have b7:=qqh a7;rw[a7]at L;have M:=qqh M;clear a7 a6 ar;go_wp2
 go_quiet(fail)
 generalize au:w1.drewN nq=w2;have a8:Upd (fun _=>False) w1 w2:=by rw[<-au];exact(uur _ _).drewN nq
 have n:=M.o.keep a8 (fun _ _ h=>h);have av:=qqh (aS.o.trans (a8.mono fE));clear au a8 Z L;obtain⟨-,-,L,-,-⟩:=n.c;have n:=qqh n;go_wp2_with (at_builtin;refine zK rfl _ _ 77 rfl aM (.int .i64 0) 8 underlying77 aN aO ao aP rfl de rfl n.o.ks [.int .i64 k] rfl rfl (by intro u aw;simp at aw;subst aw;rfl) oh oM ?_)
 intro v3 ax aa T ay;obtain⟨E,F,rfl⟩:=aa.rd.jW;have aT:Hid (∀(p:k∉G),CkGood most few (K++[k]) A G):=fun p=>n.o.good.push R.o.1 R.o.2 p X;have az:Sl ax 3 1 (.slice E (K.length+1) F) (K++[k]).length (ints (K++[k])):=by simpa using aa
 have O:=(T.block b n.o.blt (fun e=>n.o.kb e)).trans n.o.str;have c2:=za O 2;have H:=za O 4;have aU:=zg O 2;simp at c2 H;have aA:=qqh (n.o.gs.kB n.o.kg.symm T);have aB:=qqh ((aA.o.kA (zi ax b 2 (.slice E (K.length+1) F)) n.o.gb).rd);have Q:=Y4 az T ay O;clear aa az T ay O;go_wp2_with fail
 refine(xo aB.o oM k).mono ?_;rintro e ab ⟨rfl,U⟩;have b8:=qqh U;have ad:Hid (Upd S w ab):=(av.o.trans ((CkMem.updKeys (v2:=.slice E (K.length+1) F) n.o.toCkMem Q.out.2.1).mono (fun j _ q=>J.o j q))).trans (uuo U);have aC:CkMem ab b mb N (.slice E (K.length+1) F) vg most few (K++[k]) A G:=(n.o.toCkMem.setKeys Q.out.2.1 Q.out.1 Q.out.2.2.1).below U;have ao:w.heap.size<=ab.heap.size:=ad.o.size;have D:Hid (∀j,Sv b mb (.slice E (K.length+1) F) vg j->S j):=by
  intro j q;rcases q with h1|h1|h1|h1
  .exact J.o j (.inl h1)
  .exact J.o j (.inr (.inl h1))
  .rcases Q.out.2.2.1 with h2|⟨g,h2,aV⟩
   .exact J.o j (.inr (.inr (.inl (by rw[<-h2];exact h1))))
   .rw [h2]at h1;cases h1;exact aQ.o _ (qXr av.o.size aV)
  .exact J.o j (.inr (.inr (.inr h1)))
 have s:=qqh aC;clear U c2 H aU aA aB aC;by_cases p:k∈G
 .obtain ⟨i,aD,aE,aF,aG⟩:=ZS p;rw[aE];have aH:Hid (G.eraseIdx i=G.erase k):=tX aD aF aG;have H:=za s.o.str 4;simp at H;have aI:=qqh p;clear aE aF aG p;go_wp2_with fail
  refine(ZR s.o.gs oM aD).mono ?_;rintro e b9 ⟨v5,rfl,ae,af,V⟩;obtain⟨ag,ah,rfl⟩:=af.rd.jW;have ai:=s.o.setGhosts V af (.inl ae);have aJ:=s.o.updGhosts (v2:=.slice ag (G.eraseIdx i).length ah) V;have W:=(V.block b (zd s.o.str) (fun e=>s.o.gb e)).trans s.o.str;have H:=za W 4;have aW:=za W 3;have ba:=zg W 4;simp at H aW;obtain⟨aX,bb,aK,aj,aY⟩:=SetAt.store ai.set (x:=k) X aL;have aZ:=qqh (ai.setAsked aj aK);have b0:Hid (Upd S w aX):=(ad.o.trans (aJ.mono (fun j _ q=>D.out j q))).trans (aj.mono (fun j _ q=>by subst q;exact D.out _ (.inr (.inl rfl))));have b1:Hid ((Value.slice ag (G.eraseIdx i).length ah).ownBlock=vg.ownBlock):=ae;clear ai aJ W aK aj aY af V ae;go_wp2
  go_ret
  have b2:CkGood most few (K++[k]) (agA A G k) (G.erase k):=by
   have h1:=(n.o.good.erase k).push R.o.1 R.o.2 (fun e=>absurd e n.o.good.gd.not_mem_erase) X;unfold agA;rw[if_pos aI.o];exact h1.touch oe
  refine⟨rfl,⟨mb,.slice E (K.length+1) F,.slice ag (G.erase k).length ah,⟨?_,b2⟩,?_⟩,b0.o⟩
  .have:=aZ.o;rw[aH.o]at this;unfold agA;rw[if_pos aI.o];exact this
  .intro j q;rcases q with h1|h1|h1|h1
   .exact D.out j (.inl h1)
   .exact D.out j (.inr (.inl h1))
   .exact D.out j (.inr (.inr (.inl h1)))
   .exact D.out j (.inr (.inr (.inr (by rw[<-b1.o,aH.o];exact h1))))
 .rw [uK p];have ak:Hid (agA A G k=A/\G.erase k=G/\CkGood most few (K++[k]) A G):=⟨if_neg p,List.erase_of_not_mem p,aT.out p⟩
  clear p;go_wp2
  go_ret
  rw[ak.o.1,ak.o.2.1];exact⟨rfl,⟨mb,_,vg,CkAt.mono ⟨s.o,ak.o.2.2⟩ oM,D.out⟩,ad.o⟩
theorem Sx(h:Ck S w b N most few K A G)(q:∀n,w.heap.size<=n->S n)(k:Int)(s:InR k)(D:N<maxLen):
  Calls prog 189 #[.pointer (some ⟨b,0,none⟩),.int .i64 k] w fun e w'=>e=.returned (.int .i64 (addC most K k))/\
   Ck S w' b (N+1) most few (sD most K k) (Qd most K A G k) (Qe most K G k)/\Upd S w w':=by
 by_cases j:k∈K\/K.length=most
 .refine (zaa h k j).mono ?_;rintro e w' ⟨rfl,p⟩;unfold sD Qd Qe;rw[if_pos j,if_pos j,if_pos j];exact⟨rfl,(h.below p).mono oM,uuo p⟩
 .have h1:k∉K:=fun e=>j (.inl e);have h2:K.length≠most:=fun e=>j (.inr e);refine(Sw h q k s D h1 h2).mono ?_;rintro e w' ⟨rfl,E,F⟩;unfold addC sD Qd Qe;rw[if_neg j,if_neg j,if_neg j,if_neg h1,if_neg h2];exact⟨rfl,E,F⟩
def dropA(K:List Int)(A:Int->Bool)(k:Int):Int->Bool:=if k∈K then updB A k false else A
theorem Qf(h:Ck S w b N most few K A G)(k:Int):
  Calls prog 349 #[.pointer (some ⟨b,0,none⟩),.int .i64 k] w fun e w'=>e=.returned (.int .i64 (touchC K k))/\
   Ck S w' b N most few (K.erase k) (dropA K A k) G/\Upd S w w':=by
 obtain⟨mb,vk,vg,h,W⟩:=h;have X:=qqh h;have q:=qqh W;have Y:=qqh h.ks.rd;have aq:=h.kle;obtain⟨-,-,Z,a6,-⟩:=h.c;have ag:=h.blt;clear h W;by_cases j:k∈K
 .obtain ⟨i,a7,M,a8,aa⟩:=ZS j;have E:touchC K k=0:=if_pos j;have F:dropA K A k=updB A k false:=if_pos j;rw[E,F];have ah:=qqh j;have ab:Hid (K.eraseIdx i=K.erase k):=tX a7 a8 aa;clear E F j a8 aa;have ar:decide ((i:Int)<0)=false:=by simp only[qYr];omega
  go_enter func349,ntmps349
  go_wp2_with fail
  refine(xo Y.o oM k).mono ?_;rintro e w1 ⟨rfl,s⟩;rw[M];have n:=qqh (X.o.below s);have au:=(s.cell (p:=⟨b,2,none⟩) ag).trans Z;have ai:=qqh s;clear s Z a6;go_wp2_with fail
  refine(ZR n.o.ks oM a7).mono ?_;rintro e w2 ⟨v2,rfl,O,Q,J⟩;obtain⟨R,T,rfl⟩:=Q.rd.jW;have U:=n.o.toCkMem.setKeys J Q (.inl O);have ad:=n.o.toCkMem.updKeys (v2:=.slice R (K.eraseIdx i).length T) J;have L:=(J.block b n.o.blt (fun e=>n.o.kb e)).trans n.o.str;have c2:=za L 2;have aj:=za L 3;have av:=zg L 2;simp at c2 aj;obtain⟨ak,aw,ae,V,am⟩:=SetAt.drop U.set (x:=k) (n.o.good.kr k ah.o) 0;have an:=qqh (U.setAsked V ae);have ao:Hid (Upd S w ak):=((uuo ai.out).trans (ad.mono (fun D _ H=>q.o D H))).trans (V.mono (fun D _ H=>by subst H;exact q.o _ (.inr (.inl rfl))));have ap:Hid ((Value.slice R (K.eraseIdx i).length T).ownBlock=vk.ownBlock):=O;clear U ad L ae V am Q J O;go_wp2
  go_ret
  refine⟨rfl,⟨mb,.slice R (K.erase k).length T,vg,⟨?_,n.o.good.drop k⟩,?_⟩,ao.o⟩
  .have:=an.o;rw[ab.o]at this;exact this
  .intro D H;rcases H with h1|h1|h1|h1
   .exact q.o D (.inl h1)
   .exact q.o D (.inr (.inl h1))
   .exact q.o D (.inr (.inr (.inl (by rw[<-ap.o,ab.o];exact h1))))
   .exact q.o D (.inr (.inr (.inr h1)))
 .have M:=uK j;have E:touchC K k=14:=if_neg j;have F:dropA K A k=A:=if_neg j;have af:K.erase k=K:=List.erase_of_not_mem j;rw[E,F,af];clear E F af j a6;go_enter func349,ntmps349
  go_wp2_with fail
  refine(xo Y.o oM k).mono ?_;rintro e w1 ⟨rfl,s⟩;rw[M];go_wp2
  go_ret
  exact⟨rfl,⟨mb,vk,vg,X.o.below s,q.o⟩,uuo s⟩
theorem Qg(h:Ck S w b N most few K A G)(k:Int)(n:N<maxLen):
  Calls prog 391 #[.pointer (some ⟨b,0,none⟩),.int .i64 k] w fun e w'=>e=.returned (.int .i64 (touchC K k))/\
   Ck S w' b (N+1) most few K (agA A K k) G/\Upd S w w':=by
 obtain⟨mb,vk,vg,h,j⟩:=h;refine(Vk h k n).mono ?_;rintro e w' ⟨rfl,p,q⟩;exact⟨rfl,⟨mb,vk,vg,p,j⟩,q.mono (fun D _ s=>by subst s;exact j _ (.inr (.inl rfl)))⟩
theorem zab(m f:Nat)(w:World)(h1:1<=m)(h2:m<=1024)(q:f<=1024)(n:∀h,w.heap.size<=h->S h):
  Calls prog 111 #[.int .i64 m,.int .i64 f] w fun e w'=>∃b,e=.returned (.tuple #[.pointer (some ⟨b,0,none⟩),.int .i64 0])/\
   Ck S w' b 0 m f [] (fun _=>false) []/\w.heap.size<=b/\Below w.heap.size w w':=by
 refine(AZ m f w h1 h2 q).mono ?_;rintro e w' ⟨b,mb,rfl,s,p,D,E⟩;refine⟨b,rfl,⟨mb,_,_,s,?_⟩,p,E⟩;rintro h (rfl|rfl|j|j)
 .exact n _ p
 .exact n _ D
 .cases j
 .cases j
open Go Go.RowKit Go.Shelf Tryz
attribute [local go_sem] qYb
abbrev It9:=Nat×(Int×Bool)
abbrev zcD(x:It9):Array Value:= #[.int .i64 (x.1:Int),zP x.2.1 x.2.2]
def sX(qs:List (Int×Bool))(fr k:Nat):List It9:=if qs[k]?.getD (-1,false)=(-1,false)then[]else[(fr+k,qs[k]?.getD (-1,false))]
def visTo(qs:List (Int×Bool))(fr:Nat):Nat->List It9
 |0=>[]
 |k+1=>visTo qs fr k++sX qs fr k
abbrev vis(qs:List (Int×Bool))(fr:Nat):List It9:=visTo qs fr qs.length
theorem vJ{h:List (Int×Bool)}{fr k:Nat}(j:k<h.length)(n:h[k]≠(-1,false)):visTo h fr (k+1)=visTo h fr k++[(fr+k,h[k])]:=by
 have e:h[k]?.getD (-1,false)=h[k]:=by simp[j]
 simp[visTo,sX,j,n]
theorem wG{h:List (Int×Bool)}{fr k:Nat}(j:k<h.length)(n:h[k]=(-1,false)):visTo h fr (k+1)=visTo h fr k:=by
 simp[visTo,sX,j,n]
theorem Qh(h:List (Int×Bool))(fr k:Nat):(sX h fr k).length<=1:=by unfold sX;split<;>simp
theorem sY(h:List (Int×Bool))(fr k:Nat):(visTo h fr k).length<=k:=by
 induction k with
 |zero=>simp[visTo]
 |succ k j=>have:=Qh h fr k;simp only[visTo,qyy];omega
theorem uM(j:List (Int×Bool))(fr:Nat){k:Nat}(h:k<=m):visTo j fr k<+:visTo j fr m:=by
 induction m with
 |zero=>
  obtain rfl:k=0:=oM;exact List.prefix_rfl
 |succ m n=>
  by_cases p:k=m+1
  .subst p;exact List.prefix_rfl
  .exact (n oM).trans (List.prefix_append _ _)
theorem ri{β:Type}{B:Nat}{j:β->World->Prop}(p:AbidesFrom B j){s:β}{W n:World}(q:j s W)(h:Upd (fun _=>False) W n):j s n:=
 p s W n none q ⟨h.os,h.tape,h.output,h.size,fun k D _=>h.block k D id⟩ (fun r e=>by cases e)
end
end Go.Proofs.YtbnpkobbnjihjaaGreatDoor
