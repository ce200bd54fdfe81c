/- The index: Put -/
import Derived.Test.YtpejdgiccaijfaaGreatDoorG07
import Derived.BigRegionIn
import Derived.Shelf.RegionOpen
import Derived.Maps.OwnIn
import Derived.Deep.RegionHeld
set_option maxRecDepth 100000
set_option maxHeartbeats 2000000
namespace Go.Proofs.YtpejdgiccaijfaaGreatDoor
open Go Tryz
variable{w W W':World}{ps:List (Int×Bool)}{v:Value}{b N slots mb n g B k:Nat}{row:Option Nat}
section
open Go.RowKit
def putC(ps:List (Int×Bool))(slots:Nat)(k s:Int):Int:=
 if k<0\/(ps.length:Int)<=k\/s<0\/(slots:Int)<=s then 10 else if atOf ps s=none\/atOf ps s=some k.toNat then 0 else 15
def xy(ps:List (Int×Bool))(slots:Nat)(k s:Int)(d:Bool):List (Int×Bool):=if putC ps slots k s=0 then ps.set k.toNat (s,d)else ps
def ti(ps:List (Int×Bool))(slots:Nat)(k s:Int):Int×Bool:=if putC ps slots k s=0 then ps.getD k.toNat (-1,false)else(0,false)
theorem Upd.undrew{S:Nat->Prop}{w':World}(h:Upd S w.drew w'):Upd S w w':=⟨h.os,h.tape,h.output,h.size,h.block⟩
theorem Sl.setAt{e:TypeId}{m off cap:Nat}{xs:List Value}(h:Sl w e m (.slice (some ⟨g,off,none⟩) n cap) n xs)(i:Nat)(H:i<n*m)(u:Value):
  Sl (w.setCell ⟨g,off+i,none⟩ u) e m (.slice (some ⟨g,off,none⟩) n cap) n (xs.set i u):=by
 obtain⟨A,⟨h1,_⟩|⟨J,L,M,O,h1,D,p,E,F,G⟩⟩:=h
 .cases h1
 .cases h1;have S:n*m<=cap*m:=qXv m p;refine⟨by simpa using A,.inr ⟨g,off,cap,_,rfl,zh D _ _,p,E,by simpa using F,fun q x j=>?_⟩⟩;by_cases s:i=q
  .subst s;rw[List.getElem?_set_self oM]at j;cases j;rw[Array.getElem?_setIfInBounds_self,if_pos oM]
  .rw [List.getElem?_set_ne s]at j;rw[qxg oM];exact G q x j
theorem Ys(s:Int)(d:Bool):∀(ps:List (Int×Bool)) (k:Nat),((plC ps).set (k*2) (.int .i64 s)).set (k*2+1) (.bool d)=plC (ps.set k (s,d))
 |[],k=>by simp[plC]
 |p::ps,0=>by simp[plC]
 |p::ps,k+1=>by
  have:=Ys s d ps k;simp only[plC,qyf,qXg,qxz,qzv]at this⊢;rw[show(k+1)*2=k*2+1+1 by omega];simp only[qXg];rw[this]
theorem Sl.putPlace{off cap:Nat}(h:Sl w 256 2 (.slice (some ⟨g,off,none⟩) ps.length cap) ps.length (plC ps))(k:Nat)(j:k<ps.length)(s:Int)(d:Bool):
  Sl ((w.setCell ⟨g,off+k*2,none⟩ (.int .i64 s)).setCell ⟨g,off+k*2+1,none⟩ (.bool d)) 256 2 (.slice (some ⟨g,off,none⟩) ps.length cap) (ps.set k (s,d)).length (plC (ps.set k (s,d))):=by
 rw[<-Ys,qzf,qXm off];exact(h.setAt (k*2) oM _).setAt (k*2+1) oM _
theorem zcy(h:IndexAt w b v mb N ps slots)(k:Nat)(s:Int)(d:Bool)(E:k<ps.length)(av:0<=s)(h1:s<slots)(ae:mayPut ps k s)(b8:N<maxLen):
  Calls prog 213 #[.pointer (some ⟨b,0,none⟩),.int .i64 k,zO s d] w fun e aw=>e=.returned (.tuple #[zO ps[k].1 ps[k].2,.int .i64 0])/\
   IndexAt aw b v mb (N+1) (ps.set k (s,d)) slots/\Upd (ixS v mb) w aw:=by
 have T:Upd (fun _=>False) w ((w.alloc (.cells #[.int .i64 s,.bool d] 256)).alloc (.cells #[.int .i64 0,.bool false] 256)):=((uur _ _).alloc _).alloc _;have J:=qqh h;have U:=h.blt;have b9:=h.le;have hsl:=h.sl1;have af:=za h.str 0;have ag:=za h.str 1;have ah:=za h.str 2;simp at af ag ah;obtain⟨g,j,ai,rfl,ax,ay,az⟩:=h.at E;have aj:=(T.cellAt (o:=0) U (fun h=>h)).trans af;have ak:=(T.cellAt (o:=1) U (fun h=>h)).trans ag;have ba:=(T.cellAt (o:=2) U (fun h=>h)).trans ah;have bI:¬(k:Int)<0:=oM;clear h;go_enter func213,ntmps213
 go_wp2
 go_quiet(fail)
 clear aj ak ba;generalize V:(((w.alloc (.cells #[.int .i64 s,.bool d] 256)).alloc (.cells #[.int .i64 0,.bool false] 256)).drewN nq)=p;have L:Upd (fun _=>False) w p:=by rw[<-V];exact T.drewN nq
 have a7:p.heap[w.heap.size]?=some (.cells #[.int .i64 s,.bool d] 256):=by
  rw[<-V];exact((Upd.alloc (uur (fun _=>False) _) (.cells #[.int .i64 0,.bool false] 256)).block w.heap.size oe (fun h=>h)).trans (zc w _ rfl)
 have aA:p.heap[w.heap.size+1]?=some (.cells #[.int .i64 0,.bool false] 256):=by
  rw[<-V];exact zc _ _ oe
 have aB:p.heap.size=w.heap.size+2:=by rw[<-V];simp[World.drewN]
 clear V T;have aj:=(L.cellAt (o:=0) U (fun h=>h)).trans af;have ak:=(L.cellAt (o:=1) U (fun h=>h)).trans ag;have bb:=(L.cellAt ax (fun h=>h)).trans ay;have bc:=(L.cellAt ax (fun h=>h)).trans az;have aC:=za a7 0;have aD:=za a7 1;simp at aC aD;have am:=qqh (J.o.keep L (fun h=>h) (fun _ _ h=>h));have bd:=qqh a7;have be:=qqh aA;clear a7 aA ay az ah;have aE:=(show MapAt p.drew mb N (atOf ps)from am.out.map).look (x:=s) oM oM;obtain⟨o,c,bf,aF⟩:∃(o:Bool) (c:Nat),(Instr.lookup 168 (.map (some mb)) (.int .i64 s) true).run prog p.drew=.ok (.tuple #[.int .i64 (c:Int),.bool o]) p.drew/\(o=false\/o=true/\c=k):=by
  refine⟨_,_,aE,?_⟩;rcases ae with e|e<;>rw[e]<;>simp
 clear aE;have aG:Hid (mayPut ps k s):=ae;clear ae;have bg:o=false\/o=true/\k=c:=aF.imp id (fun h=>⟨h.1,h.2.symm⟩);clear aF;rcases bg with rfl|⟨rfl,rfl⟩
 all_goals
  go_wp2
  go_region
  clear bf;go_wp2
  clear aC aD bb bc aj ak;generalize a8:(p.alloc (.cells #[.int .i64 ps[k].1,.bool ps[k].2] 256)).drew=aa;have X:Upd (fun _=>False) p aa:=by rw[<-a8];exact((uur _ _).alloc _).drew
  have an:aa.heap[w.heap.size+2]?=some (.cells #[.int .i64 ps[k].1,.bool ps[k].2] 256):=by rw[<-a8,<-aB];exact zc p _ rfl
  have aH:aa.heap.size=w.heap.size+3:=by rw[<-a8];show(p.alloc _).heap.size=_;simp[aB]
  clear a8;have A:=am.out.keep X (fun h=>h) (fun _ _ h=>h);have aI:=(X.block _ oM (fun h=>h)).trans bd.o;have aJ:=(X.block _ oM (fun h=>h)).trans be.o;have hr:=A.good.each k E;obtain⟨F,bh,aK,aL,aM⟩:=(show MapAt aa.drew mb N (atOf ps)from A.map).drop (x:=ps[k].1) jl jl 0;have G:=aL.undrew;have bi:F.heap.size=w.heap.size+3:=aM.trans aH;clear aL aM;have aN:b≠mb:=fun e=>A.nm e.symm;have bj:g≠mb:=fun e=>A.nv ji;have bn:g≠b:=fun e=>A.ne ji;have bJ:=J.o.map.lt;have Y:Hid (F.heap[w.heap.size+2]?=some (.cells #[.int .i64 ps[k].1,.bool ps[k].2] 256)/\F.heap[w.heap.size+1]?=some (.cells #[.int .i64 0,.bool false] 256)/\F.heap[w.heap.size]?=some (.cells #[.int .i64 s,.bool d] 256)):=
   ⟨(G.block _ oM oM).trans an,(G.block _ oM oM).trans aJ,(G.block _ oM oM).trans aI⟩
  have aO:=qqh (A.sl.keep G (fun aP ao e=>by simp[Value.ownBlock]at ao;omega));have aQ:=za an 0;have m1:=za A.str 1;simp at aQ m1;have bp:=qqh aK;have aR:=qqh ((G.block _ A.blt aN).trans A.str);have bq:=qqh (((L.trans X).mono (S':=fun q=>q=mb) (fun _ _ h=>h.elim)).trans G);clear X aI aJ an aK hr;go_wp2
  go_region
  clear bh aQ m1 G A aH;obtain⟨aP,bK,bL,bM,br,Z,bs,ap⟩:=aO.out.at oM;cases br;have bt:=(za Z (j+k*2)).trans (ap _ _ (xx E).1);have bu:=(za Z (j+k*2+1)).trans (ap (k*2+1) _ (xx E).2);have bv:=zf Z (j+k*2);have bx:=zf Z (j+k*2+1);have t0:=za aR.out 0;have D:=za Y.out.2.2 0;have a6:=za Y.out.2.2 1;simp at t0 D a6;clear bs ap Z;go_wp2
  go_region
  clear t0 D a6 bt bu bv bx;generalize ab:((F.setCell ⟨g,j+k*2,none⟩ (.int .i64 s)).setCell ⟨g,j+k*2+1,none⟩ (.bool d)).drew=ad;have H:Upd (fun q=>q=g) F ad:=by rw[<-ab];exact((zi F g (j+k*2) _).trans (zi _ g (j+k*2+1) _)).drew
  have aS:Sl ad 256 2 (.slice (some ⟨g,j,none⟩) ps.length ai) (ps.set k (s,d)).length (plC (ps.set k (s,d))):=by
   rw[<-ab];exact(aO.out.putPlace k E s d).keep ((uur (fun _=>False) _).drew) (fun _ _ h=>h)
  have bz:ad.heap.size=w.heap.size+3:=by rw[<-ab];simp[World.drew,bi]
  clear ab;have aT:=bp.out.keep H (fun e=>bj e.symm);have aq:=(H.block _ oM (fun e=>bn e.symm)).trans aR.out;have aU:=(H.block _ oM oM).trans Y.out.1;have aV:=(H.block _ oM oM).trans Y.out.2.1;have aW:=(H.block _ oM oM).trans Y.out.2.2;obtain⟨M,bA,aX,aY,aZ⟩:=(show MapAt ad.drew mb N (yP (atOf ps) ps[k].1 none)from aT).store (x:=s) oM oM k oM b8;have O:=aY.undrew;have b0:=za aq 1;have D:=za aW 0;simp at b0 D;clear aY;go_wp2
  go_region
  clear bA b0 D;have ar:=(O.block _ oM oM).trans aU;have S:=(O.block _ oM oM).trans aV;have b1:=(O.block _ oM aN).trans aq;have b2:=aS.keep O (fun aP ao e=>by simp[Value.ownBlock]at ao;omega);have au:=am.out.good;have b3:IndexAt M b (.slice (some ⟨g,j,none⟩) ps.length ai) mb (N+1) (ps.set k (s,d)) slots:=
   {str:=b1,sl:=by simpa using b2,map:=by rw[au.atOf_put E d av h1 aG.o];exact aX,good:=au.put E d av h1 aG.o,ne:=J.o.ne,nm:=J.o.nm,nv:=J.o.nv,le:=by simpa using b9,sl1:=hsl}
  have bN:M.heap.size=w.heap.size+3:=aZ.trans bz;have b4:Upd (ixS (.slice (some ⟨g,j,none⟩) ps.length ai) mb) w M:=
   ((bq.out.mono (fun q _ e=> .inr e)).trans (H.mono (fun q _ e=> .inl ji))).trans (O.mono (fun q _ e=> .inr e))
  have bB:=qqh b3;have bC:=qqh b4;have bD:=qqh S;have bE:=za S 0;have bF:=za S 1;have bO:=zf S 0;have q1:=zf S 1;have bG:=za ar 0;have bH:=za ar 1;simp at bE bF bG bH;clear ar S b1 b2 au b3 b4 aU aV aW aq aT aX H O aS aZ;go_wp2
  have b5:=zh (zh bD.o 0 (.int .i64 ps[k].1)) 1 (.bool ps[k].2);have D:=za b5 0;have a6:=za b5 1;simp at D a6;have b6:Upd (fun q=>q=w.heap.size+1) M ((M.setCell ⟨w.heap.size+1,0,none⟩ (.int .i64 ps[k].1)).setCell ⟨w.heap.size+1,1,none⟩ (.bool ps[k].2)):=(zi M (w.heap.size+1) 0 _).trans (zi _ _ 1 _);refine qYq (v:=.tuple #[zO ps[k].1 ps[k].2,.int .i64 0]) ?_ rfl ⟨rfl,?_,?_⟩
  .simp [results,results213,go_sem,D,a6]
  .exact bB.o.keep b6 oM (fun q b7 e=>by have:=J.o.slt q b7;omega)
  .exact bC.o.new (b6.mono (fun _ _ h=>h)) (fun q b7 e=>oM)
theorem sk(w:World)(a:Nat)(h:w.heap[a]?=some (.cells #[.int .i64 0,.bool false] 256)):w.cell? ⟨a,0,none⟩=some (.int .i64 0)/\w.cell? ⟨a,1,none⟩=some (.bool false)/\w.frozen? ⟨a,0,none⟩=false/\w.frozen? ⟨a,1,none⟩=false:=
 ⟨za h 0,za h 1,zf h 0,zf h 1⟩
theorem sr(w:World)(a:Nat)(q:w.heap[a]?=some (.cells #[.int .i64 0,.bool false] 256)):
  (((w.setCell ⟨a,0,none⟩ (.int .i64 0)).setCell ⟨a,1,none⟩ (.bool false)).cell? ⟨a,0,none⟩=some (.int .i64 0)/\((w.setCell ⟨a,0,none⟩ (.int .i64 0)).setCell ⟨a,1,none⟩ (.bool false)).cell? ⟨a,1,none⟩=some (.bool false)):=by
 have h:=zh (zh q 0 (.int .i64 0)) 1 (.bool false);have j:=za h 0;have p:=za h 1;simp at j p;exact⟨j,p⟩
theorem tZ{a:World}(h:Below B a w)(x:Nat)(hx:B<=x)(u j:Value):Below B a ((w.setCell ⟨x,0,none⟩ u).setCell ⟨x,1,none⟩ j):=
 (h.setCell (p:=⟨x,0,none⟩) hx _).setCell (p:=⟨x,1,none⟩) hx _
theorem QK(h:IndexAt w b v mb N ps slots)(k:Nat)(s:Int)(d:Bool)(a7:k<ps.length)(a8:0<=s)(h1:s<slots)(A:¬mayPut ps k s):
  Calls prog 213 #[.pointer (some ⟨b,0,none⟩),.int .i64 k,zO s d] w fun e U=>e=.returned (.tuple #[zO 0 false,.int .i64 15])/\Below w.heap.size w U:=by
 have q:Upd (fun _=>False) w ((w.alloc (.cells #[.int .i64 s,.bool d] 256)).alloc (.cells #[.int .i64 0,.bool false] 256)):=((uur _ _).alloc _).alloc _;have V:=qqh h;have D:=h.blt;have aa:=h.le;have hsl:=h.sl1;have E:=za h.str 1;have J:=(q.cellAt (o:=0) D id).trans (za h.str 0);have L:=(q.cellAt (o:=2) D id).trans (za h.str 2);simp at J E L;obtain⟨ab,c,rfl⟩:=h.sl.rd.j6;have ad:¬(k:Int)<0:=oM;obtain⟨o,M,X⟩:∃o:Nat,atOf ps s=some o/\o≠k:=by
  cases e:atOf ps s with
  |none=>exact absurd (.inl e) A
  |some o=>exact⟨o,rfl,fun Y=>A (.inr (by rw[e,Y]))⟩
 have ae:((o:Int)==(k:Int))=false:=by simp;omega
 clear h A;go_enter func213,ntmps213
 go_wp2
 go_quiet(fail)
 clear J L;generalize p:(((w.alloc (.cells #[.int .i64 s,.bool d] 256)).alloc (.cells #[.int .i64 0,.bool false] 256)).drewN nq)=j;have Z:Below w.heap.size w j:=by rw[<-p];exact zP (((qxl _ _).alloc (qXp _) _).alloc oe _) _
 have F:Upd (fun _=>False) w j:=by rw[<-p];exact q.drewN nq
 have G:j.heap[w.heap.size+1]?=some (.cells #[.int .i64 0,.bool false] 256):=by rw[<-p];exact zc _ _ oe
 have O:j.heap[w.heap.size]?=some (.cells #[.int .i64 s,.bool d] 256):=by
  rw[<-p];exact((Upd.alloc (uur (fun _=>False) _) (.cells #[.int .i64 0,.bool false] 256)).block w.heap.size oe id).trans (zc w _ rfl)
 clear p q;obtain⟨af,ag,ah,ai⟩:=sk _ _ G;have T:=qqh (sr _ _ G);have a6:=za O 0;simp at a6;have aj:=(F.cellAt D id).trans E;have H:=(show MapAt j.drew mb N (atOf ps)from(MapAt.keep (w':=j) V.o.map (S:=fun _=>False) F id)).look (x:=s) oM oM;rw[M]at H;simp only[Option.getD_some,Option.isSome_some]at H;clear G O F E M X;go_wp2
 go_region
 clear H;go_wp2
 refine qYq (v:=.tuple #[zO 0 false,.int .i64 15]) ?_ rfl ⟨rfl,tZ (w:=j.drew) Z.drew _ oM _ _⟩;simp[results,results213,go_sem,T.out.1,T.out.2]
theorem AX(h:IndexAt w b v mb N ps slots)(k s:Int)(d:Bool)(M:k<0\/(ps.length:Int)<=k\/s<0\/(slots:Int)<=s):
  Calls prog 213 #[.pointer (some ⟨b,0,none⟩),.int .i64 k,zO s d] w fun e O=>e=.returned (.tuple #[zO 0 false,.int .i64 10])/\Below w.heap.size w O:=by
 have j:Upd (fun _=>False) w ((w.alloc (.cells #[.int .i64 s,.bool d] 256)).alloc (.cells #[.int .i64 0,.bool false] 256)):=((uur _ _).alloc _).alloc _;have D:=h.blt;have X:=h.le;have hsl:=h.sl1;have E:=(j.cellAt (o:=0) D id).trans (za h.str 0);have F:=(j.cellAt (o:=2) D id).trans (za h.str 2);simp at E F;obtain⟨Y,c,rfl⟩:=h.sl.rd.j6;clear h j;have S:k<0\/(¬k<0/\(ps.length:Int)<=k)\/(¬k<0/\¬(ps.length:Int)<=k/\s<0)\/(¬k<0/\¬(ps.length:Int)<=k/\¬s<0/\(slots:Int)<=s):=oM;clear M;rcases S with h1|⟨h1,h2⟩|⟨h1,h2,p⟩|⟨h1,h2,p,T⟩
 case' inr.inl=>
  have G:decide (k<0)=false:=by simpa using h1
  have H:decide ((ps.length:Int)<=k)=true:=by simpa using h2
 case' inr.inr.inl=>
  have G:decide (k<0)=false:=by simpa using h1
  have H:decide ((ps.length:Int)<=k)=false:=by simpa using h2
  have U:decide (s<0)=true:=by simpa using p
 case' inr.inr.inr=>
  have G:decide (k<0)=false:=by simpa using h1
  have H:decide ((ps.length:Int)<=k)=false:=by simpa using h2
  have U:decide (s<0)=false:=by simpa using p
  have Z:decide ((slots:Int)<=s)=true:=by simpa using T
 all_goals
  go_enter func213,ntmps213
  go_wp2
  go_quiet(fail)
  clear E F;generalize q:(((w.alloc (.cells #[.int .i64 s,.bool d] 256)).alloc (.cells #[.int .i64 0,.bool false] 256)).drewN nq)=J;have V:Below w.heap.size w J:=by rw[<-q];exact zP (((qxl _ _).alloc (qXp _) _).alloc oe _) _
  have A:J.heap[w.heap.size+1]?=some (.cells #[.int .i64 0,.bool false] 256):=by rw[<-q];exact zc _ _ oe
  clear q;obtain⟨a6,a7,a8,aa⟩:=sk _ _ A;have L:=qqh (sr _ _ A);clear A;go_wp2
  refine qYq (v:=.tuple #[zO 0 false,.int .i64 10]) ?_ rfl ⟨rfl,tZ V _ oM _ _⟩;simp[results,results213,go_sem,L.out.1,L.out.2]
theorem qV(h:n<ps.length):ps.getD n (-1,false)=ps[n]:=by simp[List.getD,h]
theorem tj(h:IndexAt w b v mb N ps slots)(k:Int):
  Calls prog 173 #[.pointer (some ⟨b,0,none⟩),.int .i64 k] w fun e q=>e=.returned (.tuple #[zO (getV ps k).1 (getV ps k).2,.int .i64 (getC ps k)])/\Below w.heap.size w q:=by
 by_cases p:k<0\/(ps.length:Int)<=k
 .simp only[getV,getC,if_pos p];exact AM h k p
 .obtain ⟨n,rfl⟩:∃n:Nat,k=n:=⟨k.toNat,oM⟩
  have j:n<ps.length:=oM;simp only[getV,getC,if_neg p,qxt,qV j];rcases h.good.each n j with e|e
  .simp only[e,if_true];exact Sw h n j e
  .have h1:ps[n].1≠-1:=oM;have h2:ps[n]≠(-1,false):=fun e=>h1 (by rw[e]);simp only[if_neg h2];exact XN h n j h1
theorem AY(h:IndexAt w b v mb N ps slots)(k s:Int)(d:Bool)(F:N<maxLen):
  Calls prog 213 #[.pointer (some ⟨b,0,none⟩),.int .i64 k,zO s d] w fun e p=>e=.returned (.tuple #[zO (ti ps slots k s).1 (ti ps slots k s).2,.int .i64 (putC ps slots k s)])/\
   IndexAt p b v mb (N+1) (xy ps slots k s d) slots/\Upd (ixS v mb) w p:=by
 by_cases q:k<0\/(ps.length:Int)<=k\/s<0\/(slots:Int)<=s
 .have e:putC ps slots k s=10:=by unfold putC;rw[if_pos q]
  simp only[ti,xy,e,if_neg (show¬(10:Int)=0 by decide)];exact(AX h k s d q).mono fun e p ⟨D,j⟩=>⟨D,(h.below j).mono (qXq _),uuo j⟩
 .obtain ⟨n,rfl⟩:∃n:Nat,k=n:=⟨k.toNat,oM⟩
  have E:n<ps.length:=oM;by_cases A:mayPut ps n s
  .have e:putC ps slots n s=0:=by
    unfold putC;rw[if_neg q,if_pos (by simpa[mayPut]using A)]
   simp only[ti,xy,e,if_true,qxt,qV E];exact zcy h n s d E oM oM A F
  .have e:putC ps slots n s=15:=by
    unfold putC;rw[if_neg q,if_neg (by simpa[mayPut]using A)]
   simp only[ti,xy,e,if_neg (show¬(15:Int)=0 by decide)];exact(QK h n s d E oM oM A).mono fun e p ⟨D,j⟩=>⟨D,(h.below j).mono (qXq _),uuo j⟩
theorem SO{α:Type}{l:List α}{i:Nat}{x:α}(h:l[i]?=some x):l.set i x=l:=by
 obtain⟨j,rfl⟩:=qym.1 h;exact List.set_getElem_self j
def dropL(ps:List (Int×Bool))(k:Int):List (Int×Bool):=if getC ps k=0 then ps.set k.toNat (-1,false)else ps
def cleanL(ps:List (Int×Bool))(k:Int):List (Int×Bool):=if getC ps k=0 then ps.set k.toNat ((getV ps k).1,false)else ps
theorem qa(h:Good ps slots){k:Int}(p:getC ps k=0):∃(n:Nat) (q:n<ps.length),k=n/\0<=ps[n].1/\ps[n].1<slots/\getV ps k=ps[n]:=by
 unfold getC at p;by_cases s:k<0\/(ps.length:Int)<=k
 .rw [if_pos s]at p;cases p
 .rw [if_neg s]at p;obtain⟨n,rfl⟩:∃n:Nat,k=n:=⟨k.toNat,oM⟩
  have q:n<ps.length:=oM;simp only[qxt,qV q]at p;by_cases e:ps[n]=(-1,false)
  .simp [e]at p
  .refine ⟨n,q,rfl,?_,?_,?_⟩
   .rcases h.each n q with j|j;exact absurd j e;exact j.1
   .rcases h.each n q with j|j;exact absurd j e;exact j.2
   .simp only[getV,if_neg s,qxt,qV q,if_neg e]
theorem SP{k:Int}(h:getC ps k≠0):getV ps k=(0,false):=by
 unfold getC at h;unfold getV;split
 .rfl
 .rename_i j
  rw[if_neg j]at h;split
  .rfl
  .rename_i h2
   rw[if_neg h2]at h;exact absurd rfl h
theorem QL(h:IndexAt w b v mb N ps slots)(k:Int):
  Calls prog 323 #[.pointer (some ⟨b,0,none⟩),.int .i64 k] w fun e O=>e=.returned (.int .i64 (getC ps k))/\
   IndexAt O b v mb N (cleanL ps k) slots/\Upd (ixS v mb) w O:=by
 have A:=qqh h;by_cases p:getC ps k=0
 .obtain ⟨n,D,rfl,S,h1,H⟩:=qa h.good p;have E:Hid (cleanL ps n=ps.set n (ps[n].1,false)):=by show _=_;simp[cleanL,p,H]
  have Z:=qqh H;have a6:=h.le;clear H h;have T:=p;rw[p];clear p;go_enter func323,ntmps323
  go_wp2_with fail
  refine(tj A.o n).mono ?_;rintro e w1 ⟨rfl,s⟩;have ae:=s.size;have J:Upd (fun _=>False) w (w1.alloc (.cells #[.int .i64 ps[n].1,.bool ps[n].2] 256)):=(uuo s).alloc _;have F:=A.o.keep J id (fun _ _ h=>h);have t0:=za F.str 0;simp at t0;obtain⟨g,G,af,ag,rfl,L,_,q⟩:=F.sl.at oM;have ah:=(za L (G+n*2+1)).trans (q (n*2+1) _ (xx D).2);have ai:=zf L (G+n*2+1);have a7:(getC ps n==0)=true:=by simpa using T
  have j:=qqh F;have a8:=qqh J;rw[T,Z.out];clear L q F J a7;go_wp2
  go_ret
  have U:=j.o.sl.setAt (n*2+1) oM (.bool false);rw[<-qXm G]at U;have M:Upd (fun V=>V=g) (w1.alloc (.cells #[.int .i64 ps[n].1,.bool ps[n].2] 256)) ((w1.alloc (.cells #[.int .i64 ps[n].1,.bool ps[n].2] 256)).setCell ⟨g,G+n*2+1,none⟩ (.bool false)):=zi _ _ _ _;have aa:g≠b:=fun e=>j.o.ne ji;have ab:g≠mb:=fun e=>j.o.nv ji;rw[E.out];refine⟨rfl,{str:=(M.block _ j.o.blt (fun e=>aa e.symm)).trans j.o.str,sl:=?_,map:=?_,good:=j.o.good.clean D S,ne:=j.o.ne,nm:=j.o.nm,nv:=j.o.nv,le:=by simpa using a6,sl1:=j.o.sl1},?_⟩
  .rw [<-Ys,qzf];have ad:(plC ps).set (n*2) (.int .i64 ps[n].1)=plC ps:=SO (xx D).1;rw[ad];simpa using U
  .rw [j.o.good.atOf_clean D S];exact j.o.map.keep M (fun e=>ab e.symm)
  .exact (a8.o.mono fE).trans (M.mono (fun V _ e=> .inl ji))
 .have E:cleanL ps k=ps:=by simp[cleanL,p]
  rw[E];obtain⟨c,q⟩:=qqe (getC ps k);obtain⟨z,X⟩:=qqe (getV ps k);rw[<-q]at p;rw[<-q];have aj:(c==0)=false:=by simpa using p
  clear E h;have Y:=qqh (tj A.o k);rw[<-q,<-X]at Y;clear q X;go_enter func323,ntmps323
  go_wp2_with fail
  refine Y.o.mono ?_;rintro e w1 ⟨rfl,s⟩;go_wp2
  go_ret
  exact⟨rfl,(A.o.below s).keep ((uur (fun _=>False) _).alloc _) id (fun _ _ h=>h),(uuo s).alloc _⟩
theorem SQ(h:IndexAt w b v mb N ps slots)(k:Int)(p:getC ps k≠0):
  Calls prog 388 #[.pointer (some ⟨b,0,none⟩),.int .i64 k] w fun e H=>e=.returned (.tuple #[zO 0 false,.int .i64 (getC ps k)])/\Below w.heap.size w H:=by
 have D:=qqh (h.keep ((uur (fun _=>False) w).alloc (.cells #[.int .i64 0,.bool false] 256)) id (fun _ _ h=>h));obtain⟨c,j⟩:=qqe (getC ps k);obtain⟨z,E⟩:=qqe (getV ps k);have q:=tj D.o k;rw[<-j,<-E]at q;have F:=qqh q;rw[<-j]at p;rw[<-j];have M:(c==0)=false:=by simpa using p
 clear j E h D p q;go_enter func388,ntmps388
 go_wp2_with fail
 refine F.o.mono ?_;rintro e w1 ⟨rfl,s⟩;have J:=s.size;simp at J;have L:=zj ((qxl _ w).alloc (qXp _) _) (uuo (S:=fun _=>False) s) (qXp _) (fun _ h=>h.elim);have A:(w1.alloc (.cells #[.int .i64 z.1,.bool z.2] 256)).heap[w.heap.size]?=some (.cells #[.int .i64 0,.bool false] 256):=
  (((uuo (S:=fun _=>False) s).alloc _).block _ oe id).trans (zc w _ rfl)
 obtain⟨O,T,U,V⟩:=sk _ _ A;have G:=qqh (sr _ _ A);clear A F;go_wp2
 refine qYq (v:=.tuple #[zO 0 false,.int .i64 c]) ?_ rfl ⟨rfl,tZ (L.alloc oM _) _ oM _ _⟩;simp[results,results388,go_sem,G.out.1,G.out.2]
theorem AZ(h:IndexAt w b v mb N ps slots)(n:Nat)(D:n<ps.length)(be:0<=ps[n].1):
  Calls prog 388 #[.pointer (some ⟨b,0,none⟩),.int .i64 n] w fun e ae=>e=.returned (.tuple #[zO ps[n].1 ps[n].2,.int .i64 0])/\
   IndexAt ae b v mb N (ps.set n (-1,false)) slots/\Upd (ixS v mb) w ae:=by
 have Y:=h.good;have hr:=Y.each n D;have hsl:=h.sl1;have aI:=h.le;have Z:Upd (fun _=>False) w (w.alloc (.cells #[.int .i64 0,.bool false] 256)):=(uur (fun _=>False) w).alloc (.cells #[.int .i64 0,.bool false] 256);have s:=qqh h;have af:=qqh (XN (h.keep Z id (fun _ _ h=>h)) n D oM);clear h;go_enter func388,ntmps388
 go_wp2_with fail
 refine af.o.mono ?_;rintro e w1 ⟨rfl,L⟩;have aJ:=L.size;simp at aJ;clear af;have M:Upd (fun _=>False) w (w1.alloc (.cells #[.int .i64 ps[n].1,.bool ps[n].2] 256)):=(Z.trans (uuo L|>.mono (S':=fun _=>False) (fun _ _ h=>h))).alloc _;have O:(w1.alloc (.cells #[.int .i64 ps[n].1,.bool ps[n].2] 256)).heap[w1.heap.size]?=some (.cells #[.int .i64 ps[n].1,.bool ps[n].2] 256):=zc w1 _ rfl;have a6:(w1.alloc (.cells #[.int .i64 ps[n].1,.bool ps[n].2] 256)).heap[w.heap.size]?=some (.cells #[.int .i64 0,.bool false] 256):=
  (((uuo (S:=fun _=>False) L).alloc _).block _ oe id).trans (zc w _ rfl)
 go_wp2
 generalize a7:(w1.alloc (.cells #[.int .i64 ps[n].1,.bool ps[n].2] 256))=ag;rw[a7]at M O a6;have ah:ag.heap.size=w1.heap.size+1:=by rw[<-a7];simp
 clear a7 L Z;have q:=s.o.keep M id (fun _ _ h=>h);obtain⟨ai,aK,aj,ak,am⟩:=(show MapAt ag.drew mb N (atOf ps)from q.map).drop (x:=ps[n].1) oM jl 0;have F:=ak.undrew;obtain⟨g,j,T,rfl,aL,aM,aN⟩:=q.at D;have aO:b≠mb:=fun e=>q.nm e.symm;have aP:g≠mb:=fun e=>q.nv ji;have aQ:g≠b:=fun e=>q.ne ji;have bf:=s.o.map.lt;have bg:=s.o.blt;have bh:=s.o.sl.lt (g:=g) rfl;have an:=za q.str 1;have ao:=za O 0;simp at an ao;have ap:=(F.block _ oM oM).trans O;have aq:=(F.block _ oM oM).trans a6;have U:=(F.block _ q.blt aO).trans q.str;have a8:=q.sl.keep F (fun aR aS e=>by simp[Value.ownBlock]at aS;omega);have aT:=qqh aj;have aU:ai.heap.size=w1.heap.size+1:=am.trans ah;have aV:=qqh ((M.mono (S':=fun p=>p=mb) (fun _ _ h=>h.elim)).trans F);clear M O a6 ah q aM aN ak F aj aL am;go_wp2
 go_region
 clear aK an ao;have t0:=za U 0;simp at t0;obtain⟨aR,bi,bj,bn,aW,G,aX,aa⟩:=a8.at oM;cases aW;have aY:=qqh ap;have aZ:=qqh aq;have b0:=qqh U;have b1:=qqh a8;have ar:=(za G (j+n*2)).trans (aa _ _ (xx D).1);have au:=(za G (j+n*2+1)).trans (aa (n*2+1) _ (xx D).2);have av:=zf G (j+n*2);have aw:=zf G (j+n*2+1);have bp:=zd G;have bq:=zd U;clear ap aq U a8 aX aa G;go_wp2
 go_region_held3 (fun W=>W.cell? ⟨b,0,none⟩=some (.slice (some ⟨g,j,none⟩) ps.length T)) (go_keep)
  ((go_at_call 211;refine(yX _).mono ?_;rintro e V ⟨rfl,E,ax⟩;have b2:=(E.cellAt (o:=0) og id).trans t0;have b3:=(E.cellAt og id).trans ar;have b4:=(E.cellAt og id).trans au;have b5:=(E.frozenAt og id).trans av;have b6:=(E.frozenAt og id).trans aw))
 generalize X:((V.setCell ⟨g,j+n*2,none⟩ (.int .i64 (-1))).setCell ⟨g,j+n*2+1,none⟩ (.bool false))=A;have ab:Upd (fun _=>False) ai V:=E.undrew;have ay:Upd (fun p=>p=g) V A:=by rw[<-X];exact(zi V g (j+n*2) _).trans (zi _ g (j+n*2+1) _)
 have az:=b1.o.keep ab (fun _ _ h=>h);have aA:Sl A 256 2 (.slice (some ⟨g,j,none⟩) ps.length T) (ps.set n (-1,false)).length (plC (ps.set n (-1,false))):=by
  rw[<-X];exact az.putPlace n D (-1) false
 have br:A.heap.size=w1.heap.size+2:=by rw[<-X];simp[ax];simp[aU]
 clear X b2 b3 b4 b5 b6 ar au av aw t0;have H:=(ab.mono (S':=fun p=>p=g) (fun _ _ h=>h.elim)).trans ay;have aB:=aT.o.keep H (fun e=>aP e.symm);have aC:=(H.block _ oM (fun e=>aQ e.symm)).trans b0.o;have ad:=(H.block _ oM oM).trans aY.o;have J:=(H.block _ oM oM).trans aZ.o;have b7:Hid (IndexAt A b (.slice (some ⟨g,j,none⟩) ps.length T) mb N (ps.set n (-1,false)) slots):=
  {str:=aC,sl:=by simpa using aA,map:=by rw[Y.atOf_drop D];exact aB,good:=Y.drop n,ne:=s.o.ne,nm:=s.o.nm,nv:=s.o.nv,le:=by simpa using aI,sl1:=hsl}
 have b8:Hid (Upd (ixS (.slice (some ⟨g,j,none⟩) ps.length T) mb) w A):=
  (aV.o.mono (fun p _ e=> .inr e)).trans (H.mono (fun p _ e=> .inl ji))
 have b9:=qqh J;have ba:=za J 0;have bb:=za J 1;have bs:=zf J 0;have q1:=zf J 1;have bc:=za ad 0;have bd:=za ad 1;simp at ba bb bc bd;clear ab ay az aA H aB aC ad J ax E;go_wp2
 have aD:=zh (zh b9.o 0 (.int .i64 ps[n].1)) 1 (.bool ps[n].2);have aE:=za aD 0;have aF:=za aD 1;simp at aE aF;have aG:Upd (fun p=>p=w.heap.size) A ((A.setCell ⟨w.heap.size,0,none⟩ (.int .i64 ps[n].1)).setCell ⟨w.heap.size,1,none⟩ (.bool ps[n].2)):=(zi A w.heap.size 0 _).trans (zi _ _ 1 _);refine qYq (v:=.tuple #[zO ps[n].1 ps[n].2,.int .i64 0]) ?_ rfl ⟨rfl,?_,?_⟩
 .simp [results,results388,go_sem,aE,aF]
 .exact b7.o.keep aG oM (fun p aH e=>by have:=s.o.slt p aH;omega)
 .exact b8.o.new (aG.mono (fun _ _ h=>h)) (fun p aH e=>oM)
theorem SR(j:IndexAt w b v mb N ps slots)(k:Int):
  Calls prog 388 #[.pointer (some ⟨b,0,none⟩),.int .i64 k] w fun e p=>e=.returned (.tuple #[zO (getV ps k).1 (getV ps k).2,.int .i64 (getC ps k)])/\
   IndexAt p b v mb N (dropL ps k) slots/\Upd (ixS v mb) w p:=by
 by_cases h:getC ps k=0
 .obtain ⟨n,A,rfl,D,h1,E⟩:=qa j.good h;have q:dropL ps n=ps.set n (-1,false):=by simp[dropL,h]
  rw[q,E,h];exact AZ j n A D
 .have q:dropL ps k=ps:=by simp[dropL,h]
  rw[q,SP h];exact(SQ j k h).mono fun e p ⟨F,s⟩=>⟨F,j.below s,uuo s⟩
theorem zcz:(prog.info? 256).map (fun i=>(i.zero,i.size,i.bytes))=some (some (.agg #[.int .i64 0,.bool false]),2,16):=kR
theorem wR(h:Rd w 2 v ps.length (plC ps))(Y:ps.length<=4096)(Z:0<ps.length):
  Calls prog 228 #[v] w fun e p=>∃j,e=.returned j/\Sl p 256 2 j ps.length (plC ps)/\From w.heap.size j/\Below w.heap.size w p:=by
 obtain⟨D,E,F,G,H⟩:=qYt zcz;have J:=qqh h;obtain⟨L,a6,M,c,rfl,q,_⟩:=h;have a7:=fun(w:World) (a:Option Addr) (n c:Nat)=>Lib.run_eql_slice_nil (P:=prog) w 320 256 a n c 0 0 underlying320;cases M with
 |none=>
  have a8:=q rfl;omega
 |some a=>
  clear q L;have O:Sl (w.alloc (.cells #[] 256)) 256 2 (.slice (some ⟨w.heap.size,0,none⟩) 0 0) 0 []:=
   ⟨oe,.inr ⟨w.heap.size,0,0,#[],rfl,zc _ _ rfl,oe,by simp[maxLen],oe,oe⟩⟩
  have S:Hid (Rd (w.alloc (.cells #[] 256)) 2 (.slice (some a) ps.length c) ps.length (plC ps)):=J.o.keep ((uur (fun _=>False) _).alloc _) (fun _ _ h=>h);have T:∀u∈plC ps,u.oneCell'=true:=by intro u s;simp only[plC,qzq]at s;obtain⟨aa,_,A⟩:=s;simp at A;rcases A with rfl|rfl<;>simp[Value.oneCell']
  go_enter func228,ntmps228
  go_wp2_with (at_builtin;refine zJ rfl _ _ 320 rfl D (.agg #[.int .i64 0,.bool false]) 16 underlying320 E F G H rfl de rfl O _ ps.length (plC ps) rfl S.o T oj oM ?_)
  intro j ab U V X;go_wp2
  go_ret
  refine⟨_,rfl,by simpa using U,?_,?_⟩
  .exact X.ge oe oL
  .refine zj ((qxl _ _).alloc (qXp _) _) V (qXp _) oI
open Go Go.RowKit Go.Shelf Tryz
attribute [local go_sem] qYb
abbrev It9:=Nat×(Int×Bool)
abbrev zcA(x:It9):Array Value:= #[.int .i64 (x.1:Int),zO x.2.1 x.2.2]
def ZJ(qs:List (Int×Bool))(fr k:Nat):List It9:=if qs[k]?.getD (-1,false)=(-1,false)then[]else[(fr+k,qs[k]?.getD (-1,false))]
def visTo(qs:List (Int×Bool))(fr:Nat):Nat->List It9
 |0=>[]
 |k+1=>visTo qs fr k++ZJ qs fr k
abbrev vis(qs:List (Int×Bool))(fr:Nat):List It9:=visTo qs fr qs.length
theorem vV{h:List (Int×Bool)}{fr:Nat}(j:k<h.length)(p:h[k]≠(-1,false)):visTo h fr (k+1)=visTo h fr k++[(fr+k,h[k])]:=by
 have e:h[k]?.getD (-1,false)=h[k]:=by simp[j]
 simp[visTo,ZJ,j,p]
theorem wS{h:List (Int×Bool)}{fr:Nat}(j:k<h.length)(p:h[k]=(-1,false)):visTo h fr (k+1)=visTo h fr k:=by
 simp[visTo,ZJ,j,p]
theorem QM(h:List (Int×Bool))(fr k:Nat):(ZJ h fr k).length<=1:=by unfold ZJ;split<;>simp
theorem qc(h:List (Int×Bool))(fr k:Nat):(visTo h fr k).length<=k:=by
 induction k with
 |zero=>simp[visTo]
 |succ k j=>have:=QM h fr k;simp only[visTo,qyz];omega
theorem tk(j:List (Int×Bool))(fr:Nat){m:Nat}(h:k<=m):visTo j fr k<+:visTo j fr m:=by
 induction m with
 |zero=>
  obtain rfl:k=0:=oM;exact List.prefix_rfl
 |succ m p=>
  by_cases q:k=m+1
  .subst q;exact List.prefix_rfl
  .exact (p oM).trans (List.prefix_append _ _)
theorem sw{β:Type}{h:β->World->Prop}(j:AbidesFrom B h){s:β}(p:h s W)(hu:Upd (fun _=>False) W W'):h s W':=
 j s W W' none p ⟨hu.os,hu.tape,hu.output,hu.size,fun k q _=>hu.block k q id⟩ (fun r e=>by cases e)
end
section
open Go.RowKit
theorem UZ{w':World}(h:Below w.drew.heap.size w.drew w'):Below w.heap.size w w':=⟨h.os,h.tape,h.output,h.size,h.block⟩
abbrev Ta(f n:Int):Value:=.agg #[.int .i64 f,.int .i64 n]
def spanL(ps:List (Int×Bool))(f n:Nat):List (Int×Bool):=(ps.drop f).take n
theorem SS(ps:List (Int×Bool))(k:Nat):plC (ps.drop k)=(plC ps).drop (k*2):=by
 induction ps generalizing k with
 |nil=>simp[plC]
 |cons j ps h=>
  cases k with
  |zero=>rfl
  |succ k=>
   rw[show(k+1)*2=k*2+1+1 by omega];simpa[plC]using h k
theorem qW{o c:Nat}(h:Sl w 256 2 (.slice (some ⟨g,o,none⟩) ps.length c) ps.length (plC ps))(f:Nat)(D:f<=ps.length):
  Rd w 2 (.slice (some ⟨g,o+f*2,none⟩) (ps.length-f) (c-f)) (ps.drop f).length (plC (ps.drop f)):=by
 obtain⟨E,F,G,H,q,J,s⟩:=h.rd;cases q;refine⟨AK _,by rw[qzb];omega,some ⟨g,o+f*2,none⟩,c-f,by rw[qzb],(fun h=>by cases h),fun b A j u p=>?_⟩;cases A;rw[SS,qyj]at p;have:=s _ rfl (f*2+j) u p;have e:(⟨g,o,none⟩:Addr).add (f*2+j)=(⟨g,o+f*2,none⟩:Addr).add j:=by rw[qxa,qxa,qXm]
 rw[<-e];exact this
theorem zgg(h:IndexAt w b v mb N ps slots)(f n:Int)(p:f<0\/n<0\/(ps.length:Int)<=f):
  Calls prog 164 #[.pointer (some ⟨b,0,none⟩),Ta f n] w fun e q=>e=.returned (.func (.func 227) #[] #[])/\Below w.heap.size w q:=by
 have j:Upd (fun _=>False) w (w.alloc (.cells #[.int .i64 f,.int .i64 n] 52)):=(uur _ _).alloc _;have s:=(j.cellAt (o:=0) h.blt id).trans (za h.str 0);simp at s;have G:=h.le;obtain⟨H,c,rfl⟩:=h.sl.rd.j6;clear h j;have A:f<0\/(¬f<0/\n<0)\/(¬f<0/\¬n<0/\(ps.length:Int)<=f):=oM;clear p;rcases A with h1|⟨h1,h2⟩|⟨h1,h2,D⟩
 case' inr.inl=>
  have E:decide (f<0)=false:=by simpa using h1
  have F:decide (n<0)=true:=by simpa using h2
 case' inr.inr=>
  have E:decide (f<0)=false:=by simpa using h1
  have F:decide (n<0)=false:=by simpa using h2
  have J:decide ((ps.length:Int)<=f)=true:=by simpa using D
 all_goals
  go_enter func164,ntmps164
  go_wp2
  go_quiet(fail)
  go_wp2
  go_ret
  exact⟨rfl,zP ((qxl _ _).alloc (qXp _) _) _⟩
theorem zcB(h:IndexAt w b v mb N ps slots)(f n:Nat)(aX:f<ps.length):
  Calls prog 164 #[.pointer (some ⟨b,0,none⟩),Ta f n] w fun e J=>∃A ad g ak aJ,e=.returned (.func (.func 229) #[] #[.pointer (some ⟨A,0,none⟩),.pointer (some ⟨ad,0,none⟩)])/\
   (w.heap.size<=ad/\w.heap.size<=g/\w.heap.size<=A)/\A<J.heap.size/\ad<J.heap.size/\g<J.heap.size/\J.cell? ⟨A,0,none⟩=some (.slice (some ⟨g,ak,none⟩) (spanL ps f n).length aJ)/\J.cell? ⟨ad,0,none⟩=some (.int .i64 f)/\
   (∀j (h:j<(spanL ps f n).length),J.cell? ⟨g,ak+j*2,none⟩=some (.int .i64 (spanL ps f n)[j].1)/\J.cell? ⟨g,ak+j*2+1,none⟩=some (.bool (spanL ps f n)[j].2))/\Below w.heap.size w J:=by
 have am:Upd (fun _=>False) w (w.alloc (.cells #[.int .i64 f,.int .i64 n] 52)):=(uur _ _).alloc _;have T:=(am.cellAt (o:=0) h.blt id).trans (za h.str 0);simp at T;have aY:=h.le;have U:=qqh h;obtain⟨aK,c,rfl⟩:=h.sl.rd.j6;have aZ:¬(f:Int)<0:=oM;have b0:¬(n:Int)<0:=oM;have b1:¬(ps.length:Int)<=f:=oM;clear h;go_enter func164,ntmps164
 go_wp2
 go_quiet(fail)
 go_wp2
 clear T;generalize ae:(w.alloc (.cells #[.int .i64 f,.int .i64 n] 52)).drewN nq=q;have a6:Upd (fun _=>False) w q:=by rw[<-ae];exact am.drewN nq
 have av:q.heap[w.heap.size]?=some (.cells #[.int .i64 f,.int .i64 n] 52):=by rw[<-ae];exact zc w _ rfl
 have aL:q.heap.size=w.heap.size+1:=by rw[<-ae];simp[World.drewN]
 clear ae am;have t0:=za av 0;have an:=za av 1;simp at t0 an;have T:=(a6.cellAt (o:=0) U.o.blt id).trans (za U.o.str 0);simp at T;obtain⟨gb,L,rfl,b2⟩:∃gb L,aK=some (⟨gb,L,none⟩:Addr)/\ps.length<=c:=by
  obtain⟨b3,⟨h1,h2⟩|⟨F,M,aM,aN,h1,hg,aO,_⟩⟩:=U.o.sl
  .omega
  .cases h1;exact⟨F,M,rfl,aO⟩
 have V:Upd (fun _=>False) q (q.alloc (.cells #[.slice none 0 0] 320)).drew:=((uur _ _).alloc _).drew;have aw:Hid (Rd (q.alloc (.cells #[.slice none 0 0] 320)).drew 2 (.slice (some ⟨gb,L+f*2,none⟩) (ps.length-f) (c-f)) (ps.drop f).length (plC (ps.drop f))):=
  (qW (U.o.sl.keep a6 (fun _ _ h=>h)) f oM).keep V (fun _ _ h=>h)
 have ax:Hid (Rd q.drew 2 (.slice (some ⟨gb,L+f*2,none⟩) (ps.length-f) (c-f)) (ps.drop f).length (plC (ps.drop f))):=
  (qW (U.o.sl.keep a6 (fun _ _ h=>h)) f oM).keep ((uur (fun _=>False) q).drew) (fun _ _ h=>h)
 have af:Hid (q.drew.cell? ⟨b,0,none⟩=some (.slice (some ⟨gb,L,none⟩) ps.length c)/\q.drew.cell? ⟨w.heap.size,0,none⟩=some (.int .i64 f)/\q.drew.cell? ⟨w.heap.size,1,none⟩=some (.int .i64 n)):=⟨T,t0,an⟩
 have b4:¬c=f:=oM;have b5:f<=ps.length:=oM;have b6:=U.o.blt;have a7:Hid ((q.alloc (.cells #[.slice none 0 0] 320)).drew.cell? ⟨b,0,none⟩=some (.slice (some ⟨gb,L,none⟩) ps.length c)/\(q.alloc (.cells #[.slice none 0 0] 320)).drew.cell? ⟨w.heap.size,0,none⟩=some (.int .i64 f)/\
   (q.alloc (.cells #[.slice none 0 0] 320)).drew.cell? ⟨w.heap.size,1,none⟩=some (.int .i64 n)/\(q.alloc (.cells #[.slice none 0 0] 320)).drew.heap[w.heap.size+1]?=some (.cells #[.slice none 0 0] 320)):=
  ⟨(V.cellAt oM id).trans T,(V.cellAt oM id).trans t0,(V.cellAt oM id).trans an,zc q _ aL.symm⟩
 have aP:¬w.heap.size+1=b:=oM
 go_region_held3 (fun W=>W.cell? ⟨b,0,none⟩=some (.slice (some ⟨gb,L,none⟩) ps.length c)/\W.cell? ⟨w.heap.size,0,none⟩=some (.int .i64 f)/\W.cell? ⟨w.heap.size,1,none⟩=some (.int .i64 n)) (go_keep)
  (first
  |((go_at_call 228;refine(wR ax.o og og).mono ?_;rintro e D ⟨aQ,rfl,O,X,hb3⟩;obtain⟨G,s,rfl⟩:=O.rd.j6;have ao:=(hb3.cell (p:=⟨b,0,none⟩) og).trans af.o.1;have a8:=(hb3.cell (p:=⟨w.heap.size,0,none⟩) og).trans af.o.2.1;have aa:=(hb3.cell (p:=⟨w.heap.size,1,none⟩) og).trans af.o.2.2))
  |((go_at_call 228;refine(wR aw.o og og).mono ?_;rintro e D ⟨aQ,rfl,O,X,hb3⟩;obtain⟨G,s,rfl⟩:=O.rd.j6;have ao:=(hb3.cell (p:=⟨b,0,none⟩) og).trans a7.o.1;have a8:=(hb3.cell (p:=⟨w.heap.size,0,none⟩) og).trans a7.o.2.1;have aa:=(hb3.cell (p:=⟨w.heap.size,1,none⟩) og).trans a7.o.2.2.1;have kb:=(hb3.block (w.heap.size+1) og).trans a7.o.2.2.2;have ay:=za kb 0;have aR:=zf kb 0;simp at ay)))
 case' refine_2.refine_3.refine_3.refine_3.refine_3.refine_3.refine_3.refine_3.refine_1.refine_2.refine_1.refine_2.refine_1.refine_2=>
  have E:Upd (fun _=>False) D (D.alloc (.cells #[.slice G (ps.length-f) s] 320)):=(uur _ _).alloc _;have H:=zc D (.cells #[.slice G (ps.length-f) s] 320) rfl;have Y:=zj (zj (qxl _ w) a6 (qXp _) (fun _ h=>h.elim)) (uuo (S:=fun _=>False) (UZ hb3)) (qXp _) (fun _ h=>h.elim);have az:From w.heap.size (.slice G (ps.length-f) s):=fun g hg=>by have:=X g jf;simp at this;omega
  have ag:w.heap.size<=D.heap.size:=Y.size;have ah:=O.keep E (fun _ _ h=>h);have ap:=zj Y E (qXp _) (fun _ h=>h.elim);have t5:=(E.cellAt (b:=w.heap.size) (o:=0) ox id).trans a8;have aS:=(E.cellAt (b:=w.heap.size) (o:=1) ox id).trans aa;have aA:D.heap.size≠w.heap.size:=by have:=hb3.size;simp at this;omega
  clear E O X hb3 ao a8 aa Y;generalize (D.alloc (.cells #[.slice G (ps.length-f) s] 320))=ab at*;generalize D.heap.size=A at*
 rotate_left
 have E:Upd (fun j=>j=w.heap.size+1) D (D.setCell ⟨w.heap.size+1,0,none⟩ (.slice G (ps.length-f) s)):=zi _ _ _ _;have H:=zh kb 0 (.slice G (ps.length-f) s);simp at H;have aB:=zj (zj (qxl _ w) a6 (qXp _) (fun _ h=>h.elim)) V (qXp _) (fun _ h=>h.elim);have Y:=zj aB (uuo (S:=fun _=>False) hb3) (qXp _) (fun _ h=>h.elim);have az:From w.heap.size (.slice G (ps.length-f) s):=fun g hg=>by have:=X g jf;simp at this;omega
 have ag:w.heap.size<=w.heap.size+1:=oM;have ah:=O.keep E (fun g hg e=>by have:=X g hg;simp at this;omega);have ap:=zj Y E (qXp _) (fun j e=>oM);have t5:=(E.cellAt (b:=w.heap.size) (o:=0) ox oM).trans a8;have aS:=(E.cellAt (b:=w.heap.size) (o:=1) ox oM).trans aa;have aA:w.heap.size+1≠w.heap.size:=oM;clear E O X hb3 ao a8 aa ay aR kb aB Y aP V a7 af aw ax;generalize (D.setCell ⟨w.heap.size+1,0,none⟩ (.slice G (ps.length-f) s))=ab at*;generalize w.heap.size+1=A at*
 all_goals
  obtain⟨F,M,aM,aN,aT,Z,aU,aq⟩:=ah.at og
 all_goals
  cases aT;have ar:Hid (∀j (h:j<(ps.drop f).length),ab.cell? ⟨F,M+j*2,none⟩=some (.int .i64 (ps.drop f)[j].1)/\ab.cell? ⟨F,M+j*2+1,none⟩=some (.bool (ps.drop f)[j].2)):=
   fun j h=>⟨(za Z _).trans (aq _ _ (xx h).1),(za Z _).trans (aq (j*2+1) _ (xx h).2)⟩
  have ai:=zd Z;have aC:=az F rfl;have aD:=zd H;have b7:ps.length-f<=s:=by
   obtain⟨_,⟨h1,_⟩|⟨_,_,_,_,h1,_,h2,_⟩⟩:=ah
   .cases h1
   .cases h1;simpa using h2
  have aE:F≠A:=fun e=>by
   rw[e]at Z;rw[Z]at H;simp at H
  have aF:=za H 0;have b8:=zf H 0;simp at aF;have aV:=qqh H;clear aU aq Z ah H;by_cases hlt:(n:Int)<((ps.length-f:Nat):Int)
  .have b9:n<=ps.length-f:=oM;have ba:n<=s:=oM;have aG:Hid (spanL ps f n=(ps.drop f).take n):=rfl;have aH:(spanL ps f n).length=n:=by simp[spanL];omega
   go_wp2
   go_ret
   have au:Upd (fun j=>j=A) ab (ab.setCell ⟨A,0,none⟩ (.slice (some ⟨F,M,none⟩) n s)):=zi _ _ _ _;have aj:=(zE t5).2;refine⟨A,w.heap.size,F,M,s,rfl,⟨qXp _,aC,ag⟩,by rw[World.size_setCell];exact aD,by rw[World.size_setCell];exact aj,by rw[World.size_setCell];exact ai,?_,(au.cellAt aj (fun e=>aA e.symm)).trans t5,?_,ap.setCell (p:=⟨A,0,none⟩) ag _⟩
   .rw [aH,za (zh aV.o 0 _)];simp
   .intro j aW;have aI:j<(ps.drop f).length:=by rw[aH]at aW;simp;omega
    have e:(spanL ps f n)[j]=(ps.drop f)[j]:=by simp[spanL]
    rw[e];exact⟨(au.cellAt ai (fun e=>aE e)).trans (ar.out j aI).1,(au.cellAt ai (fun e=>aE e)).trans (ar.out j aI).2⟩
  .go_wp2
   go_ret
   have aG:spanL ps f n=ps.drop f:=by unfold spanL;rw[qXk];simp;omega
   rw[aG];have aj:=(zE t5).2;exact⟨A,w.heap.size,rfl,F,⟨qXp _,aC,ag⟩,aD,aj,ai,M,⟨s,by rw[qzb];exact aF⟩,t5,ar.out,ap⟩
open Go Go.RowKit Go.Shelf Tryz
attribute [local go_sem] qYb
theorem zcC(n:Nat)(ax:2<=n)(S:Nat->Prop)(l Z A b off cap:Nat)(j:List (Int×Bool))(fr:Nat)
  (ay:j.length<=4096) (az:fr<=4096) (am:∀k (h:k<j.length),j[k]=(-1,false)\/0<=j[k].1) (a6:¬S b) (a7:¬S A) (D a8:List It9->World->Prop) (an:Nat) (aa:AbidesFrom an D)
  (ao:∀q (x:It9) W,D q W->q++[x]<+:vis j fr->YieldAt Fence.wide (n-1) prog l (zcA x) W fun e W'=>
   (e=.returned (.bool true)/\D (q++[x]) W'/\Upd S W W')\/(e=.returned (.bool false)/\a8 (q++[x]) W'))
  (W:World) (ab:b<W.heap.size) (ad:A<W.heap.size) (aA:W.cell? ⟨Z,0,none⟩=some (.slice (some ⟨b,off,none⟩) j.length cap)) (ae:W.cell? ⟨A,0,none⟩=some (.int .i64 fr))
  (af:∀F (h:F<j.length),W.cell? ⟨b,off+F*2,none⟩=some (.int .i64 j[F].1)/\W.cell? ⟨b,off+F*2+1,none⟩=some (.bool j[F].2)) (ap:D [] W):
  CallsIn Fence.wide n prog 229 #[.func (.yield l) #[] #[],.pointer (some ⟨Z,0,none⟩),.pointer (some ⟨A,0,none⟩)] W fun e W'=>(∃v,e=.returned v)/\
   ((∃ag,ag=vis j fr/\D ag W')\/(∃q,q<+:vis j fr/\a8 q W')):=by
 have aB:prog.follows .mixedOrders=true:=kR;refine callsIn_of_wp func229 rfl trivial ?_ rfl;simp only[ntmps229,qXi,qza,qzd,Nat.reduceAdd,Nat.reduceSub,qxi,qxj,qXc,qxy,qzv,qxz]
 gi_wp2
 refine wpIn_wide.2 (wp_scope_straight (wpIn_wide (n:=n).1 (wpIn_seq (wpIn_label ?_))))
 gi_wp2
 gi_loopw [8] (fun i wr=>∃k:Nat,k<=j.length/\i=.int .i64 k/\D (visTo j fr k) wr/\Upd S W wr)
  (fun i _=>j.length-(intOf i).toNat)
 case atStart=>exact⟨0,qXz _,rfl,ap,uur _ _⟩
 case round=>
  obtain⟨k,aC,rfl,L,G⟩:=hrel;have aD:wr.cell? ⟨A,0,none⟩=some (.int .i64 fr):=(G.cellAt ad a7).trans ae;by_cases hlt:k<j.length
  .have aq:wr.cell? ⟨b,off+k*2,none⟩=some (.int .i64 j[k].1):=(G.cellAt ab a6).trans (af k hlt).1;have ar:wr.cell? ⟨b,off+k*2+1,none⟩=some (.bool j[k].2):=(G.cellAt ab a6).trans (af k hlt).2;by_cases E:j[k]=(-1,false)
   .have H:Hid (visTo j fr (k+1)=visTo j fr k):=wS hlt E;rw[E]at aq ar;clear E;have M:Hid ((wr.alloc (.cells #[.int .i64 (-1),.bool false] 256)).drew.cell? ⟨wr.heap.size,0,none⟩=some (.int .i64 (-1))):=za (zc wr _ rfl) 0;have O:Hid ((wr.alloc (.cells #[.int .i64 (-1),.bool false] 256)).drew.cell? ⟨wr.heap.size,1,none⟩=some (.bool false)):=za (zc wr _ rfl) 1
    gi_wp2
    gi_region_with_o (first|refine⟨trivial,fun _=>oM,?_⟩|skip;gi_at_call 211;refine(callsIn_wide.2 (yX _)).mono ?_;rintro e J ⟨rfl,p,T⟩;have ah:=(p.cellAt oe id).trans M.o;have ai:=(p.cellAt oe id).trans O.o)
    all_goals
     have s:Upd (fun _=>False) wr J:=((uur (fun _=>False) wr).alloc _).trans p.undrew;have U:=qqh (sw aa L s);have V:=qqh (G.trans (s.mono (S':=S) (fun _ _ h=>h.elim)));clear p T ah ai s
     gi_wp2
     go_roundw
     case rel=>exact⟨k+1,oM,oe,by rw[H.o];exact U.o,V.o⟩
     case measure=>simp[intOf];omega
   .have aE:0<=j[k].1:=(am k hlt).resolve_left E;have aF:(j[k].1== -1)=false:=by simp;omega
    have H:Hid (visTo j fr (k+1)=visTo j fr k++[(fr+k,j[k])]):=vV hlt E;clear E;have M:Hid ((wr.alloc (.cells #[.int .i64 j[k].1,.bool j[k].2] 256)).drew.cell? ⟨wr.heap.size,0,none⟩=some (.int .i64 j[k].1)):=za (zc wr _ rfl) 0;have O:Hid ((wr.alloc (.cells #[.int .i64 j[k].1,.bool j[k].2] 256)).drew.cell? ⟨wr.heap.size,1,none⟩=some (.bool j[k].2)):=za (zc wr _ rfl) 1
    gi_wp2
    gi_region_with_o (first|refine⟨trivial,fun _=>oM,?_⟩|skip;gi_at_call 211;refine(callsIn_wide.2 (yX _)).mono ?_;rintro e J ⟨rfl,p,T⟩;have ah:=(p.cellAt oe id).trans M.o;have ai:=(p.cellAt oe id).trans O.o)
    all_goals
     have s:Upd (fun _=>False) wr J:=((uur (fun _=>False) wr).alloc _).trans p.undrew;have U:=qqh (sw aa L s);have X:=G.trans (s.mono (S':=S) (fun _ _ h=>h.elim));have aG:J.cell? ⟨A,0,none⟩=some (.int .i64 fr):=(X.cellAt ad a7).trans ae;have V:=qqh X;obtain⟨aH,aI,assign,body,hy,Y⟩:=ao _ (fr+k,j[k]) J U.o (by rw[<-H.o];exact tk j fr oM);simp only[zcA,qxs]at hy;clear p T s X
     gi_wp2
     refine⟨fun _=>oM,?_⟩;refine Y.mono ?_;rintro e aJ (⟨rfl,aj,ak⟩|⟨rfl,au⟩)
     .have av:=qqh aj;have aw:=qqh (V.o.trans (ak.mono (fun _ _ h=>h)));clear aj ak Y
      gi_wp2
      go_roundw
      case rel=>exact⟨k+1,oM,oe,by rw[H.o];exact av.o,aw.o⟩
      case measure=>simp[intOf];omega
     .clear Y
      gi_wp2
      rw[qxr];refine qYq (qYv rfl _ _ _) rfl ?_;exact⟨⟨_,rfl⟩,.inr ⟨_,by rw[<-H.o];exact tk j fr oM,au⟩⟩
  .obtain rfl:k=j.length:=oM
   gi_wp2
   rw[Exit.noGoto_normal]
   go_end0
   exact⟨⟨_,rfl⟩,.inl ⟨_,rfl,L⟩⟩
abbrev ItM(qs:List (Int×Bool))(fr:Nat):={x:It9//x∈vis qs fr}
theorem QN{L pre:List It9}{x:It9}(h:pre++[x]<+:L):x∈L/\pre.length<L.length:=by
 refine⟨h.subset oe,?_⟩;have:=h.length_le;simp at this;omega
theorem ZK(n:Nat)(X:2<=n)(S:Nat->Prop)(G E b off cap:Nat)(h:List (Int×Bool))(fr:Nat)(w:World)(Y:h.length<=4096)(Z:fr<=4096)(a6:∀k (q:k<h.length),h[k]=(-1,false)\/0<=h[k].1)
  (H:b<w.heap.size) (M:E<w.heap.size) (a7:G<w.heap.size) (a8:¬S b) (aa:¬S E)
  (ab:w.cell? ⟨G,0,none⟩=some (.slice (some ⟨b,off,none⟩) h.length cap)) (ad:w.cell? ⟨E,0,none⟩=some (.int .i64 fr))
  (O:∀j (q:j<h.length),w.cell? ⟨b,off+j*2,none⟩=some (.int .i64 h[j].1)/\w.cell? ⟨b,off+j*2+1,none⟩=some (.bool h[j].2)):
  SeqStopsK Fence.wide n prog 229 #[.pointer (some ⟨G,0,none⟩),.pointer (some ⟨E,0,none⟩)] (fun x:ItM h fr=>zcA x.1) (Upd S) (fun A=>A.map (·.1)=vis h fr) (fun T=>T.map (·.1)<+:vis h fr) (vis h fr).length w:=fun l ae af W F ag _ ah ai=>by
 refine(zcC n X S l G E b off cap h fr Y Z a6 a8 aa (fun A D=>∃zs:List (ItM h fr),zs.map (·.1)=A/\ae zs D) (fun A D=>∃zs:List (ItM h fr),zs.map (·.1)=A/\af zs D) W.heap.size
  (fun A D J row q aj ak=>by obtain⟨zs,s,q⟩:=q;exact⟨zs,s,ag zs D J row q aj ak⟩) ?_ W (qXs H F.size) (qXs M F.size) ((F.cell (p:=⟨G,0,none⟩) a7).trans ab) ((F.cell (p:=⟨E,0,none⟩) M).trans ad)
  (fun j U=>⟨(F.cell (p:=⟨b,off+j*2,none⟩) H).trans (O j U).1,(F.cell (p:=⟨b,off+j*2+1,none⟩) H).trans (O j U).2⟩) ⟨[],rfl,ai⟩).mono ?_
 .rintro T x D ⟨zs,s,am⟩ an;obtain⟨hx,au⟩:=QN an;obtain⟨ao,ap,assign,body,hy,aq⟩:=ah zs ⟨x,hx⟩ D am (by have:=congrArg List.length s;simp at this;omega);refine⟨ao,ap,assign,body,hy,aq.mono ?_⟩;rintro e J (⟨h1,h2,ar⟩|⟨h1,h2⟩)
  .exact .inl ⟨h1,⟨_,by rw[qzh,s];rfl,h2⟩,ar⟩
  .exact .inr ⟨h1,⟨_,by rw[qzh,s];rfl,h2⟩⟩
 .rintro e J ⟨V,⟨A,L,zs,s,q⟩|⟨A,L,zs,s,q⟩⟩
  .exact ⟨V,.inl ⟨zs,s.trans L,q⟩⟩
  .exact ⟨V,.inr ⟨zs,by show List.map (fun x=>x.val) zs<+:vis h fr;rw[s];exact L,q⟩⟩
attribute [local go_sem] qYb
theorem VI{h B:World}{t:TypeId}(j:Boxed h b t v)(q:h.grownBy B row)(s:∀r,row=some r->∃o:Obj,h.heap[r]?=some o/\o.isCells=false):Boxed B b t v:=
 j.kept q (fun e=>by
  obtain⟨o,p,A⟩:=s _ e.symm;rw[show h.heap[b]?=_ from j]at p;cases p;simp[Obj.isCells]at A)
theorem ST{X h:World}{M sz:Nat}{e:TypeId}{xs:List Value}(j:X.ownsRow M e sz v n xs)(q:X.grownBy h row)(s:∀r,row=some r->∃o:Obj,X.heap[r]?=some o/\o.isCells=false):h.ownsRow M e sz v n xs:=by
 refine j.kept q ?_;rcases j.2 with⟨rfl,_⟩|⟨g,F,G,rfl,_,A,_⟩
 .exact .inl rfl
 .refine .inr (fun D=>?_);obtain⟨o,p,E⟩:=s g D.symm;rw[A]at p;cases p;simp[Obj.isCells]at E
def SU(x:It9)(pb:Nat)(W:World):Prop:=W.heap[pb]?=some (.cells #[.int .i64 x.2.1,.bool x.2.2] 256 (0,0))
theorem VJ{X j:World}{cs:Array Value}{T:TypeId}(h:X.heap[b]?=some (.cells cs T (0,0)))(q:X.grownBy j row)(s:∀r,row=some r->∃o:Obj,X.heap[r]?=some o/\o.isCells=false):j.heap[b]?=some (.cells cs T (0,0)):=
 (q.block b (Array.getElem?_eq_some_iff.1 h).1 (fun e=>by
  obtain⟨o,p,A⟩:=s b e.symm;rw[h]at p;cases p;simp[Obj.isCells]at A)).trans h
theorem ZL(B:Nat)(x:It9)(pb:Nat):OwnFrom B (fun(_:Unit) W=>SU x pb W):=fun _ _ _ _ h j p=>VJ h j (fun r e=>(p r e).2)
theorem Tb:(prog.info? 3).map (fun i=>(i.zero,i.size,i.bytes))=some (some (.int .i64 0),1,8):=kR
theorem vW{n₀:Nat}(h:Below n₀ W W'):Upd (fun j=>n₀<=j) W W':=⟨h.os,h.tape,h.output,h.size,fun k _ p=>h.block k oM⟩
end
def tm(o:Oper):Bool:=match o.op with
 | .defer _=>false
 |_=>true
theorem Yt{o:Oper}(h:tm o=true)(c:Call):o.op≠ .defer c:=by
 intro e;unfold tm at h;rw[e]at h;cases h
theorem vt(w:World)(d:Nat)(a c:Int)(b e:Bool):(Op.equalIn (d+1+1) 256 (.agg #[.int .i64 a,.bool b]) (.agg #[.int .i64 c,.bool e])).run prog w=.ok (a==c&&b==e) w:=by
 have q:=underlying256;obtain⟨fs,p⟩:∃fs,prog.underlying 256=some (.struct fs):=⟨_,q⟩
 have s:prog.fieldsOf 256=fs:=by unfold Program.fieldsOf;rw[p]
 have j:=p.symm.trans q;injection j with j
 injection j with j
 have h2:=fun(x y:Bool)=>run_equalIn_bool (P:=prog) w d 4 x y underlying4;rw[run_equalIn_struct w (d+1) _ _ _ (by rw[s];exact p) kR,s,j];by_cases A:a=c
 .simp [Op.eqFields,go_sem,h2,A,Result.andThen];by_cases D:b=e<;>simp[D]
 .simp [Op.eqFields,go_sem,A,Result.andThen]
theorem Zl(w:World)(a c:Int)(b d:Bool):(binOp .neq 256 (.agg #[.int .i64 a,.bool b]) (.agg #[.int .i64 c,.bool d])).run prog w=.ok (.bool (!(a==c&&b==d))) w:=by
 simp only[binOp];simp[show Op.equal 256 (.agg #[.int .i64 a,.bool b]) (.agg #[.int .i64 c,.bool d])=Op.equalIn (9998+1+1) 256 (.agg #[.int .i64 a,.bool b]) (.agg #[.int .i64 c,.bool d])from rfl,vt w 9998 a c b d]
section
variable{n l0:Nat}{P:Program}{ops:Array Oper}{Q:Exit->Act->World->Prop}
theorem zaa{row:String}{args:Array Value}{R:Value->World->Prop}(h:Go.Rows P row args w R):RowsIn (Fence.wide.inRound l0) n P row args w R:=
 fun c cs _=>let⟨v,j,r,p⟩:=h c cs;⟨v,j,r,stepsIn_wide.2 p⟩
theorem SV{f:FuncId}{args:Array Value}{R:Ending->World->Prop}(h:Calls P f args w R):CallsIn (Fence.wide.inRound l0) n P f args w R:=
 CallsIn.inRound l0 (callsIn_wide.2 h)
theorem sx{o:Oper}{a:Act}{next:Act->World->Prop}{r:Result Next}(h:o.upon P a next Q r):o.uponIn (Fence.wide.inRound l0) n P a next Q r:=by
 unfold Oper.upon at h;split at h
 .exact h
 .exact h
 .exact h
 .exact ⟨(fun e=>by cases e),SV h⟩
 .exact ⟨(fun e=>by cases e),zaa h⟩
 .exact h
 .exact h.elim
theorem sy(s:¬LetsOut Q)(A:∀(j:Nat) (o:Oper),ops[j]?=some o->tm o=true){i:Nat}{K K':Act->World->Prop}(D:∀a w,K a w->K' a w){a:Act}(E:wpOp P ops Q i K a w):
  wpOpIn (Fence.wide.inRound l0) n P ops Q i K' a w:=by
 have h:=wpOp_mono D E;unfold wpOp at h;unfold wpOpIn;cases p:ops[i]? with
 |none=>simp only[p]at h⊢;exact h
 |some o=>
  have F:=A i o p;simp only[p]at h⊢;by_cases q:Region.wanted o (yielded ops a.tmps)=true
  .rw [if_pos q]at h⊢;rcases h with h|⟨-,h⟩
   .refine ⟨fun _ _=>trivial,?_⟩;rw[show(Fence.wide.inRound l0).round=some l0 from rfl,qYb _ _ _ (Yt F)];exact sx h
   .exact absurd h s
  .rw [if_neg q]at h⊢;exact⟨fun _ _=>trivial,h⟩
theorem wB(s:¬LetsOut Q)(q:Region.Mode)(A:∀(j:Nat) (o:Oper),ops[j]?=some o->tm o=true):∀(h:Nat) (D:Array Bool) (a:Act) (w:World),
  wpAny P q ops Q h D a w->wpAnyIn (Fence.wide.inRound l0) n P q ops Q h D a w
 |0,_,_,_,p=>p
 |h+1,_,_,_,p=>⟨p.1,fun i E=>sy s A (fun F G H=>wB s q A h _ F G H) (p.2 i E)⟩
theorem wT{S:World->Prop}{id:Nat}{a:Act}{l:List Oper}(j:¬LetsOut Q)(p:P.follows .mixedOrders=true)(q:l.all tm=true)(s:S w.drew)
  (A:S w.drew->wpAnyH P .any l.toArray Q S l.toArray.size (Array.replicate l.toArray.size false) a w.drew):(Code.region id l.toArray true).wpIn (Fence.wide.inRound l0) n P Q a w:=
 wpIn_region_any p (wB j .any (fun D o h=>qxv.1 q o (by rw[qyr]at h;exact List.mem_of_getElem? h)) _ _ _ _ (wpAny_of_held _ _ _ _ (A s)))
end
section
open Go.RowKit
theorem SW(n:Nat):madeCells #[Value.map none] (n*1)=Array.replicate n (Value.map none):=by
 apply Array.ext
 .simp [size_madeCells]
 .intro i h1 h2;have:i%1=0:=Nat.mod_one i;simp[madeCells,this]
theorem zab:(prog.info? 330).map (fun i=>(i.zero,i.size,i.bytes))=some (some (.map none),1,8):=kR
structure LgTo(W w:World)(g n k:Nat)(M:List (Nat×(Int->Bool))):Prop where
 sl:Sl w 330 1 (.slice (some ⟨g,0,none⟩) n n) n (LgC M++List.replicate (n-k) (.map none))
 len:M.length=k
 sets:∀p∈M,SetAt w p.1 4097 p.2/\p.2=fun _=>false
 nd:(M.map (·.1)).Nodup
 lo:∀p∈M,W.heap.size+2<=p.1
theorem zac{S:Nat->Prop}(n bl:Nat)(w:World)(F:∀A,w.heap.size<=A->S A)(h1:1<=n)(h2:n<=1024)(G:1<=bl)(ag:bl<=4096):
  Calls prog 142 #[.int .i64 (n:Int),.int .i64 (bl:Int)] w fun e a7=>∃b,e=.returned (.tuple #[.pointer (some ⟨b,0,none⟩),.int .i64 0])/\
   Lg S a7 b bl (List.replicate n (fun _=>false))/\Below w.heap.size w a7/\w.heap.size<=b:=by
 obtain⟨ah,a8,aa,ab,hz2⟩:=qYt zab;have ap:= @run_makeMap prog;have ai:∀w:World,(Instr.makeSlice 327 (.int .i64 n) (.int .i64 n)).run prog w=.ok (.slice (some ⟨w.heap.size,0,none⟩) n n) (w.alloc (.cells (Array.replicate n (Value.map none)) 330)):=by
  intro w;have:=run_make (P:=prog) w 327 330 ah (.map none) underlying327 a8 aa .i64 .i64 n n oM oM jK oM;rw[this];simp only[qxt,ab,Value.cells];rw[SW]
 have q1:decide ((n:Int)<1)=false:=by simp;omega
 have q2:decide (1024<(n:Int))=false:=by simp;omega
 have aq:decide ((bl:Int)<1)=false:=by simp;omega
 have ar:decide (4096<(bl:Int))=false:=by simp;omega
 clear a8 aa ab hz2;go_enter func142,ntmps142
 go_wp2
 have ad:((w.alloc (.cells (Array.replicate n (Value.map none)) 330)).alloc (.cells #[.int .i64 (bl:Int),.slice (some ⟨w.heap.size,0,none⟩) n n] 329)).heap[w.heap.size]?=some (.cells (Array.replicate n (Value.map none)) 330):=by
  rw[qxk _ _ _ oe];exact zc w _ rfl
 have U:=zc (w.alloc (.cells (Array.replicate n (Value.map none)) 330)) (.cells #[.int .i64 (bl:Int),.slice (some ⟨w.heap.size,0,none⟩) n n] 329) (n:=w.heap.size+1) oe;have M:=((qxl w.heap.size w).alloc (qXp _) (.cells (Array.replicate n (Value.map none)) 330)).alloc oe (.cells #[.int .i64 (bl:Int),.slice (some ⟨w.heap.size,0,none⟩) n n] 329);have V:((w.alloc (.cells (Array.replicate n (Value.map none)) 330)).alloc (.cells #[.int .i64 (bl:Int),.slice (some ⟨w.heap.size,0,none⟩) n n] 329)).heap.size=w.heap.size+2:=oe;have hsl:Sl ((w.alloc (.cells (Array.replicate n (Value.map none)) 330)).alloc (.cells #[.int .i64 (bl:Int),.slice (some ⟨w.heap.size,0,none⟩) n n] 329)) 330 1 (.slice (some ⟨w.heap.size,0,none⟩) n n) n (List.replicate n (Value.map none)):=
  ⟨oe,.inr ⟨w.heap.size,0,n,_,rfl,ad,qXp _,by unfold maxLen;omega,oe,fun A u H=>by rw[qXy,<-List.toArray_replicate,qyr];exact H⟩⟩
 generalize (w.alloc (.cells (Array.replicate n (Value.map none)) 330)).alloc (.cells #[.int .i64 (bl:Int),.slice (some ⟨w.heap.size,0,none⟩) n n] 329)=aj at*;have J:=Y5 U M V hsl F;clear ad U M V hsl F ai;go_loopw[32] (fun X wr=>∃k:Nat,k<=n/\X=.int .i64 k/\(∃D,LgTo w wr w.heap.size n k D)/\Upd (fun A=>A=w.heap.size) aj wr) (fun X _=>n-(intOf X).toNat)
 case atStart=>exact⟨0,oM,rfl,⟨[],by simpa using J.o.2.2.2.1,rfl,oe,oe,oe⟩,uur _ _⟩
 case round=>
  obtain⟨k,O,rfl,⟨D,j⟩,s⟩:=hrel;have E:=(s.block _ (zd J.o.1) oM).trans J.o.1;have c1:=za E 1;simp at c1;have hge:=s.size;have T:=J.o.2.2.1;by_cases hlt:k<n
  .have au:(0:Int)<=(k:Int):=oM;have av:(k:Int)<(n:Int):=oM;obtain⟨aw,ax,ay,az,ak,L,am,ae⟩:=j.sl.at oM;cases ak;have Y:=Y4 j s E O;have aA:(wr.alloc (.map #[] 0)).cell? ⟨w.heap.size,k,none⟩=some (.map none):=by
    rw[za ((qxk _ _ _ (zd L)).trans L)];have an:(LgC D).length=k:=by simp[LgC,j.len]
    have:=ae k (.map none) (by rw[qyi oM,an,Nat.sub_self,qyo,if_pos oM]);simpa using this
   have aB:(wr.alloc (.map #[] 0)).frozen? ⟨w.heap.size,k,none⟩=false:=zf ((qxk _ _ _ (zd L)).trans L) k;clear j s E L am ae O;have ao:=Y2 T hge;clear T hge;go_wp2
   go_roundw
   case rel=>
    obtain⟨j,s,E,O⟩:=Y.o;obtain⟨T,hge⟩:=ao.o;have Z:Upd (fun _=>False) wr (wr.alloc (.map #[] 0)):=(uur _ wr).alloc _;have a6:Upd (fun A=>A=w.heap.size) (wr.alloc (.map #[] 0)) ((wr.alloc (.map #[] 0)).setCell ⟨w.heap.size,k,none⟩ (.map (some wr.heap.size))):=zi _ _ _ _;refine⟨k+1,oM,by go_num,⟨D++[(wr.heap.size,fun _=>false)],?_,by simp[j.len],?_,?_,?_⟩,(s.trans (Z.mono fE)).trans a6⟩
    .have G:=(j.sl.keep Z (fun _ _ h=>h)).setAt k oM (.map (some wr.heap.size));rw[qXy]at G;have e:(LgC D++List.replicate (n-k) (Value.map none)).set k (.map (some wr.heap.size))=LgC (D++[(wr.heap.size,fun _=>false)])++List.replicate (n-(k+1)) (.map none):=by
      have:n-k=(n-(k+1))+1:=oM;rw[this,List.replicate_succ,qXf _ _ (by simp[j.len])];simp[j.len,LgC]
     rw[e]at G;exact G
    .intro q p;rcases qzm.1 p with p|p
     .refine ⟨((j.sets q p).1.keep Z id).keep a6 (fun e=>?_),(j.sets q p).2⟩;have:=j.lo q p;omega
     .simp at p;subst p;exact⟨((SetAt.made wr).mono oM).keep a6 (fun e=>by have aC:wr.heap.size=w.heap.size:=e;omega),rfl⟩
    .rw [qzh,qzw];refine⟨j.nd,oe,?_⟩;intro x hx y hy e;simp at hy;subst hy;obtain⟨q,p,rfl⟩:=qzr.1 hx;have:=(j.sets q p).1.lt;omega
    .intro q p;rcases qzm.1 p with p|p
     .exact j.lo q p
     .simp at p;subst p;show _<=wr.heap.size;omega
   case measure=>simp[intOf];omega
  .obtain rfl:k=n:=oM;have Y:=Y3 j s E;clear j s E O hge T;go_wp2
   go_ret2
   obtain⟨j,s,E⟩:=Y.o;obtain⟨U,M,V,-,F⟩:=J.o;have aD:∀q∈D,q.1<wr.heap.size:=fun q p=>(j.sets q p).1.lt;refine⟨w.heap.size+1,rfl,⟨.slice (some ⟨w.heap.size,0,none⟩) k k,D,⟨E,by have:=j.sl;rw[j.len];simpa using this,fun q p=>(j.sets q p).1,j.nd,fun q p=>⟨?_,?_⟩,by simp[Value.ownBlock],by rw[j.len];exact h2,⟨G,ag⟩,fun q p aE af=>?_⟩,?_,?_⟩,zj M s oM (fun A e=>oM),oM⟩
   .have:=j.lo q p;omega
   .have:=j.lo q p;simp[Value.ownBlock];omega
   .rw [(j.sets q p).2]at af;simp at af
   .apply qyd (by simp[j.len]);intro i h1 h2;simp only[qyu,List.getElem_replicate];exact(j.sets _ (qyv _)).2
   .rintro A (rfl|H|H)
    .exact F _ oM
    .simp [Value.ownBlock]at H;exact F _ oM
    .obtain ⟨q,p,rfl⟩:=qzr.1 H;exact F _ (by have:=j.lo q p;omega)
def zeW{α:Type}(n g:Nat)(lb:Array Value)(encs:α->Array Value)(Kp:World->World->Prop)(S Sp:List α->Prop)(N:Nat)(w:World):Prop:=
 ∀(l:Nat) (J Jx:List α->World->Prop) (W:World),Below w.heap.size w W->w.heap.size+2<=W.heap.size->OwnFrom W.heap.size J->OwnFrom W.heap.size Jx->
  (∀pre x W1,J pre W1->pre.length<N->YieldAt Fence.wide (n-1) prog l (encs x) W1 fun e W'=>
   (e=.returned (.bool true)/\J (pre++[x]) W'/\Kp W1 W')\/(e=.returned (.bool false)/\Jx (pre++[x]) W'/\Kp W1 W'))->
  J [] W->
  CallsIn Fence.wide n prog g (#[.func (.yield l) #[] #[]]++lb) W fun e W'=>(∃v,e=.returned v)/\((∃xs,S xs/\J xs W')\/(∃pre,Sp pre/\Jx pre W'))
def SX{α:Type}(B:Nat)(Kp:World->World->Prop)(I:List α->World->Prop)(Ix:Code->List α->World->Prop)(xs:List α)(W:World):Exit->Act->World->Prop
 | .normal,_,W'=>KeepsFrom B W W'/\Kp W W'/\I xs W'
 | .ret,_,W'=>KeepsFrom B W W'/\Kp W W'/\Ix .ret xs W'
 | .exit id,_,W'=>KeepsFrom B W W'/\Kp W W'/\Ix (.exit id) xs W'
 | .goto t,_,W'=>KeepsFrom B W W'/\Kp W W'/\Ix (.goto t) xs W'
 | .panic _,_,_=>False
 | .outgrown,_,_=>False
theorem tn(j:W.grownBy W' row){r:Nat}{o:Obj}(p:∀k,row=some k->B<=k)(q:r<B)(h:W.heap[r]?=some o):W'.heap[r]?=some o:=
 (j.block r (Array.getElem?_eq_some_iff.1 h).1 (fun e=>by have:=p r e.symm;omega)).trans h
section
variable{α:Type}{g:Operand}{ps:Array Tmp}{assign body:Code}{Q:Exit->Act->World->Prop}{a:Act}{w:World}
theorem Zcg11{P:Prop}(h:P:=by
  exact⟨_,_,p,.inr ⟨rfl,⟨_,(aa _).putObj _ Z oM h1 rfl,a6,a7⟩,L (L aj Y) (a8 _ _ _ h1 rfl)⟩⟩):P:=h
theorem qw{gf:Nat}{lb:Array Value}(ay:a.eval g=.func (.func gf) #[] lb)(az:∀ao w,(callFunc gf ao).run prog w=.ok (.enter gf ao) w)
  {ai:α->Array Value} {Kp:World->World->Prop} {S ap:List α->Prop}  {ae:World} (aA:zeW (n-1) gf lb ai Kp S ap N ae)
  (L:∀{H B C:World},Kp H B->Kp B C->Kp H C) (a8:∀(W:World) (o aB:Obj),W.heap[w.heap.size+1]?=some o->o.isCells=false->Kp W (W.putObj (w.heap.size+1) aB)) (ak:Below ae.heap.size ae w) (aC:∀x,(ai x).size=ps.size)
  (I:List α->World->Prop) (Ix:Code->List α->World->Prop) (T:OwnFrom w.heap.size I) (aa:∀c,OwnFrom w.heap.size (Ix c)) (aD:I [] w) (aq:α->Act)
  (aE:∀(l:Nat) (x:α) (W:World) (K:Act->World->Prop),K (aq x) W->
   assign.wpIn (Fence.wide.inRound l) (n-1-1) prog (Exit.then K (fun _ _ _=>False)) {tmps:=(ps.zip (ai x)).foldl (fun t (aF,v)=>t.setIfInBounds aF v) a.tmps,defers:=[]} W)
  (ar:∀(l:Nat) (pre:List α) (x:α) (W:World),I pre W->pre.length<N->body.wpIn (Fence.wide.inRound l) (n-1-1) prog (SX w.heap.size Kp I Ix (pre++[x]) W) (aq x) W)
  (au:∀(D:Nat) (xs:List α) (W:World),w.heap.size<=D->S xs->I xs W->W.heap[D]?=some (.deferred (some []))->Q .normal {a with defers:={target:=.collected D,args:= #[]}::a.defers} W)
  (av:∀(D:Nat) (c:Code) (pre:List α) (W:World),w.heap.size<=D->ap pre->Ix c pre W->W.heap[D]?=some (.deferred (some []))->c.wpIn Fence.wide n prog Q {a with defers:={target:=.collected D,args:= #[]}::a.defers} W):
  (Code.rangeFunc g ps assign body).wpIn Fence.wide n prog Q a w:=by
 refine wpIn_rangeFunc fun aw aG=>?_;obtain⟨j,af⟩:=qqe (w.heap.size);obtain⟨s,J⟩:∃s:LoopState->Option Code->Loop,s=fun aH aI=>{state:=aH,pending:=aI,fn:=aw,tmps:=a.tmps,params:=ps,assign,body,defers:=j}:=⟨_,rfl⟩
 obtain⟨E,ab⟩:=qqe ((w.alloc (.deferred (some []))).alloc (.loop (s .ready none)));have aU:E.heap.size=j+2:=by rw[ab,af];simp
 have aJ:E.heap[j+1]?=some (.loop (s .ready none)):=by
  rw[ab,af];have:=World.alloc_heap_new (w.alloc (.deferred (some []))) (.loop (s .ready none))
  rwa[qYm]at this
 have aK:E.heap[j]?=some (.deferred (some [])):=by rw[ab,af];exact(qxk _ _ _ oe).trans (World.alloc_heap_new w _)
 rw[<-af]at T aa a8 ar au av;have aL:I [] E:=by rw[ab];exact T.alloc _ (T.alloc _ aD)
 have aM:Below ae.heap.size ae E:=by
  rw[ab];exact ak.trans ((((qxl _ w).alloc (qXp _) _).alloc oe _).mono ak.size)
 refine⟨j+1,[{target:=.collected j,args:= #[]}],E,{target:=.fn (.func gf) lb,args:= #[.func (.yield (j+1)) #[] #[]]},E,gf,#[.func (.yield (j+1)) #[] #[]]++lb,E,?_,?_,?_,?_,fun e=>(by cases e),?_⟩
 .rw [ab,J,af];exact run_enterLoop_outer _ _ _ _ _
 .simp only[resolve,ay];simp[go_sem]
 .intro _ _;trivial
 .simp [invoke,go_sem,az]
 have ax:∀{row:Option Nat} {H:World},(∀r,row=some r->E.heap.size<=r/\∃o:Obj,H.heap[r]?=some o/\o.isCells=false)->(∀r,row=some r->j<=r/\∃o:Obj,H.heap[r]?=some o/\o.isCells=false):=
  fun F r e=>⟨by have:=(F r e).1;omega,(F r e).2⟩
 refine(aA (j+1) (fun pre W=>I pre W/\W.heap[j+1]?=some (.loop (s .ready none))/\W.heap[j]?=some (.deferred (some [])))
  (fun pre W=>∃c,Ix c pre W/\W.heap[j+1]?=some (.loop (s .done (some c)))/\W.heap[j]?=some (.deferred (some []))) E aM (by have:=ak.size;omega)
  (fun am H B row an U F=>⟨T am H B row an.1 U (ax F),tn U (fun k e=>(F k e).1) oM an.2.1,tn U (fun k e=>(F k e).1) oM an.2.2⟩)
  (fun am H B row ⟨c,aN,q,V⟩ U F=>⟨c,aa c am H B row aN U (ax F),tn U (fun k e=>(F k e).1) oM q,tn U (fun k e=>(F k e).1) oM V⟩)
  ?_ ⟨aL,aJ,aK⟩).mono ?_
 .rintro pre x W ⟨ag,q,V⟩ aO;have hlt:j+1<W.heap.size:=(Array.getElem?_eq_some_iff.1 q).1;have hy:=run_yield (P:=prog) (args:=ai x) q (by rw[J];exact aC x);rw[J]at hy;refine⟨aw,_,assign,body,hy,roundIn_of_wpIn aG (aE _ x W _ ?_)⟩;clear hy;obtain⟨X,ah⟩:=qqe (W.putObj (j+1) (.loop {s .ready none with state:=.busy}));have aP:X.heap[j+1]?=some (.loop {s .ready none with state:=.busy}):=by rw[ah];exact World.putObj_heap_same hlt
  have aQ:X.heap[j]?=some (.deferred (some [])):=by rw[ah];exact(World.putObj_heap_other oM).trans V
  have aj:Kp W X:=by rw[ah];exact a8 _ _ _ q rfl
  have aR:I pre X:=by rw[ah];exact T.putObj _ ag oM q rfl
  refine⟨X,by rw[ah];exact run_beginRound q (by rw[J]),?_⟩;refine wpIn_mono (ar _ pre x X aR aO) ?_;have fin:∀(M:Option Code) (A:World),KeepsFrom j X A->∃O,O=A.putObj (j+1) (.loop (s (if M.isNone then .ready else .done) M))/\(Instr.endRound (j+1) M).run prog A=.ok (.bool M.isNone) O/\
    A.heap[j+1]?=some (.loop {s .ready none with state:=.busy})/\O.heap[j+1]?=some (.loop (s (if M.isNone then .ready else .done) M))/\O.heap[j]?=some (.deferred (some [])):=fun M A G=>by
   have h1:=G.same _ _ oM aP rfl;have h2:=G.same _ _ (qXp _) aQ rfl;have p:=run_endRound (P:=prog) M h1;refine⟨_,rfl,?_,h1,World.putObj_heap_same (Array.getElem?_eq_some_iff.1 h1).1,(World.putObj_heap_other oM).trans h2⟩;rw[J]at p⊢;exact p
  rintro e a3 A ad;cases e with
  |normal=>
   obtain⟨G,Y,Z⟩:=ad;obtain⟨O,rfl,p,h1,a6,a7⟩:=fin none A G;exact⟨_,_,p,.inl ⟨rfl,⟨T.putObj _ Z oM h1 rfl,a6,a7⟩,L (L aj Y) (a8 _ _ _ h1 rfl)⟩⟩
  |ret=>
   obtain⟨G,Y,Z⟩:=ad;obtain⟨O,rfl,p,h1,a6,a7⟩:=fin (some .ret) A G;exact Zcg11
  |exit id=>
   obtain⟨G,Y,Z⟩:=ad;obtain⟨O,rfl,p,h1,a6,a7⟩:=fin (some (.exit id)) A G;exact Zcg11
  |goto t=>
   obtain⟨G,Y,Z⟩:=ad;obtain⟨O,rfl,p,h1,a6,a7⟩:=fin (some (.goto t)) A G;exact Zcg11
  |panic aV=>exact ad.elim
  |outgrown=>exact ad.elim
 .rintro e A ⟨⟨v,rfl⟩,⟨xs,aS,ag,q,V⟩|⟨pre,aT,c,ag,q,V⟩⟩
  .have p:=run_endLoop (P:=prog) q (by rw[J];simp);rw[J]at p;exact⟨none,_,p,au _ xs _ (qXp _) aS (T.putObj _ ag oM q rfl) ((World.putObj_heap_other oM).trans V)⟩
  .have p:=run_endLoop (P:=prog) q (by rw[J];simp);rw[J]at p;exact⟨some c,_,p,av _ c pre _ (qXp _) aT ((aa c).putObj _ ag oM q rfl) ((World.putObj_heap_other oM).trans V)⟩
end
end
end Go.Proofs.YtpejdgiccaijfaaGreatDoor
