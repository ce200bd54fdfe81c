/- A run's write. -/
import Derived.Test.YtbnpkobbnjihjaaGreatDoorG31
set_option maxRecDepth 100000
set_option maxHeartbeats 4000000
namespace Go.Proofs.YtbnpkobbnjihjaaGreatDoor
open Go Go.RowKit Tryz
def fillW(fr fi:Int)(N:Nat):List Bk:=(List.range N).map fun(i:Nat)=>xq (wrap64 (fr+(i:Int))) fi
theorem vQ(fr fi:Int)(N:Nat):(fillW fr fi N).length=N:=by simp[fillW]
theorem Uj(fr fi:Int)(N:Nat):fillW fr fi (N+1)=fillW fr fi N++[xq (wrap64 (fr+(N:Int))) fi]:=by simp[fillW,List.range_succ]
def fillL(fr fi:Int)(N:Nat):List Bk:=(List.range N).map fun(i:Nat)=>xq (fr+(i:Int)) fi
theorem Rr(fr fi:Int)(N:Nat):(fillL fr fi N).length=N:=by simp[fillL]
theorem EK{fr fi:Int}{N:Nat}(h1:0<=fr)(h2:fr+N<=4096):fillW fr fi N=fillL fr fi N:=by
 unfold fillW fillL;refine List.map_congr_left fun i b=>?_;rw[qzs]at b;rw[IntWalk.wrap64_in _ oM]
theorem EL(fr fi:Int)(N:Nat):All64 (fillL fr fi N):=by
 intro x hx;simp only[fillL,qzq]at hx;obtain⟨i,-,rfl⟩:=hx;exact xe _ _
section
variable{own own':Nat->Nat}{w w' W W':World}{r v:Nat}{q:VoP}{n:CaN}{p:CaP}{a a':CaS}{md md':Int}{cl cl':Bool}
theorem tk{d fr fi cd:Int}{N:Nat}{kp:Value}{X:Prop}(h:RunAt own w r v q n p a md cl)(_:kp.oneCell'=true)(ah:N<=64)
  (ai:∀own' W' aj,VolAt own' W' v q n p a md cl->Rz own' W' aj (fillW fr fi N)->Calls prog 78 #[ptr v,.int .i64 fr,.bool (d==2),aj] W' fun e aS=>vv own' W' v q n p a' md' cl' (.int .i64 cd) e aS/\X):
  Calls prog 42 #[ptr r,xI d fr N fi kp] w fun e w'=>yg (Sq v q) own w r v n cd 0 [] a' md' cl' e w'/\X:=by
 obtain⟨ob,G⟩:=qqe (w.heap.size);obtain⟨w1,E⟩:=qqe ((w.alloc (.cells #[.int .i64 d,.int .i64 fr,.int .i64 (N:Int),.int .i64 fi,kp] 25)).alloc (.cells #[.int .i64 0,.int .i64 0,.slice none 0 0] 45));have a8:Upd (fun _=>False) w w1:=by rw[E];exact((uur _ w).alloc _).alloc _
 have ak:w1.heap.size=ob+2:=by rw[E,G];simp
 have am:w1.heap[ob]?=some (.cells #[.int .i64 d,.int .i64 fr,.int .i64 (N:Int),.int .i64 fi,kp] 25 (0,0)):=by rw[E,G];exact(qxk _ _ _ oe).trans (zc w _ rfl)
 have k:Bo own w1 ob #[.int .i64 d,.int .i64 fr,.int .i64 (N:Int),.int .i64 fi,kp] 25:=⟨am,h.vo.ca.far _ oM⟩
 have an:Bo own w1 (ob+1) #[.int .i64 0,.int .i64 0,.slice none 0 0] 45:=⟨by rw[E,G];exact zc _ _ oe,h.vo.ca.far _ oM⟩
 have h1:=h.new a8;have ao:=h.vo.ca.j3 a8;have aa:w1.cell? ⟨ob,2,none⟩=some (.int .i64 (N:Int)):=k.cell 2;have ap:1<ob+1/\0<ob+1:=by have:=h.vo.ca.nib.lt;have:=h.vo.ca.tur.lt;omega
 have aq:w.heap.size<=ob+1:=oM;obtain⟨ar,au,aT⟩:=VT N oM;obtain⟨av,z,aw,ax,ay,az,aA⟩:=yv;have s:=Y5 aw ax ay az aA;have j:=Y9 h1 ao k an ap aq ah au ak;have aU:=qqh ai;have aB:=Y2 E G;clear h h1 ao k an a8 am E G ap aq ai aw ax ay az aA ah au ak;go_enter func42,ntmps42
 go_upto_region 1 with fail
 rw[<-aB.o.1,<-aB.o.2];go_upto_region 2 with fail
 clear aT;obtain⟨aC,K⟩:=qqe (w1.alloc (.cells ar 54));rw[<-K];have ab:Below w1.heap.size w1 aC:=by rw[K];exact(qxl _ w1).alloc (qXp _) _
 have aD:Sl aC 54 64 (.slice (some ⟨w1.heap.size,0,none⟩) 0 N) 0 (rowC (fillW fr fi 0)):=
  ⟨rfl,.inr ⟨w1.heap.size,0,N,ar,rfl,by rw[K];exact zc w1 _ rfl,qXz _,by have:=j.o.2.2.2.2.2.2.1;unfold maxLen;omega,by rw[j.o.2.2.2.2.2.2.2.1];omega,fun bc u aV=>by simp[rowC,fillW]at aV⟩⟩
 have aE:=Y2 ab aD;have aa:=(uuo (S:=fun _=>False) ab).jU aa id;clear ab aD K;go_wp2_with fail
 clear aa;go_loopg[5,12] N (fun gk u i wr=>∃b:Nat,b+gk=N/\i=.int .i64 (b:Int)/\Sl wr 54 64 u b (rowC (fillW fr fi b))/\From w1.heap.size u/\Below w1.heap.size w1 wr)
 case atStart=>exact⟨0,oM,rfl,aE.o.2,fun g ad=>by cases ad;exact qXp _,aE.o.1⟩
 case round=>
  obtain⟨b,bd,rfl,hsl,L,M⟩:=hrel;have F:=uuo (S:=fun _=>False) M;have k:=j.o.2.2.1.keep F id;have aF:wr.cell? ⟨ob,1,none⟩=some (.int .i64 fr):=k.cell 1;by_cases hlt:b<N
  .have aW:wr.cell? ⟨ob,3,none⟩=some (.int .i64 fi):=k.cell 3;have aX:(b:Int)<(N:Int):=oM;have be:=j.o.2.2.2.2.2.2.1;have O:=Y3 hsl L M;obtain⟨aY,aZ,rfl⟩:=hsl.rd.jW;clear hsl L M F k;go_wp2_with fail
   refine(Et _ _ _).mono ?_;rintro e bf ⟨rfl,aG⟩;obtain⟨y,hy⟩:=qqe (xq (wrap64 (fr+(b:Int))) fi);have aH:y.length=64:=by rw[hy];exact xe _ _
   have aI:(bkC y).length=64:=by rw[zn,aH]
   have ae:=uuo (S:=fun _=>False) aG;have b0:=qqh (O.o.1.keep ae (fun _ _ h=>h));have aJ:=qqh (zj O.o.2.2 ae (qXp _) (fun _ h=>h.elim));have Q:=Y3 hy aI (zu y);rw[<-hy];clear aG ae hy aH aI aF aW;go_wp2_with (first
    |(refine yD rfl 43 54 _ rfl 64 de underlying43 ⟨av,z,s.o.1,s.o.2.1,s.o.2.2.1,s.o.2.2.2.1⟩ de (bkC y) rfl Q.o.2.1 ?_)
    |(at_builtin;refine zK rfl _ _ _ rfl av z 64 underlying43 s.o.1 s.o.2.1 s.o.2.2.2.1 s.o.2.2.2.2 s.o.2.2.1 de rfl b0.o (bkC y) oA Q.o.2.1 Q.o.2.2 oh oM ?_;intro bg bh R T U)
    |fail)
   have b1:=Y3 R T U;clear R T U;go_roundg (gk-1)
   case measure=>omega
   case rel=>
    obtain⟨R,T,U⟩:=b1.o;refine⟨b+1,oM,by go_num,?_,U.ge aJ.o.size O.o.2.1,zj aJ.o T (qXp _) O.o.2.1.own⟩;rw[Uj,we,<-Q.o.1];exact R
  .obtain rfl:b=N:=oM;have aX:¬((b:Int)<(b:Int)):=oM;have h2:=j.o.1.new F;have D:=(uur (fun _=>False) wr).drew;have aK:=za h2.g 5;have b2:wr.cell? ⟨ob,0,none⟩=some (.int .i64 d):=k.cell 0;simp at aK;have aL:Rz own wr u5 (fillW fr fi b):=⟨by rw[vQ];exact hsl,fun g ad=>j.o.1.vo.ca.far g (L g ad)⟩
   have b3:=qqh (aU.o _ _ _ (h2.new D).vo (aL.new D));have V:=Y4 (h2.new D) (j.o.1.vo.ca.j3 (F.trans D)) (k.keep D id) ((j.o.2.2.2.1.keep F id).keep D id);obtain⟨aY,aZ,rfl⟩:=hsl.rd.jW;clear hsl L M F k h2 D aL;go_upto_region 7 with fail
   refine qZd (S:=fun W=>W.cell? ⟨r,5,none⟩=some (ptr v)/\W.cell? ⟨ob,1,none⟩=some (.int .i64 fr)/\W.cell? ⟨ob,0,none⟩=some (.int .i64 d)) kR (⟨by rw[qYi];exact aK,by rw[qYi];exact aF,by rw[qYi];exact b2⟩) (fun b4=>?_);refine Wl.i [0,1,2,3,4,5,6,7,8,9] ?_;iterate 10 refine Wl.t b4 ?_
   refine Wl.o ?_;refine Wl.r 10 (fun H A=>?_);go_simp
   refine b3.o.mono ?_;rintro e Y ⟨⟨rfl,b5,aM,J⟩,aN⟩;have Z:=V.o.1.vol aM J.toR;have af:=za Z.g 5;have ag:=V.o.2.2.1.did J;have aO:Y.cell? ⟨ob,1,none⟩=some (.int .i64 fr):=ag.cell 1;have aP:Y.cell? ⟨ob,0,none⟩=some (.int .i64 d):=ag.cell 0;simp at af;have a6:=V.o.2.2.2.did J;have aQ:=vy a6.1;have b6:=qqh (yg.fin (Rq:=Sq v q) (v0:=v) (cd:=cd) (m:=0) Z a6 (w:=w) j.o.2.2.2.2.2.1 j.o.2.2.2.2.1 (j.o.2.1.trans (V.o.2.1.trans J)).toR ⟨rfl,rfl⟩ (Ro.nil _ b5 Y));have a7:=zo Y (ob+1) 0 [.int .i64 cd,.int .i64 0,.slice none 0 0];have b7:=a7.jU af (fun e=>by replace e:r=ob+1:=e;have aR:=Z.g;rw[e,a6.1]at aR;cases aR);have b8:=a7.jU aO (fun e=>by replace e:ob=ob+1:=e;omega);have b9:=a7.jU aP (fun e=>by replace e:ob=ob+1:=e;omega);have ba:=qqh aN;clear Z aM J ag a6 a7 aN;refine A.o _ _ (⟨af,aO,aP⟩) (fun bb=>?_);clear A H;refine Wl.r 11 (fun H A=>?_);go_simp
   refine A.o _ _ (bb) (fun bi=>?_);clear A H;refine Wl.r 12 (fun H A=>?_);rw[if_pos oA];refine qZe _ _ _ rfl _ _ [.int .i64 cd,.int .i64 0,.slice none 0 0].toArray rfl rfl aQ zO (qYo (yA rfl)) ?_;simp only[Act.put,qXd];refine A.o _ _ (⟨b7,b8,b9⟩) (fun bj=>?_);clear A H;refine Wl.d ?_;go_wp2
   exact qYq (zq rfl _ _ (ob+1) 0 [.int .i64 cd,.int .i64 0,.slice none 0 0] _ rfl (qYl _ _ _ _ aQ) underlying45 rfl zO) rfl ⟨b6.o,ba.out⟩
end
end Go.Proofs.YtbnpkobbnjihjaaGreatDoor
