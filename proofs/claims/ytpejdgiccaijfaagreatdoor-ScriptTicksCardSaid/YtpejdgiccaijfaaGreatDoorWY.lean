/- ScriptTicks: a -/
import Derived.Test.YtpejdgiccaijfaaGreatDoorG43
set_option maxRecDepth 100000
set_option maxHeartbeats 4000000
namespace Go.Proofs.YtpejdgiccaijfaaGreatDoor
open Go Go.RowKit Tryz
def CaN.R(n:CaN):Nat:=n.K+n.bl*(n.pa+2)
section
variable{base:Nat}{w W W':World}{n:CaN}{rA vA rB vB:Nat}{qA qB:VoP}{N N':Nat}
theorem Aj{b s j:Nat}{a k A:World}{ownA ownB:Nat->Nat}{G H:CaP}(q:RunAt ownA k rA vA qA (smN b s j) G (attS (smN b s j)) 0 false)(J:Below a.heap.size a k)(Q:∀i,i<a.heap.size->ownA i=0)(T:a.heap.size<=rA)(D:a.heap.size<=vA/\a.heap.size<=qA.lb/\a.heap.size<=qA.mb)
  (v:RunAt ownB A rB vB qB (smN b s j) H (attS (smN b s j)) 0 false) (E:Below k.heap.size k A) (U:∀i,i<k.heap.size->ownB i=0) (V:k.heap.size<=rB) (F:k.heap.size<=vB/\k.heap.size<=qB.lb/\k.heap.size<=qB.mb)
  (X:0<a.heap.size/\1<a.heap.size) (Y:Below w.heap.size w a) (O:w.heap.size<=a.heap.size):TkSt w a.heap.size (smN b s j) rA vA qA rB vB qB 3 A:=by
 have Z:=qqb E;have a6:=J.size;have a7:=E.size;refine⟨ownA,fun i=>a.heap.size<=i/\i<k.heap.size,ownB,fun i=>k.heap.size<=i/\i<A.heap.size,⟨0,false,fun _=>zB⟩,⟨⟨G,_,q.new Z,fun _=>Ve _,de,de⟩,⟨H,_,v,fun _=>Ve _,de,de⟩,⟨fun i p=>?_,⟨T,zd q.g⟩,⟨D.1,zd q.vo.g⟩,⟨D.2.1,zd q.vo.lk.1⟩,⟨D.2.2,q.vo.lk.2.lt⟩⟩,
  ⟨fun i p=>?_,⟨V,zd v.g⟩,⟨F.1,zd v.vo.g⟩,⟨F.2.1,zd v.vo.lk.1⟩,⟨F.2.2,v.vo.lk.2.lt⟩⟩,fun i p a8=>absurd p.2 oM,fun i p=>⟨p.1,oM⟩,fun i p=>⟨oM,p.2⟩,X⟩,(Y.trans (J.mono O)).trans (E.mono oM),O,fun _=>zH⟩
 .exact ⟨Nat.le_of_not_lt fun h=>p (Q i h),Nat.lt_of_not_le fun h=>p (q.vo.ca.far i h)⟩
 .exact ⟨Nat.le_of_not_lt fun h=>p (U i h),Nat.lt_of_not_le fun h=>p (v.vo.ca.far i h)⟩
theorem zbC{k:Nat}(h:TkSt w base n rA vA qA rB vB qB (3+k*n.R) W)(hu:Upd (fun _=>False) W W'):TkSt w base n rA vA qA rB vB qB (3+(k+1)*n.R) W':=by
 obtain⟨ownA,PA,ownB,PB,S,j,p,q,s⟩:=h;have v:(k+1)*n.R=k*n.R+n.R:=Nat.succ_mul _ _;refine⟨ownA,PA,ownB,PB,S,{j.new hu with a:=(j.a.new hu).mono oM,b:=(j.b.new hu).mono oM },zj p hu (qXp _) (fun _ h=>h.elim),q,s⟩
theorem Ak{k:Nat}{l:List O21}(a:n.bl<=12)(j:n.jo<=12)(p:n.pa<=2)(q:l.length<=60)(s:k<l.length):3+k*n.R+n.R+n.R<=40000:=by
 have h1:n.B<=24:=by show 3*n.pa+n.jo+6<=24;omega
 have h2:n.bl*(n.pa+2)<=12*4:=Nat.mul_le_mul a oM;have b:n.R<=430:=by show 12*n.B+n.jo+n.bl*(n.pa+2)+3*n.pa+10+n.bl*(n.pa+2)<=430;omega
 have v:k*n.R<=59*430:=Nat.mul_le_mul oM b;omega
section
variable{ownA ownB oA oB oB2:Nat->Nat}{PA PB PA' PB':Nat->Prop}{S S2:View}{X1 X2 X3 X4 X5 X6:World}{q8 q9 q10 M:Nat}{cs:List Value}{u1 u2:Value}{L:List Bk}{cd:Int}
def zga(w:World)(base:Nat)(n:CaN)(rA vA:Nat)(qA:VoP)(oA:Nat->Nat)(PA:Nat->Prop)(S2:View)(M:Nat)(rB vB:Nat)(qB:VoP)(ownB:Nat->Nat)(PB:Nat->Prop)(S:View)(N:Nat)(X3:World)(q8 q9:Nat)(cs:List Value)(cd:Int)(u1:Value)(L:List Bk):Prop:=
 TwoR base n rA vA qA oA PA S2 M rB vB qB ownB PB S N X3/\Below w.heap.size w X3/\(¬PB q8/\¬PB q9)/\X3.heap[q8]?=some (.cells cs.toArray 30 (0,0))/\X3.heap[q9]?=some (.cells [.int .i64 cd,.int .i64 0,u1].toArray 34 (0,0))/\
  Sl X3 60 64 u1 L.length (rowC L)/\∀g,u1.ownBlock=some g->¬PB g
theorem zbD(b:TwoR base n rA vA qA ownA PA S N rB vB qB ownB PB S N X1)(A:Below w.heap.size w X1)(D:w.heap.size<=base)(k:¬PA q8/\¬PB q8)(p:X1.heap[q8]?=some (.cells cs.toArray 30 (0,0)))(E:xR oA X2 rA vA qA n S2 M)(j:DidR rA vA ownA oA X1 X2)(q:Ro X1 oA X2 u1 L)
  (s:X3=X2.alloc (.cells #[.int .i64 cd,.int .i64 0,u1] 34)) (F:q9=X2.heap.size):zga w base n rA vA qA oA (GrP PA oA X1) S2 M rB vB qB ownB PB S N X3 q8 q9 cs cd u1 L:=by
 have h:=qqu s;have v:=b.step E j;obtain⟨G,J,O⟩:=b.free j k.1 (zd p);refine⟨v.new h,zj (b.below j A D) h (qXp _) (fun _ a=>a.elim),⟨k.2,fun a=>?_⟩,h.j4 (G.trans p),by rw[s,F];exact zc X2 _ rfl,q.1.keep h (fun _ _ a=>a),fun g H a=>?_⟩
 .have h1:=(v.lb _ a).2;omega
 .have h1:=(b.lb _ a).2;have h2:=(q.2 g H).1;omega
def zgb(w:World)(base:Nat)(n:CaN)(rA vA:Nat)(qA:VoP)(oA:Nat->Nat)(PA:Nat->Prop)(S2:View)(M:Nat)(rB vB:Nat)(qB:VoP)(oB:Nat->Nat)(PB:Nat->Prop)(M':Nat)(X5:World)(q9 q10:Nat)(cd:Int)(u1 u2:Value)(L:List Bk):Prop:=
 TwoR base n rA vA qA oA PA S2 M rB vB qB oB PB S2 M' X5/\Below w.heap.size w X5/\(¬PB q9/\¬PB q10)/\X5.heap[q9]?=some (.cells [.int .i64 cd,.int .i64 0,u1].toArray 34 (0,0))/\X5.heap[q10]?=some (.cells [.int .i64 cd,.int .i64 0,u2].toArray 34 (0,0))/\
  (Sl X5 60 64 u1 L.length (rowC L)/\∀g,u1.ownBlock=some g->¬PB g)/\Sl X5 60 64 u2 L.length (rowC L)/\∀g,u2.ownBlock=some g->¬PB g
theorem zbE(a:zga w base n rA vA qA oA PA' S2 M rB vB qB ownB PB S N X3 q8 q9 cs cd u1 L)(A:w.heap.size<=base)(D:xR oB X4 rB vB qB n S2 N')(j:DidR rB vB ownB oB X3 X4)(k:Ro X3 oB X4 u2 L)
  (p:X5=X4.alloc (.cells #[.int .i64 cd,.int .i64 0,u2] 34)) (E:q10=X4.heap.size):zgb w base n rA vA qA oA PA' S2 M rB vB qB oB (GrP PB oB X3) N' X5 q9 q10 cd u1 u2 L:=by
 obtain⟨b,F,⟨-,G⟩,-,q,H,J⟩:=a;have h:=qqu p;have s:=b.swap.step D j;obtain⟨O,P,-⟩:=b.swap.free j G (zd q);obtain⟨Q,T⟩:=b.swap.freeR j H J;refine⟨s.swap.new h,zj (b.swap.below j F A) h (qXp _) (fun _ a=>a.elim),⟨P,fun a=>?_⟩,h.j4 (O.trans q),by rw[p,E];exact zc X4 _ rfl,⟨Q.keep h (fun _ _ a=>a),T⟩,k.1.keep h (fun _ _ a=>a),fun g v a=>?_⟩
 .have h1:=(s.la _ a).2;omega
 .rcases a with a|a
  .have h1:=(b.lb _ a).2;have h2:=(k.2 g v).1;omega
  .exact a.2 (k.2 g v).2
theorem zbF{b:View}{h:Nat}(p:zgb w base n rA vA qA oA PA' S2 M rB vB qB oB PB' N' X5 q9 q10 cd u1 u2 L)(q:w.heap.size<=base)(s:xR oB2 X6 rB vB qB n b h)(d:DidR rB vB oB oB2 X5 X6):
  (TwoR base n rA vA qA oA PA' S2 M rB vB qB oB2 (GrP PB' oB2 X5) b h X6)/\Below w.heap.size w X6/\X6.heap[q9]?=some (.cells [.int .i64 cd,.int .i64 0,u1].toArray 34 (0,0))/\X6.heap[q10]?=some (.cells [.int .i64 cd,.int .i64 0,u2].toArray 34 (0,0))/\
   Sl X6 60 64 u1 L.length (rowC L)/\Sl X6 60 64 u2 L.length (rowC L):=by
 obtain⟨a,v,⟨A,D⟩,j,k,⟨E,F⟩,G,H⟩:=p;exact⟨(a.swap.step s d).swap,a.swap.below d v q,(a.swap.free d A (zd j)).1.trans j,(a.swap.free d D (zd k)).1.trans k,(a.swap.freeR d E F).1,(a.swap.freeR d G H).1⟩
theorem zej{K M1 j:Nat}(h:TwoR base n rA vA qA oA PA' S2 M1 rB vB qB oB2 PB' (doS n S2 7 0 0 0) j X5)(p:Below w.heap.size w X5)(q:w.heap.size<=base)(s:∀i,(S2.v i).length=64)(hu:Upd (fun _=>False) X5 X6)(k:M1<=K/\j<=K):TkSt w base n rA vA qA rB vB qB K X6:=by
 have A:doS n S2 7 0 0 0=S2:=by
  unfold doS;split
  .rfl
  .rfl
 rw[A]at h;exact⟨oA,PA',oB2,PB',S2,{h.new hu with a:=(h.a.new hu).mono k.1,b:=(h.b.new hu).mono k.2},zj p hu (qXp _) (fun _ D=>D.elim),q,s⟩
end
theorem zgc(t0 F G:Int)(l:List O21)(v:Value)(w:World)(hv:Rd w 5 v l.length (zdz l))(ba:zbP l)(D:EG l)(nib:Nib w)(tur:Tur w):
  Calls prog 3 #[Sg t0 F G,v] w fun e c3=>e=.returned (.bool true)/\Below w.heap.size w c3:=by
 obtain⟨m,ay⟩:=qqe (w.heap.size);obtain⟨w1,aj⟩:=qqe (w.alloc (.cells #[.int .i64 t0,.int .i64 F,.int .i64 G] 22));have Q:Below w.heap.size w w1:=by rw[aj];exact(qxl _ w).alloc (qXp _) _
 have bb:w1.heap[m]?=some (.cells [.int .i64 t0,.int .i64 F,.int .i64 G].toArray 22 (0,0)):=by rw[aj,ay];exact zc w _ rfl
 have ak:=zg bb;have az:(prog.info? 22).map (·.size)=some [Value.int .i64 t0,.int .i64 F,.int .i64 G].length:=kR;have aA:=qqh (fun W (s:Below w.heap.size w W)=>zbz W (nib.keep (uuo (S:=fun _=>False) s) id) (tur.keep (uuo (S:=fun _=>False) s) id));have c4:=hv.le;unfold maxLen at c4;have bc:=hv.keep (uuo (S:=fun _=>False) Q) (fun _ _ h=>h);have aB:=qqh (zfy t0 F G v l w1 bc D);have p:=Y7 aj ay Q hv ba nib tur;obtain⟨cB,cC,rfl⟩:=hv.j6;clear aj ay Q bb nib tur hv bc ba D;go_enter func3,ntmps3
 go_upto_region 1 with fail
 rw[<-p.o.1,<-p.o.2.1];go_wp2_with (first
  |(refine qYz rfl _ _ rfl _ _ rfl _ _ ak underlying22 rfl az ?_)
  |fail)
 refine aB.o.mono ?_;rintro e Y ⟨r,rfl,aC,am⟩;have Z:Below w.heap.size w Y:=p.o.2.2.1.trans (am.mono p.o.2.2.1.size);have an:=Below.range am ak;cases r with
 |false=>
  have A:=qqh Z;clear aC am Z ak an aB;go_wp2_with fail
  refine(aA.o Y A.o).mono ?_;rintro e bd ⟨rfl,H⟩;have q:=qqh (A.o.trans (H.mono A.o.size));clear H;go_wp2
  go_ret
  exact⟨rfl,q.o⟩
 |true=>
  obtain⟨c5,⟨c6,c7⟩,⟨c8,c9⟩,⟨cb,cc⟩,be⟩:=aC.1 rfl;obtain⟨k,rfl⟩:∃k:Nat,t0=(k:Int):=⟨t0.toNat,oM⟩
  obtain⟨sl,rfl⟩:∃k:Nat,F=(k:Int):=⟨F.toNat,oM⟩
  obtain⟨ao,rfl⟩:∃k:Nat,G=(k:Int):=⟨G.toNat,oM⟩
  have aD:=fun W (nib:Nib W) (tur:Tur W)=>EY k sl ao oM oM oM oM oM oM W nib tur;obtain⟨n,T⟩:=qqe (smN k sl ao);rw[<-T]at aD;have bf:n.bl<=12/\4<=n.jo/\n.jo<=12/\2<=n.sl/\n.pa<=2:=by rw[T];show k<=12/\4<=ao/\ao<=12/\2<=sl/\(sl-1)/4+1<=2;omega
  have bg:=Y2 T bf;have bh:=qqh aD;have aE:=uuo (S:=fun _=>False) Z;have a6:=qqh (bh.o Y (p.o.2.2.2.2.2.1.keep aE id) (p.o.2.2.2.2.2.2.keep aE id));have A:=Y2 Z be;clear aC am Z ak aB c5 c6 c7 c8 c9 cb cc be aD T bf aE;go_wp2_with (first
   |(refine qYz rfl _ _ rfl _ _ rfl _ _ an underlying22 rfl az ?_)
   |fail)
  refine a6.o.mono ?_;rintro e bd ⟨ownA,rA,vA,qA,cD,rfl,a7,H,bi,bj,bn,-⟩;have bp:=Below.range H an;have bq:=A.o.1.trans (H.mono A.o.1.size);have aF:=uuo (S:=fun _=>False) bq;have a8:=qqh (bh.o bd (p.o.2.2.2.2.2.1.keep aF id) (p.o.2.2.2.2.2.2.keep aF id));have br:=Y5 a7 H bi bj bn;clear a7 H bi bj bn bq aF an a6;go_wp2_with (first
   |(refine qYz rfl _ _ rfl _ _ rfl _ _ bp underlying22 rfl az ?_)
   |fail)
  refine a8.o.mono ?_;rintro e ce ⟨ownB,rB,vB,qB,cE,rfl,aa,bs,bt,bu,bv,-⟩;have bx:Hid (TkSt w Y.heap.size n rA vA qA rB vB qB 3 ce):=by
   obtain⟨a1,a2,a3,a4,a5⟩:=br.o;have h1:=p.o.2.2.2.2.2.1.lt;have h2:=p.o.2.2.2.2.2.2.lt;have ab:=A.o.1.size;have cf:=bg.o.1;subst cf;exact Aj a1 a2 a3 a4 a5 aa bs bt bu bv ⟨oM,oM⟩ A.o.1 ab
  obtain⟨base,bz⟩:=qqe (Y.heap.size);rw[<-bz]at bx;clear aa bs bt bu bv bz bp a8 br;go_wp2_with fail
  go_loopg[7] l.length (fun gk i wr=>∃b:Nat,b+gk=l.length/\i=.int .i64 (b:Int)/\TkSt w base n rA vA qA rB vB qB (3+b*n.R) wr)
  case atStart=>exact⟨0,oM,rfl,by rw[qYa];exact bx.o⟩
  case round=>
   obtain⟨b,ad,rfl,J⟩:=hrel;by_cases hlt:b<l.length
   .have ch:(b:Int)<(l.length:Int):=oM;have cF:(0:Int)<=(b:Int):=oM;obtain⟨ci,cj,cG,e,cl,bA⟩:=p.o.2.2.2.1.at oM;cases e;have hx:=xP (enc:=sS) (m:=5) (fun _=>rfl) bA hlt;have D:=p.o.2.2.2.2.1 _ (qyv hlt);generalize l[b]=o at*;obtain⟨d,ae,af,aG,aH⟩:=o;replace D:aH.oneCell'=true:=D;obtain⟨cs,U⟩:=qqe (sS ⟨d,ae,af,aG,aH⟩);rw[<-U]at hx;have ag:Below w.heap.size w wr:=by obtain⟨_,_,_,_,_,_,s,_⟩:=J;exact s
    have bB:wr.rangeAt ci (cj+b*5) cs:=Below.range ag hx;have aI:cs.length=5:=by rw[U];rfl
    have bC:∀u∈cs,u.oneCell'=true:=by
     rw[U];intro u bD;simp only[sS,qzn,qzz,qYu]at bD;rcases bD with rfl|rfl|rfl|rfl|rfl<;>first|rfl|exact D
    obtain⟨X1,ap⟩:=qqe (wr.alloc (.cells cs.toArray 30));obtain⟨q8,aq⟩:∃ah,ah=wr.heap.size:=⟨_,rfl⟩
    have O:X1.heap[q8]?=some (.cells cs.toArray 30 (0,0)):=by rw[ap,aq];exact zc wr _ rfl
    have co:X1.cell? ⟨q8,0,none⟩=some (.int .i64 d):=by have h:=za O 0;rw[U]at h;exact h
    have bE:=zg O;have bF:(prog.info? 30).map (·.size)=some cs.length:=by rw[aI];exact vJ
    have q:=Y5 aI bF bC U D;have ar:X1.heap.size=q8+1:=by rw[ap,aq];simp
    have V:=Y2 ap aq;have ai:=Y5 J ad hlt O ar;clear J hx bA cl aI bC bF ap aq O D hlt ad ag ar U;go_wp2_with (first
     |(refine qYz rfl 30 _ rfl _ _ rfl _ _ bB underlying30 rfl q.o.2.1 ?_)
     |(refine zk rfl _ _ _ rfl _ _ cs rfl rfl (by rw[q.o.1];rfl) q.o.2.1 q.o.2.2.1 ?_;refine Stop.i ?_)
     |fail)
    rw[<-V.o.1,<-V.o.2];unfold Stop;clear bB;by_cases aJ:d>=11\/d=5\/d=6\/d=8\/d=7
    .have cp:d>=11\/(¬d>=11/\(d==5)=true)\/(¬d>=11/\(d==5)=false/\(d==6)=true)\/(¬d>=11/\(d==5)=false/\(d==6)=false/\(d==8)=true)\/(¬d>=11/\(d==5)=false/\(d==6)=false/\(d==8)=false/\(d==7)=true):=by
      rcases aJ with h|rfl|rfl|rfl|rfl
      .exact .inl h
      .exact .inr (.inl ⟨de,rfl⟩)
      .exact .inr (.inr (.inl ⟨de,rfl,rfl⟩))
      .exact .inr (.inr (.inr (.inl ⟨de,rfl,rfl,rfl⟩)))
      .exact .inr (.inr (.inr (.inr ⟨de,rfl,rfl,rfl,rfl⟩)))
     have cq:Hid (TkSt w base n rA vA qA rB vB qB (3+(b+1)*n.R) X1):=zbC ai.o.1 (by rw[V.o.1];exact(uur _ wr).alloc _);have cH:=ai.o.2.1;have cI:=ai.o.2.2.1;clear aJ;rcases cp with h1|⟨h1,h2⟩|⟨h1,h2,ab⟩|⟨h1,h2,ab,cr⟩|⟨h1,h2,ab,cr,cJ⟩
     all_goals
      go_wp2_with fail
      go_roundg (gk-1)
      case measure=>omega
      case rel=>exact⟨b+1,oM,by go_num,cq.o⟩
    .obtain ⟨J,ad,hlt,O,ar⟩:=ai.o;obtain⟨ownA,PA,ownB,PB,S,au,s,bG,aK⟩:=J;have aL:Upd (fun _=>False) wr X1:=by rw[V.o.1];exact(uur _ wr).alloc _
     have av:=au.new aL;have Q:=zj s aL (qXp _) (fun _ h=>h.elim);have bH:¬PA q8/\¬PB q8:=⟨fun h=>by have h1:=(au.la _ h).2;have h2:=V.o.2;omega,fun h=>by have h1:=(au.lb _ h).2;have h2:=V.o.2;omega⟩
     obtain⟨T,aM,bI,aN,aO,bJ⟩:=bg.o;have bK:n.R=n.K+n.bl*(n.pa+2):=rfl;have aP:=Ak aM aN bJ A.o.2 hlt;obtain⟨N,aQ⟩:=qqe (3+b*n.R);rw[<-aQ]at av aP;obtain⟨cd,bL⟩:=qqe (doCd n S d ae af);obtain⟨L,aR⟩:=qqe (doL n S d ae af);obtain⟨S2,aS⟩:=qqe (doS n S d ae af aG);have aT:∀own W r v ah,xR own W r v ah n S N->Calls prog 11 #[ptr r,.agg cs.toArray] W (TX own W r v ah n S2 (N+n.K) cd L):=fun own W r v ah ct=>by
      rw[q.o.2.2.2.1,bL,aR,aS];exact zhd (d:=d) (fr:=ae) (m:=af) (fi:=aG) (kp:=aH) ct q.o.2.2.2.2 aM bI aN aO oM oM oM oM oM
     have bM:All64 L:=by rw[aR];exact zdM aK _ _ _
     have bN:∀i,(S2.v i).length=64:=by rw[aS];exact zdL aK _ _ _ _
     have cu:=qqh aT;have a6:=qqh (aT _ _ _ _ _ av.a);have cK:¬d>=11:=oM;have cL:(d==5)=false:=by simp;omega
     have cM:(d==6)=false:=by simp;omega
     have cN:(d==8)=false:=by simp;omega
     have cO:(d==7)=false:=by simp;omega
     have j:=Y12 av Q bG bH O bM bN aP aQ ad aO bK;clear aJ ad hlt O ar au s bG aK aL av Q bH T aM bI aN aO bJ aP bK aQ bL aR aS aT bM bN ai aA;go_upto_region 12 with fail
     go_wp2_with (first
      |(refine qYz rfl _ _ rfl _ _ rfl _ _ bE underlying30 rfl q.o.2.1 ?_)
      |fail)
     refine a6.o.mono ?_;rintro e X2 ⟨oA,u1,rfl,a7,bO,aU⟩;obtain⟨aV,c1,aw⟩:=aU.1.rd.j6;obtain⟨q9,aW⟩:∃k,k=X2.heap.size:=⟨_,rfl⟩
     obtain⟨X3,aX⟩:∃aY,aY=X2.alloc (.cells #[.int .i64 cd,.int .i64 0,u1] 34):=⟨_,rfl⟩
     have aZ:=Y2 aX aW;have b0:=qqh aw;have b1:=qqh (zbD j.o.1 j.o.2.1 j.o.2.2.1 j.o.2.2.2.1 j.o.2.2.2.2.1 a7 bO aU aX aW);have bP:X3.rangeAt q8 0 cs:=zg b1.o.2.2.2.1;have a8:=qqh (cu.o _ _ _ _ _ b1.o.1.b);rw[aw]at aZ;rw[aw];clear a7 bO aU aX aW aw bE co a6;go_upto_region 13 with fail
     rw[<-aZ.o.1,<-aZ.o.2];go_wp2_with (first
      |(refine qYz rfl _ _ rfl _ _ rfl _ _ bP underlying30 rfl q.o.2.1 ?_)
      |fail)
     refine a8.o.mono ?_;rintro e X4 ⟨oB,u2,rfl,aa,bQ,b2⟩;obtain⟨b3,c2,ax⟩:=b2.1.rd.j6;obtain⟨q10,b4⟩:∃k,k=X4.heap.size:=⟨_,rfl⟩
     obtain⟨X5,b5⟩:∃aY,aY=X4.alloc (.cells #[.int .i64 cd,.int .i64 0,u2] 34):=⟨_,rfl⟩
     have b6:=Y2 b5 b4;have b7:=qqh ax;have bR:=qqh (zbE b1.o j.o.2.2.1 aa bQ b2 b5 b4);have bS:=qqh (TY (fr:=0) (m:=0) (fi:=0) (kp:=.slice none 0 0) bR.o.1.b rfl j.o.2.2.2.2.2.2.2.2.2.2.1 (by have h1:=j.o.2.2.2.2.2.2.2.1;have h2:=j.o.2.2.2.2.2.2.2.2.2.2.2;omega));rw[ax]at b6;rw[ax];clear aa bQ b2 b5 b4 ax bP a8;go_upto_region 14 with fail
     rw[<-b6.o.1,<-b6.o.2];go_wp2_with fail
     refine bS.o.mono ?_;rintro e X6 ⟨oB2,u3,rfl,bT,bU,-⟩;have E:=qqh (zbF bR.o j.o.2.2.1 bT bU);have bV:X6.rangeAt q9 0 [.int .i64 cd,.int .i64 0,.slice aV L.length c1]:=by rw[<-b0.o];exact zg E.o.2.2.1
     have bW:X6.rangeAt q10 0 [.int .i64 cd,.int .i64 0,.slice b3 L.length c2]:=by rw[<-b7.o];exact zg E.o.2.2.2.1
     clear bT bU bS;go_upto_region 15 with fail
     go_wp2_with (first
      |(refine qYz rfl _ _ rfl _ _ rfl _ _ bV underlying34 rfl zX ?_)
      |(refine qYz rfl _ _ rfl _ _ rfl _ _ bW underlying34 rfl zX ?_)
      |fail)
     refine(Ac X6).mono ?_;rintro e b8 ⟨rfl,bX⟩;have X:=qqb bX;have cv:b8.cell? ⟨q9,2,none⟩=some (.slice aV L.length c1):=by rw[za (X.j4 E.o.2.2.1),<-b0.o];rfl
     have cx:b8.cell? ⟨q10,2,none⟩=some (.slice b3 L.length c2):=by rw[za (X.j4 E.o.2.2.2.1),<-b7.o];rfl
     have bY:=qqh (zbf (w:=b8) (u:=.slice aV L.length c1) (v:=.slice b3 L.length c2) (L:=L) (hu:=by rw[<-b0.o];exact(E.o.2.2.2.2.1.keep X (fun _ _ h=>h)).rd) (hv:=by rw[<-b7.o];exact(E.o.2.2.2.2.2.keep X (fun _ _ h=>h)).rd) j.o.2.2.2.2.2.1);have cy:=qqh X;clear bX X bV bW;go_wp2_with fail
     refine bY.o.mono ?_;rintro e cz ⟨rfl,bZ⟩;have cA:Hid (TkSt w base n rA vA qA rB vB qB (3+(b+1)*n.R) cz):=zej E.o.1 E.o.2.1 j.o.2.2.1 j.o.2.2.2.2.2.2.1 (cy.o.trans bZ) (by have h1:=j.o.2.2.2.2.2.2.2.2.1;have h2:(b+1)*n.R=b*n.R+n.R:=Nat.succ_mul _ _;have ab:=j.o.2.2.2.2.2.2.2.2.2.2.2;omega);have cP:=j.o.2.2.2.2.2.2.2.2.2.1;clear bZ bY cv cx;go_wp2_with fail
     go_roundg (gk-1)
     case measure=>omega
     case rel=>exact⟨b+1,oM,by go_num,cA.out⟩
   .obtain rfl:b=l.length:=oM;have ch:¬((l.length:Int)<(l.length:Int)):=oM;have ag:Below w.heap.size w wr:=by obtain⟨_,_,_,_,_,_,s,_⟩:=J;exact s
    have b9:=qqh ag;clear J ag;go_wp2_with fail
    refine(aA.o wr b9.o).mono ?_;rintro e cQ ⟨rfl,c0⟩;have q:=qqh (b9.o.trans (c0.mono b9.o.size));clear c0;go_wp2
    go_ret
    exact⟨rfl,q.o⟩
end
end Go.Proofs.YtpejdgiccaijfaaGreatDoor
