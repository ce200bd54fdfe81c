/- A cache: Clean -/
import Derived.Test.YtpejdgiccaijfaaGreatDoorG25
import Derived.Test.YtpejdgiccaijfaaGreatDoorG24
set_option maxRecDepth 100000
set_option maxHeartbeats 2000000
namespace Go.Proofs.YtpejdgiccaijfaaGreatDoor
open Go Go.RowKit Tryz
variable{lb M1:Nat}{W w:World}{v:Value}{f m:Int}{own':Nat->Nat}{L:List Nat}
section
section
variable{own:Nat->Nat}{w w':World}{c:Nat}{n:CaN}{p:CaP}{a:CaS}{N:Nat}
theorem Zcg271{P:Prop}(h:P:=by
  refine b.o _ _ (aA.o) (fun _=>?_);clear b K
  try rw[<-O.o.2.2]
  refine Wl.r 11 (fun K b=>?_);rw[if_pos oE];refine qZd _ _ _ rfl _ _ (recC 0 0 0 (q:Int) (A:Int) false (D:Int)).toArray rfl rfl aX.o az (qYo oT) ?_;simp only[Act.put,qXe];rw[<-O.o.2.1];refine b.o _ _ (aW.o) (fun _=>?_);clear b K;refine Wl.d ?_;go_wp2_with fail
  go_meet
  case rel=>exact⟨rfl,rfl⟩):P:=h
theorem zaY(h:CaAt own w c n p a)(b3:a.Fit N)(b4:N<=50000)(b5:a.Tie n none)(k:Int):
  Calls prog 259 #[ptr c,.int .i64 k] w (zt own w c n p (a.kA n k).1 (.int .i64 (a.kA n k).2)):=by
 have ak:=qqh (YE h k);obtain⟨-,-,-,-,U,-,-,-,-⟩:=h.cells;obtain⟨R,H⟩:=qqe (a.kA n k);rw[<-H];unfold CaS.kA at H;have J:=Y4 h b3 b4 b5;clear h b3 b4 b5;obtain⟨br,am⟩:=qqe (getV a.ps k);rw[<-am]at ak H;obtain⟨b6,aa⟩:=qqe (getC a.ps k);rw[<-aa]at ak H;obtain⟨aD,d⟩:=br;replace H:=qqh H;replace am:=qqh am;replace aa:=qqh aa;go_enter func259,ntmps259
 go_wp2_with fail
 refine ak.o.mono ?_;rintro e w1 ⟨rfl,an,h1,b7⟩;obtain⟨aE,ao⟩:=qqe (w1.alloc (.cells #[.int .i64 aD,.bool d] 256));have aF:=qqu ao;have aG:=qqg ao;obtain⟨m,aH⟩:=qqe (w1.heap.size);have b8:an m=0:=h1.far _ oM;rw[<-aH]at aG;have h2:=h1.new aF;have b9:=b7.trans (h1.ko aF);have Q:=Y4 h2 b9 aG b8;have aI:=Y2 aH ao;clear h1 b7 aF aG b8 h2 b9 ak U aH ao;by_cases V:b6=0
 rotate_left
 .have bs:(b6==0)=false:=by simpa using V
  go_wp2
  rw[<-aI.o.2];go_ret
  have j:=H.out;rw[if_pos V]at j;rw[j];exact⟨rfl,an,Q.o.1,Q.o.2.1⟩
 subst V;have j:=H.out;rw[if_neg (fun e=>e rfl)]at j;replace H:=qqh j;clear j;have ab:=qqh (vX Q.o.1 J.o.2.1 J.o.2.2.1);have aJ:=a.j8 n;have Y:=(a.same_roomed n).sums;have aK:(a.j7 n).2=0->(a.j7 n).1.next+1<=(a.j7 n).1.cov+n.jo:=fun e=>CaS.kD e J.o.1.nx1 J.o.1.ok.j1;generalize a.j7 n=r at*;obtain⟨M,ad⟩:=r;simp only at aJ Y aK;have aL:=Y3 aJ Y aK;clear aJ Y aK;replace ab:Hid (Calls prog 243 #[ptr c] aE (zt an aE c n p M (.int .i64 ad))):=ab;go_wp2_with fail
 rw[<-aI.o.2,<-aI.o.1];refine ab.o.mono ?_;rintro e F ⟨rfl,ap,E,Z⟩;by_cases V:ad=0
 rotate_left
 .have bs:(ad==0)=false:=by simpa using V
  have ba:=Y2 E (Q.o.2.1.trans Z);have j:=H.out;replace j:R=if ad≠0 then(M,ad)else _:=j
  rw[if_pos V]at j;clear E Z ab aL;go_wp2
  go_ret
  rw[j];exact⟨rfl,ap,ba.o.1,ba.o.2⟩
 subst V;have j:=H.out;replace j:R=if(0:Int)≠0 then(M,0)else({M.noted n 0 k aD false (((a.sums k).getD 0:Nat):Int)with ps:=cleanL a.ps k},0):=j
 rw[if_neg (fun e=>e rfl)]at j;obtain⟨⟨aq,ae⟩,Y,a6⟩:=aL.o;replace a6:=a6 rfl;obtain⟨q,aM,rfl,aN⟩:=zQ.1 (show getC a.ps k=0 from aa.out.symm);have bb:q<n.bl:=by rw[<-J.o.1.pl];exact aM
 obtain⟨A,bt,bc,-⟩:=TieL.slot J.o.2.2.2 bb aN;have bu:aD=(A:Int):=by
  have:=congrArg Prod.fst am.out;rw[xC aM aN,bc]at this;exact this
 subst bu;obtain⟨D,af⟩:=qqe ((a.sums (q:Int)).getD 0);rw[<-af]at j;have hsl:D<=4294967295:=by
  rw[af];cases hv:a.sums (q:Int)with
  |none=>simp
  |some v=>simpa using J.o.2.1.sm _ _ hv
 have bv:=E.ok.b2;have bx:=E.ok.s2;have ag:mayR (jaddX M.next n.jo 0 (q:Int) (A:Int) false (D:Int))=true:=by
  have bz:=E.nx1;have h1:=J.o.2.1.nx;have h2:=J.o.2.2.1;have ar:=E.ok.j1;exact sL (s:=A) false bz oM oM ⟨oM,oM⟩ oM hsl
 obtain⟨-,-,-,au,-,-,-,-,bA⟩:=E.cells;have aO: -9223372036854775808<=(q:Int):=oM;have aP:(q:Int)<9223372036854775808:=oM;have av:=(Z.upd.block _ (zd Q.o.2.2.1) (fun bB=>bB.1 Q.o.2.2.2)).trans Q.o.2.2.1;have aw:=(uur (fun _=>False) F).drew;have aQ:∀X,Upd (fun _=>False) F X->(Instr.lookup 168 (.map (some p.sm)) (.int .i64 (q:Int)) false).run prog X=.ok (.int .i64 (D:Int)) X:=fun X bC=>by
  rw[af,<-Y];exact(E.new bC).sm.1.look1 aO aP
 obtain⟨G,ax⟩:=qqe ((F.alloc (.cells (recC 0 0 0 0 0 false 0).toArray 307)).drew);have ah:Upd (fun _=>False) F G:=by rw[ax];exact((uur _ F).alloc _).drew
 obtain⟨g,bd⟩:=qqe (F.heap.size);have aR:G.heap[g]?=some (.cells (recC 0 0 0 0 0 false 0).toArray 307 (0,0)):=by rw[ax,bd];exact zc F _ rfl
 have a7:ap g=0:=E.far _ oM;have ar:=E.new ah;have U:=Z.trans (E.ko ah);have aS:G.there g 0 7:=fun aT hj=>by
  rw[za aR,zf aR,qXy];exact⟨by rw[qxe oC];rfl,rfl⟩
 obtain⟨T,ai⟩:=qqe (G.setCells g 0 (recC 0 0 0 (q:Int) (A:Int) false (D:Int)));have aU:=zn G g 0 (recC 0 0 0 (q:Int) (A:Int) false (D:Int));rw[<-ai]at aU;have ay:CaAt ap T c n p M/\Did an ap aE T:=by
  rw[ai];have bP:=E.nib.lt;have bQ:=E.tur.lt;refine⟨ar.ky (zn _ _ _ _) (fun aT e=>by subst e;exact⟨a7,oM,oM⟩),⟨U.upd.new (zn _ _ _ _) (fun i bR e=>?_),U.old,U.new,fun aT hj=>U.far aT (by have:=(zn G g 0 (recC 0 0 0 (q:Int) (A:Int) false (D:Int))).size;omega)⟩⟩;have:=Z.upd.size;omega
 have a8:T.rangeAt g 0 (recC 0 0 0 (q:Int) (A:Int) false (D:Int)):=by rw[ai];exact qYl _ _ _ _ aS
 have be:=underlying307;have az:=infoThR;have bD:¬g=c:=fun e=>by have:=E.clt;omega
 have bf:¬g=m:=fun e=>by have:=zd av;omega
 have c1:=za (aw.j4 av) 0;have c2:=za (ah.j4 av) 0;simp at c1 c2;have bE:=Y8 ay a8 a6 ag j aq ae a7;have aV:Hid (F.drew.cell? ⟨m,0,none⟩=some (.int .i64 (A:Int))/\F.drew.cell? ⟨c,22,none⟩=some (.map (some p.sm))/\(Instr.lookup 168 (.map (some p.sm)) (.int .i64 (q:Int)) false).run prog F.drew=.ok (.int .i64 (D:Int)) F.drew):=⟨c1,(E.new aw).cells.2.2.2.2.2.2.2.2,aQ _ aw⟩
 have aA:Hid (G.cell? ⟨m,0,none⟩=some (.int .i64 (A:Int))/\G.cell? ⟨c,22,none⟩=some (.map (some p.sm))/\(Instr.lookup 168 (.map (some p.sm)) (.int .i64 (q:Int)) false).run prog G=.ok (.int .i64 (D:Int)) G):=⟨c2,ar.cells.2.2.2.2.2.2.2.2,aQ _ ah⟩
 have aW:Hid (T.cell? ⟨m,0,none⟩=some (.int .i64 (A:Int))/\T.cell? ⟨c,22,none⟩=some (.map (some p.sm))/\(Instr.lookup 168 (.map (some p.sm)) (.int .i64 (q:Int)) false).run prog T=.ok (.int .i64 (D:Int)) T):=⟨aU.j3 c2 (fun e=>bf e.symm),ay.1.cells.2.2.2.2.2.2.2.2,by rw[af,<-Y];exact ay.1.sm.1.look1 aO aP⟩
 have O:=Y3 ax ai bd;have aX:=qqh aS;clear E Z av ah aR a7 ar U aS aU ay a8 a6 ag j aq ae Y ax ai bD bf aw aQ af hsl bv bx aO aP c1 c2 au bA aM aN bb bt bc ab aL;go_upto_region 9 with fail
 go_cut [8] (fun bF bG=>bF=.pointer (some ⟨g,0,none⟩)/\bG=T)
 case first=>
  refine qZc (S:=fun W=>W.cell? ⟨m,0,none⟩=some (.int .i64 (A:Int))/\W.cell? ⟨c,22,none⟩=some (.map (some p.sm))/\(Instr.lookup 168 (.map (some p.sm)) (.int .i64 (q:Int)) false).run prog W=.ok (.int .i64 (D:Int)) W) kR (aV.o) (fun aj=>?_);refine Wl.i [0,1,2,3,4,5,6,7,8] ?_;iterate 9 refine Wl.t aj ?_
  refine Wl.o ?_;refine qYx (rs:=[9,10]) kR oe ?_;refine qxb rfl (fun K b=>?_) (qxb rfl (fun K b=>?_) qxc)
  .go_simp
   refine b.o _ _ (aV.o) (fun _=>?_);clear b K;refine Wl.r 10 (fun K b=>?_);go_simp
   rw[<-O.o.2.2,show(F.alloc (.cells #[.int .i64 0,.int .i64 0,.int .i64 0,.int .i64 0,.int .i64 0,.bool false,.int .i64 0] 307)).drew=G from O.o.1.symm];exact Zcg271
  .go_simp
   rw[<-O.o.2.2,show(F.alloc (.cells #[.int .i64 0,.int .i64 0,.int .i64 0,.int .i64 0,.int .i64 0,.bool false,.int .i64 0] 307)).drew=G from O.o.1.symm];refine b.o _ _ (aA.o) (fun _=>?_);clear b K;refine Wl.r 9 (fun K b=>?_);go_simp
   exact Zcg271
 case rest=>
  obtain⟨rfl,rfl⟩:=hcut;obtain⟨⟨aB,bg⟩,a8,a6,ag,j,aq,ae,a7⟩:=bE.o;have aY:=(uur (fun _=>False) wc).drew;have bS:M.next<=50000:=by have h1:=J.o.2.1.nx;have h2:=J.o.2.2.1;omega
  have bh:=qqh (YD (aB.new aY) oM oM 0 0 0 (q:Int) (A:Int) false (D:Int) ag);obtain⟨-,-,-,au,-,-,-,-,-⟩:=aB.cells;have bH:=qqh (Q.o.2.1.trans (bg.trans (aB.ko aY)));clear aB bg aY aV aA aW aX O;go_upto_region 10 with fail
  refine qZc (S:=fun W=>W.cell? ⟨c,17,none⟩=some (ptr p.jr)/\W.rangeAt g 0 (recC 0 0 0 (q:Int) (A:Int) false (D:Int))) kR (by(simp only[qYi,qYk]);exact⟨au,a8⟩) (fun aj=>?_);refine Wl.i [0,1,2,3] ?_;iterate 4 refine Wl.t aj ?_
  refine Wl.o ?_;refine Wl.l 4 (fun w h=>h.2) be az aj ?_;refine Wl.r 5 (fun K b=>?_);go_simp
  refine bh.o.mono ?_;rintro e bi ⟨rfl,bI,aZ,b0⟩;obtain⟨-,-,-,bj,bT,-,-,-,-⟩:=aZ.cells;have bn:=b0.upd.range (show wc.drew.rangeAt g 0 (recC 0 0 0 (q:Int) (A:Int) false (D:Int)) by rw[qYk];exact a8) (fun h=>h.1 a7);have aC:=qqh (Jp aZ (q:Int));have bJ:=qqh (bH.out.trans b0);clear aZ b0 a8 au bh;refine b.o _ _ (⟨bj,bn⟩) (fun b1=>?_);clear b K;refine Wl.i [6,7,8] ?_;iterate 3 refine Wl.t b1 ?_
  refine Wl.o ?_;refine Wl.r 9 (fun K b=>?_);go_simp
  refine b.o _ _ (b1) (fun bp=>?_);clear b K;refine Wl.r 10 (fun K b=>?_);go_simp
  refine b.o _ _ (bp) (fun bK=>?_);clear b K;refine Wl.d ?_;have bq:getC a.ps (q:Int)=0:=aa.out.symm;have bL:=qqh j;replace aC:Hid (Calls prog 323 #[ptr p.ix,.int .i64 (q:Int)] bi (zt bI bi c n p {M.noted n 0 (q:Int) (A:Int) false (D:Int)with ps:=cleanL M.ps (q:Int)} (.int .i64 (getC M.ps (q:Int))))):=aC;rw[ae,bq]at aC;clear aj b1 bp bK j ae bq be az a6 ag aq bn bj a7;go_wp2_with fail
  refine aC.o.mono ?_;rintro e bU ⟨rfl,bM,bN,bO⟩;go_wp2
  go_ret
  rw[bL.o];exact⟨rfl,bM,bN,bJ.o.trans bO⟩
end
open Go Go.RowKit Go.Shelf Tryz
attribute [local go_sem] qYb
section
variable{own:Nat->Nat}{w w':World}{c:Nat}{n:CaN}{p:CaP}{a:CaS}{N:Nat}
abbrev CaN.cells(n:CaN):List Value:=superC n.id n.bl n.sl n.jo n.pa n.lo n.ba
theorem wJ(h:CaAt own w c n p a):Calls prog 57 #[ptr c] w fun e w'=>e=.returned (.agg n.cells.toArray)/\Below w.heap.size w w':=by
 obtain⟨w1,s⟩:=qqe (w.alloc (.cells #[.int .i64 0,.int .i64 0,.int .i64 0,.int .i64 0,.int .i64 0,.int .i64 0,.int .i64 0] 44));have G:=qqu s;have A:=qqg s;have H:Below w.heap.size w w1:=by rw[s];exact(qxl _ w).alloc (qXp _) _
 obtain⟨s0,J,M,O,Q,S,T⟩:=(h.new G).sup;have D:w1.rangeAt c 0 n.cells:=fun E v b=>by
  rw[qXy];rcases E with _|_|_|_|_|_|_|E
  .cases b;exact s0
  .cases b;exact J
  .cases b;exact M
  .cases b;exact O
  .cases b;exact Q
  .cases b;exact S
  .cases b;exact T
  .cases b
 have F:w1.there w.heap.size 0 7:=fun E hj=>by
  rw[za A,zf A,qXy];exact⟨by rw[qxe oC];rfl,rfl⟩
 obtain⟨C,k⟩:=qqe (n.cells);rw[<-k]at D⊢;have U:C.length=7:=by rw[k];rfl
 have j:Hid (w1.rangeAt c 0 C/\(prog.info? 44).map (·.size)=some C.length/\w1.there w.heap.size 0 C.toArray.size/\(prog.info? 44).map (·.size)=some C.toArray.size/\C.toArray.all (·.oneCell')=true/\w1.there w.heap.size 0 C.length/\Below w.heap.size w w1):=by
  refine⟨D,by rw[k];exact xB,(by rw[show C.toArray.size=7 from by rw[k];rfl];exact F),by rw[k];exact xB,qYo (by intro v b;rw[k]at b;simp[CaN.cells]at b;rcases b with rfl|rfl|rfl|rfl|rfl|rfl|rfl<;>rfl),by rw[U];exact F,H⟩
 have V:=qqh s;clear h G A H s0 J M O Q S T D F k U s;go_enter func57,ntmps57
 go_upto_region 3 with fail
 rw[<-V.o];go_wp2_with (first
  |(refine qYz rfl _ _ rfl _ _ rfl C _ j.o.1 underlying44 rfl j.o.2.1 ?_)
  |(refine qZb rfl _ _ _ rfl w.heap.size 0 C.toArray rfl rfl j.o.2.2.1 j.o.2.2.2.1 j.o.2.2.2.2.1 ?_)
  |fail)
 exact qYq (zq rfl _ _ w.heap.size 0 C _ rfl (qYl _ _ _ _ j.o.2.2.2.2.2.1) underlying44 rfl j.o.2.1) rfl ⟨rfl,zj j.o.2.2.2.2.2.2 (zn _ w.heap.size 0 _) (qXp _) (fun Y h=>oM)⟩
theorem Rw(h:CaAt own w c n p a):Calls prog 321 #[ptr c,Ta 0 n.bl] w (YI w a.ps 0 n.bl):=by
 obtain⟨w1,b⟩:=qqe (w.alloc (.cells #[.int .i64 0,.int .i64 (n.bl:Int)] 52));have E:=qqu b;have H:=qqg b;have J:Below w.heap.size w w1:=by rw[b];exact(qxl _ w).alloc (qXp _) _
 have M:=(uur (fun _=>False) w1).drew;obtain⟨ap,aq,O,-,-⟩:=((h.new E).new M).ix;have ad:=h.ok.b1;have ae:=qqh (zaB O 0 n.bl (by rw[h.pl];omega));obtain⟨-,-,-,-,s,-,-,-,-⟩:=(h.new E).cells;have F:=zg H;have j:=qqh J;have af:=qqh b;have ag:=underlying52;have ah:(prog.info? 52).map (·.size)=some 2:=kR;clear h E H J M O ad b;go_enter func321,ntmps321
 go_upto_region 3 with fail
 rw[<-af.o];refine qZc (S:=fun W=>W.cell? ⟨c,18,none⟩=some (ptr p.ix)/\W.rangeAt w.heap.size 0 [.int .i64 0,.int .i64 (n.bl:Int)]) kR (by(simp only[qYi,qYk]);exact⟨s,F⟩) (fun G=>?_);refine Wl.i [0,1,2,3] ?_;iterate 4 refine Wl.t G ?_
 refine Wl.o ?_;refine Wl.l 4 (fun w h=>h.2) ag ah G ?_;refine Wl.r 5 (fun K k=>?_);go_simp
 refine ae.o.mono ?_;rintro e A ⟨ai,aj,g,ak,am,rfl,⟨h1,h2,Q⟩,T,U,V,Y,Z,a6,D⟩;have a7:Below w.heap.size w A:=(j.o.drew).trans (D.mono j.o.size);have a8:A.cell? ⟨c,18,none⟩=some (ptr p.ix):=(D.cell (p:=⟨c,18,none⟩) (zE s).2).trans s;have aa:A.rangeAt w.heap.size 0 [.int .i64 0,.int .i64 (n.bl:Int)]:=(uuo (S:=fun _=>False) D).range (show w1.drew.rangeAt w.heap.size 0 _ by rw[qYk];exact F) id;have an:=qqh (show YI w a.ps 0 n.bl _ A from⟨ai,aj,g,ak,am,rfl,⟨qXr j.o.size h1,qXr j.o.size h2,qXr j.o.size Q⟩,T,U,V,Y,Z,a6,a7⟩);clear h1 h2 Q T U V Y Z a6 D a7;refine k.o _ _ (⟨a8,aa⟩) (fun ab=>?_);clear k K;refine Wl.r 6 (fun K k=>?_);go_simp
 refine k.o _ _ (ab) (fun ao=>?_);clear k K;refine Wl.d ?_;clear G ab ao a8 aa s F;go_wp2
 go_ret
 exact an.o
theorem WO(_hc:True):Calls prog 256 #[ptr c] w fun e w'=>e=.returned (.func (.func 320) #[] #[.pointer (some ⟨w.heap.size,0,none⟩)])/\w'=w.alloc (.cells #[ptr c] 98):=by
 have b:=qqf;go_enter func256,ntmps256
 go_wp2
 go_ret
 exact⟨rfl,rfl⟩
end
attribute [local go_sem] qYb
theorem WP{m m' l:Nat}{args:Array Value}{R:Ending->World->Prop}(b:YieldAt Fence.wide m prog l args W R):YieldAt Fence.wide m' prog l args W R:=by
 obtain⟨h,j,assign,body,hy,k,s⟩:=b;exact⟨h,j,assign,body,hy,k,fun c cs _=>s c cs (fun d A=>by cases A)⟩
theorem Uo{P:Program}{c:Code}{K:Act->World->Prop}{h:Exit->Act->World->Prop}{a:Act}(b:c.wp P (Exit.then K (fun _ _ _=>False)) a w):c.wp P (Exit.then K h) a w:=
 wp_mono b (fun e a w b=>by
  cases e
  case normal=>exact b
  all_goals exact b.elim)
def Rx(lb M1:Nat)(W:World)(j:Nat):Prop:=j=lb\/j=M1\/∃cs z,W.heap[j]?=some (.cells cs 3 z)
def Ew(lb M1:Nat)(W W':World):Prop:=Upd (Rx lb M1 W) W W'
theorem ZZ{S:Nat->Prop}{h B:World}(k:Upd S h B){j:Nat}(s:j<h.heap.size)(A:¬S j)(b:Rx lb M1 B j):Rx lb M1 h j:=by
 rcases b with b|b|⟨cs,z,b⟩
 .exact .inl b
 .exact .inr (.inl b)
 .exact .inr (.inr ⟨cs,z,(k.block j s A).symm.trans b⟩)
theorem Ew.trans{k B C:World}(b:Ew lb M1 k B)(g:Ew lb M1 B C):Ew lb M1 k C:=
 ⟨g.os.trans b.os,g.tape.trans b.tape,g.output.trans b.output,qXr b.size g.size,fun s h j=>by
  have h1:=b.block s h j;refine(g.block s (qXs h b.size) (fun A=>j (ZZ b h j A))).trans h1⟩
theorem Ew.put(W:World)(o:Obj):Ew lb M1 W (W.putObj M1 o):=(xk W M1 o).mono (fun _ _ e=> .inr (.inl e))
def dmI(L:List It9):List Nat:=(L.filter (·.2.2)).map (·.1)
theorem rh(L b:List It9):dmI (L++b)=dmI L++dmI b:=by simp[dmI]
theorem zaZ(L:List It9):(dmI L).length<=L.length:=by
 unfold dmI;rw[qzc];exact List.length_filter_le _ _
theorem Ya(ps:List (Int×Bool)):∀m,m<=ps.length->dmI (visTo ps 0 m)=(List.range m).filter fun s=>(plc ps s).2
 |0,_=>rfl
 |m+1,h=>by
  rw[qXd,List.filter_append,<-Ya ps m oM];have b:m<ps.length:=oM;by_cases k:ps[m]=(-1,false)
  .rw [wS b k];have:(plc ps m).2=false:=by rw[xf b,k]
   rw[List.filter_cons,if_neg (by rw[this];decide),List.filter_nil,qxx]
  .rw [vV b k,rh]
   congr 1
   cases j:ps[m].2 with
   |true=>
    have:(plc ps m).2=true:=by rw[xf b,j]
    rw[List.filter_cons,if_pos this,List.filter_nil];simp[dmI,j]
   |false=>
    have:(plc ps m).2=false:=by rw[xf b,j]
    rw[List.filter_cons,if_neg (by rw[this];decide),List.filter_nil];simp[dmI,j]
theorem zba{ps:List (Int×Bool)}{b:Nat}(h:ps.length=b):dmI (vis (spanL ps 0 b) 0)=dirtL ps:=by
 have e:spanL ps 0 b=ps:=by unfold spanL;rw[qyb,<-h,List.take_length]
 rw[e];exact Ya ps _ (qXp _)
theorem Up{L b:List It9}(h:L<+:b):dmI L<+:dmI b:=by
 obtain⟨t,rfl⟩:=h;rw[rh];exact List.prefix_append _ _
theorem xE(a b c d e f g:Int)(W:World):(Instr.field 44 (.agg #[.int .i64 a,.int .i64 b,.int .i64 c,.int .i64 d,.int .i64 e,.int .i64 f,.int .i64 g]) 1).run prog W=.ok (.int .i64 b) W:=by
 kernel_rfl
theorem tK(a b c d e f g:Int)(W:World):(Instr.field 44 (.agg #[.int .i64 a,.int .i64 b,.int .i64 c,.int .i64 d,.int .i64 e,.int .i64 f,.int .i64 g]) 2).run prog W=.ok (.int .i64 c) W:=by
 kernel_rfl
theorem Ex{own:Nat->Nat}{c:Nat}{n:CaN}{p:CaP}{a:CaS}(h:CaAt own w c n p a)(aq lb M1:Nat)(aM:w.heap[aq]?=some (.cells #[ptr c] 98 (0,0)))(c7:lb<w.heap.size)(_hlc:aq≠lb)(c8:w.heap.size<=M1/\M1<w.heap.size+2)(m:Nat):
  zeW m 320 #[.pointer (some ⟨aq,0,none⟩)] (fun k:Nat=> #[.int .i64 (k:Int)]) (Ew lb M1) (fun aD=>aD=dirtL a.ps) (fun s=>s<+:dirtL a.ps) (vis (spanL a.ps 0 n.bl) 0).length w:=by
 intro l aN b6 W b7 ar Y ab O ai;have c9:=zd aM;have aO:=qqb b7;have b8:=h.new aO;have aP:=aO.j4 aM;have au:=b7.size;obtain⟨w1,av⟩:=qqe (W.alloc (.cells #[.func (.yield l) #[] #[]] 66));have Q:=qqu av;obtain⟨aQ,aR⟩:=qqe (W.heap.size);have b9:w1.heap[aQ]?=some (.cells #[.func (.yield l) #[] #[]] 66 (0,0)):=by rw[av,aR];exact zc W _ rfl
 have aE:=(uur (fun _=>False) w1).drew;have a7:=(b8.new Q).new aE;have ad:=aE.j4 (Q.j4 aP);have ae:=aE.j4 b9;have aS:=za (Q.j4 aP) 0;simp at aS;have af:w1.drew.heap.size=W.heap.size+1:=by rw[av];simp
 have bb:=qqh (show Calls prog 57 #[ptr c] w1.drew fun e w'=>e=.returned (.agg #[.int .i64 n.id,.int .i64 n.bl,.int .i64 n.sl,.int .i64 n.jo,.int .i64 n.pa,.int .i64 n.lo,.int .i64 n.ba])/\Below w1.drew.heap.size w1.drew w' from wJ a7);have cb:=xE (n.id:Int) (n.bl:Int) (n.sl:Int) (n.jo:Int) (n.pa:Int) (n.lo:Int) (n.ba:Int);have hsl:(spanL a.ps 0 n.bl).length<=4096:=by
  have:=h.ok.b2;simp[spanL];omega
 have ag:∀k (a8:k<(spanL a.ps 0 n.bl).length),(spanL a.ps 0 n.bl)[k]=(-1,false)\/0<=(spanL a.ps 0 n.bl)[k].1:=by
  obtain⟨cc,cd,bG,-,-⟩:=h.ix;intro k a8;have e:(spanL a.ps 0 n.bl)[k]=a.ps[k]'(by simp[spanL]at a8;omega):=by simp[spanL]
  rw[e];exact(bG.good.each k _).imp id And.left
 have aj:=h.pl;have bc:=Y13 Y ab O ai a7 ad ae af Q ag aj au ar;have aF:=Y2 av aR;clear ar Y ab O ai b8 aP av Q b9 aE a7 ad ae af aO ag aj aR au;refine callsIn_of_wp_marks func320 rfl trivial ?_ rfl;simp only[ntmps320,qXi,qza,qzd,Nat.reduceAdd,Nat.reduceSub,qxi,qxj,qXc,qxy,qzv,qxz];refine wpIn_wide.2 ?_;go_upto_region 1 with fail
 rw[<-aF.o.1,<-aF.o.2];refine Uo ?_;refine qZc (S:=fun X=>X.cell? ⟨aq,0,none⟩=some (ptr c)) kR (by(simp only[qYi]);exact aS) (fun bd=>?_);refine Wl.i [0,1] ?_;iterate 2 refine Wl.t bd ?_
 refine Wl.o ?_;refine Wl.r 2 (fun K A=>?_);go_simp
 refine bb.o.mono ?_;rintro e bH ⟨rfl,be⟩;obtain⟨Y,ab,O,ai,a7,ad,ae,af,Q,ag,aj,au,ar⟩:=bc.o;have Z:Upd (fun _=>False) w1.drew bH:=uuo be;have bf:=a7.new Z;have aw:=Z.j4 ad;have ak:=Z.j4 ae;have ax:=za aw 0;simp at ax;have am:=qqh (Rw bf);have aG:=Z.size;have bg:=Y5 aw ak af aG Z;clear Y ab O ai a7 ad ae af Q ag aj au ar Z bf aw ak aG be;refine A.o _ _ (ax) (fun bh=>?_);clear A K;refine Wl.i [3] (Wl.t bh (Wl.o ?_));refine Wl.r 4 (fun K A=>?_);go_simp
 refine A.o _ _ (ax) (fun bI=>?_);clear A K;refine Wl.r 5 (fun K A=>?_);go_simp
 refine am.o.mono ?_;rintro e H ⟨bi,aT,g,bJ,bK,rfl,⟨ce,cf,ch⟩,bL,⟨ci,cj,bj⟩,⟨co,cp,T⟩,bn,bM,bp,ay⟩;have bq:=(ay.cell (p:=⟨aq,0,none⟩) (zd bg.o.1)).trans ax;refine A.o _ _ (bq) (fun bN=>?_);clear A K;refine Wl.d ?_;clear bd bh bI bN aS ax bq bb am;go_wp2_with fail
 obtain⟨Y,ab,O,ai,a7,ad,ae,af,Q,ag,aj,au,ar⟩:=bc.o;obtain⟨aw,ak,-,aG,Z⟩:=bg.o;have cq:=ay.size;have ah:=(ay.block _ (zd ak)).trans ak;have cr:=aF.o.2;have br:Upd (fun _=>False) W H:=(Q.trans (uur (fun _=>False) w1).drew).trans (Z.trans (uuo ay));obtain⟨J,aH⟩:∃J:Nat->Prop,J=fun j=>Rx lb M1 H j\/H.heap.size<=j:=⟨_,rfl⟩
 have aU:∀j,H.heap.size<=j->J j:=fun j E=>by rw[aH];exact .inr E
 have aI:∀{j:Nat} {cs:Array Value} {t:TypeId} {z:Nat×Nat},H.heap[j]?=some (.cells cs t z)->t≠3->j≠lb->j≠M1->¬J j:=fun E bO h1 h2 b=>by
  rw[aH]at b;rcases b with(b|b|⟨bP,bQ,b⟩)|b
  .exact h1 b
  .exact h2 b
  .rw [E]at b;cases b;exact bO rfl
  .have:=zd E;omega
 obtain⟨an,bs⟩:=qqe (spanL a.ps 0 n.bl);rw[<-bs]at bn bp ag hsl O;have bR:dmI (vis an 0)=dirtL a.ps:=by rw[bs];exact zba aj
 have bS:¬J g:=aI T de oM oM;have bT:¬J aT:=aI bj de oM oM;have aV:¬J aQ:=aI ah de oM oM;have aW:∀r,H.heap.size<=r->W.heap.size<=r:=fun r U=>oM;have bt:∀{aX:List Nat->World->Prop} {aY:List Nat} {X G:World},OwnFrom W.heap.size aX->aX aY X->Upd (fun _=>False) X G->aX aY G:=fun bU h D=>bU _ _ _ none h ⟨D.os,D.tape,D.output,D.size,fun k a8 _=>D.block k a8 (fun h=>h)⟩ (fun r e=>by cases e);have bV:aN [] H:=bt Y ai br;have bu:∀{X G:World},Upd J H X->Ew lb M1 X G->Upd J X G/\KeepsFrom H.heap.size X G:=fun{X G} D a8=>by
  have bW:∀j,Rx lb M1 X j->J j:=fun j V=>by
   rw[aH];by_cases E:j<H.heap.size
   .by_cases b:J j
    .rw [aH]at b;exact b
    .exact .inl (ZZ D E b V)
   .exact .inr oM
  refine⟨a8.mono (fun j _ V=>bW j V),a8.size,fun k o ct aZ bX=>?_⟩;refine(a8.block k (Array.getElem?_eq_some_iff.1 aZ).1 (fun V=>?_)).trans aZ;rcases V with V|V|⟨bP,bQ,V⟩
  .omega
  .omega
  .rw [aZ]at V;cases V;cases bX
 have bv:=qqh (fun X G=> @bu X G);clear bu;have ao:=Y6 bR aV ah O aW Y;have bY:=qqh ab;clear a7 ad ae af Q aw ak aG Z ay br aI aM h;refine(wpIn_wide (n:=4)).1 ?_
 refine' wpIn_rangeFunc_ownH rfl oM (gf:=229) (lb:= #[.pointer (some ⟨bi,0,none⟩),.pointer (some ⟨aT,0,none⟩)]) rfl trivial (enters_of func229 kR rfl)
  (ZK _ oM J bi aT g bJ bK an 0 H hsl oM ag (zd T) (zd bj) bL bS bT bn bM bp) uy (fun W l o bZ bx=>wL (M:=H.heap.size) aU W l o bZ bx) (qxl _ _) (fun _=>rfl)
  (fun s X=>aN (dmI (s.map (·.1))) X/\Upd J H X)
  (fun b0 s X=>b0=.ret/\b6 (dmI (s.map (·.1))) X/\Upd J H X)
  (fun s X G az b T U=>⟨Y _ X G az b.1 T (fun r e=>⟨aW r (U r e).1,(U r e).2⟩),yJ b.2 T (fun r e=>aU r (U r e).1)⟩)
  (fun b0 s X G az b T U=>⟨b.1,ab _ X G az b.2.1 T (fun r e=>⟨aW r (U r e).1,(U r e).2⟩),yJ b.2.2 T (fun r e=>aU r (U r e).1)⟩)
  ⟨bV,uur _ _⟩
  (fun x a' W=>∃pb,a'=(_:ItM an 0->Nat->Act) x pb/\SU x.1 pb W)
  (fun x a'=>fun aY X G az b T U=>by obtain⟨pb,e,aA⟩:=b;exact⟨pb,e,ZL _ x.1 pb () X G az aA T U⟩)
  ?assign ?body ?done ?stop
 case assign=>
  rintro bz s x X K ⟨E,D⟩ A
  gi_wp2
  have b1:Upd (fun _=>False) X (X.alloc (.cells #[.int .i64 x.1.2.1,.bool x.1.2.2] 256)):=(uur _ _).alloc _;have c0:=World.grownBy_alloc X (.cells #[.int .i64 x.1.2.1,.bool x.1.2.2] 256) none;refine A _ _ (KeepsFrom.of_grownBy c0 (fun j e=>by cases e)) (b1.mono fE) ⟨bt Y E b1,D.trans (b1.mono fE)⟩ ⟨X.heap.size,?_,zc X _ rfl⟩;generalize X.heap.size=pb;exact rfl
 case body=>
  rintro bz s ⟨⟨aJ,bA,c3⟩,hx⟩ a' X bx _ ⟨E,D⟩ ⟨pb,rfl,aA⟩ hlt;obtain⟨-,aV,ah,O,-,-⟩:=ao.o;have c4:=za (show X.heap[pb]?=_ from aA) 1;have b3:=(D.block aQ (zd ah) aV).trans ah;have b4:=za b3 0;simp at c4 b4;rw[aF.o.2]at b4;have ap:=Y2 D E;cases c3 with
  |false=>
   have a6:dmI ((s++[(⟨(aJ,bA,false),hx⟩:ItM an 0)]).map (·.1))=dmI (s.map (·.1)):=by rw[qzh,rh];simp[dmI]
   have aK:=qqh a6;clear a6 O ah b3 b4 aA D E
   gi_wp2
   refine⟨fun _ h=>ki,?_⟩
   gi_wp2
   exact⟨KeepsFrom.refl _ _,uur _ _,by rw[aK.o];exact ap.o.2,ap.o.1⟩
  |true=>
   have a6:dmI ((s++[(⟨(aJ,bA,true),hx⟩:ItM an 0)]).map (·.1))=dmI (s.map (·.1))++[aJ]:=by rw[qzh,rh];simp[dmI]
   have aK:=qqh a6;obtain⟨cu,cv,assign,body,hy,b5⟩:=WP (m':=4-1-1-1) (O _ aJ X E (by have:=zaZ (s.map (·.1));rw[qzc]at this;omega));clear a6 O ah b3 aA D E
   gi_wp2
   refine RoundIn.mono (F:=Fence.wide.inRound bz) (n:=1) b5 ?_;rintro e G (⟨rfl,bB,aB⟩|⟨rfl,bC,aB⟩)
   .have aa:=Y2 bB (bv.o _ _ ap.o.1 aB);clear bB aB b5
    gi_wp2
    exact⟨aa.o.2.2,aa.o.2.1,by rw[aK.o];exact aa.o.1,ap.o.1.trans aa.o.2.1⟩
   .have aa:=Y2 bC (bv.o _ _ ap.o.1 aB);clear bC aB b5
    gi_wp2
    exact⟨aa.o.2.2,rfl,by rw[aK.o];exact aa.o.1,ap.o.1.trans aa.o.2.1⟩
 case done=>
  rintro aC aD X a6 c5 ⟨E,D⟩ A;have c6:dmI (aD.map (·.1))=dirtL a.ps:=by rw[show aD.map (·.1)=vis an 0 from c5];exact ao.o.1
  rw[c6]at E;have aL:aN (dirtL a.ps) (X.putObj aC (.deferred none)):=ao.o.2.2.2.2.2.putObj _ E (ao.o.2.2.2.2.1 aC a6) A rfl;refine⟨oe,.inl ⟨_,_,rfl,run_takeDeferred A,?_⟩⟩;exact⟨_,qYv rfl _ _ _,⟨_,rfl⟩,.inl ⟨_,rfl,aL⟩⟩
 case stop=>
  rintro aC b0 s X a6 bD ⟨rfl,bE,D⟩ A;have aL:b6 (dmI (s.map (·.1))) (X.putObj aC (.deferred none)):=bY.o.putObj _ bE (ao.o.2.2.2.2.1 aC a6) A rfl;have bF:dmI (s.map (·.1))<+:dirtL a.ps:=by rw[<-ao.o.1];exact Up bD
  have am:=Y3 A aL bF;clear A aL bF bE D bD
  gi_wp2
  refine⟨oe,.inl ⟨_,_,rfl,run_takeDeferred am.o.1,?_⟩⟩;exact⟨_,qYv rfl _ _ _,⟨_,rfl⟩,.inr ⟨_,am.o.2.2,am.o.2.1⟩⟩
attribute [local go_sem] qYb
def boxesN(M:Nat)(pre:List Nat)(W:World):Prop:=∃v,Boxed W M 87 v/\W.ownsRow M 3 1 v pre.length (ints (pre.map Int.ofNat))
theorem uH(M:Nat):Own (boxesN M):=by
 rintro k X s A ⟨v,h1,j⟩ b h;exact⟨v,VI h1 b h,ST j b h⟩
theorem sR{w1:World}{v':Value}{k:Nat}{xs:List Value}{b:Obj}(j:W.ownsRow lb 3 1 v k xs)(s:(W.alloc b).grownBy w1 v.ownBlock):Ew lb M1 W (w1.setCell ⟨lb,0,none⟩ v'):=by
 have A:Upd (fun _=>False) W (W.alloc b):=(uur _ W).alloc _;have D:Upd (fun h=>v.ownBlock=some h) (W.alloc b) w1:=Upd.kC s (fun g e _=>e);have E:=zi w1 lb 0 v';refine((A.mono fE).trans (D.mono (S':=Rx lb M1 W) (fun h G e=>?_))).trans (E.mono (fun h _ e=> .inl e));obtain⟨-,⟨rfl,-⟩|⟨g,H,J,rfl,-,F,-⟩⟩:=j
 .cases e
 .cases e;exact .inr (.inr ⟨_,_,F⟩)
def zbb(w:World)(L:List Int)(e:Ending)(w':World):Prop:=∃v,e=.returned v/\Sl w' 3 1 v L.length (ints L)/\From w.heap.size v/\Below w.heap.size w w'
section
variable{own:Nat->Nat}{w:World}{c:Nat}{n:CaN}{p:CaP}{a:CaS}
theorem WQ(h:CaAt own w c n p a):Calls prog 187 #[ptr c] w (zbb w ((dirtL a.ps).map Int.ofNat)):=by
 obtain⟨lb,j⟩:=qqe (w.heap.size);obtain⟨w1,s⟩:=qqe (w.alloc (.cells #[.slice none 0 0] 87));obtain⟨A,D⟩:=qqe (w1.alloc (.cells #[ptr c] 98));have Y:=qqu s;have Q:=qqu D;have Z:w1.heap.size=lb+1:=by rw[s,j];simp
 have ak:A.heap.size=lb+2:=by rw[D];simp;omega
 have a6:Below lb w A:=by rw[j,D,s];exact((qxl _ w).alloc (qXp _) _).alloc oe _
 have h2:=(h.new Y).new Q;have a7:A.heap[lb+1]?=some (.cells #[ptr c] 98 (0,0)):=by rw[D];exact zc w1 _ Z.symm
 have a8:A.heap[lb]?=some (.cells #[.slice none 0 0] 87 (0,0)):=Q.j4 (by rw[s,j];exact zc w _ rfl);have aI:(vis (spanL a.ps 0 n.bl) 0).length<=4096:=by
  have h1:=qc (spanL a.ps 0 n.bl) 0 (spanL a.ps 0 n.bl).length;have aa:=h.ok.b2;have aJ:(spanL a.ps 0 n.bl).length<=n.bl:=by simp[spanL];omega
  exact qXr h1 oM
 have am:=qqh (Ex h2 (lb+1) lb (A.heap.size+1) a7 oM oM oM (4-1));have ab:=qqh (WO (w:=w1) (c:=c) trivial);obtain⟨an,ao,ap,aq,ar⟩:=qYt Tb;have au:boxesN lb [] A:=⟨_,a8,World.ownsRow_nil _ _ _ _⟩
 have k:=Y3 a6 ak j;have S:=Y2 s D;clear h Y Q Z a6 h2 a7 a8 s D;refine(callsIn_wide (n:=4)).1 ?_;refine callsIn_of_wp_marks func187 rfl trivial ?_ rfl;simp only[ntmps187,qXi,qza,qzd,Nat.reduceAdd,Nat.reduceSub,qxi,qxj,qXc,qxy,qzv,qxz];refine wpIn_wide.2 ?_;go_wp2_with fail
 rw[<-S.o.1,<-j];refine ab.o.mono ?_;rintro e av ⟨rfl,ad⟩;rw[<-S.o.2]at ad;subst ad;rw[show w1.heap.size=lb+1 from by rw[S.o.1,j];simp];clear ab j;go_wp2_with fail
 refine(wpIn_wide (n:=4)).1 ?_
 refine' qw (n:=4) (gf:=320) (lb:= #[.pointer (some ⟨lb+1,0,none⟩)]) rfl (enters_of func320 kR rfl)
  am.o (fun h g=>h.trans g) (fun W o aK _ _=>Ew.put W _) (qxl _ _) (fun _=>rfl)
  (fun M X=>boxesN lb M X/\Below lb w X)
  (fun _ _ _=>False)
  (OwnFrom.and (Own.from (uH lb) _) (ownFrom_below (Nat.le_of_eq k.o.2.2) (by have:=k.o.2.1;omega)))
  (fun _ _ _ _ _ aw _ _=>aw)
  ⟨au,k.o.1⟩
  (_:Nat->Act)
  ?assign ?body ?done ?stop
 case assign=>
  rintro ax x X K E
  gi_wp2
  exact E
 case body=>
  rintro ax M x X ⟨⟨v,F,b⟩,G⟩ hlt;have ay:lb<=X.heap.size:=by have h1:=G.size;have h2:=k.o.2.2;omega
  have aL:=F.cell
  gi_wp2_with (gi_at_builtin;refine wpListIn_append_own_at _ rfl _ _ 87 rfl lb 3 an (.int .i64 0) 1 8 underlying87 ao ap aq ar rfl de _ _ _ rfl (b.alloc _) ⟨X.heap.size,0,none⟩ 1 1 [.int .i64 (x:Int)] rfl rfl (cell_one_new _ _ _) oK oj oM og ?_;intro aM aN ae af _ aO;obtain⟨az,aA,rfl⟩:=ownsRow_succ ae;obtain⟨ag,aB,aC,aD,aE⟩:=F.appended de b ay (qXp _) ae af;have aF:=sR (M1:=av.heap.size+1) (v':=.slice (some ⟨az,0,none⟩) (M.length+1) aA) b af;have aP:=ag.cell;have aQ:=ag.frozen)
  exact⟨aD.from _,aF,⟨_,aB,by simpa[ints]using aC⟩,G.trans aE⟩
 case stop=>
  rintro H aR M X _ _ h _;exact h.elim
 case done=>
  rintro H aS X aT rfl ⟨⟨v,F,b⟩,G⟩ E;have hsl:=Sl.of_own b;have T:=xk X H (.deferred none);have ah:Sl (X.putObj H (.deferred none)) 3 1 v (dirtL a.ps).length (ints ((dirtL a.ps).map Int.ofNat)):=hsl.keep T (fun g J e=>by
   obtain⟨-,⟨rfl,-⟩|⟨U,aG,aH,rfl,-,ai,-⟩⟩:=b
   .cases J
   .cases J;replace e:U=H:=e;rw[e,E]at ai;cases ai)
  have aj:From w.heap.size v:=fun g J=>by
   obtain⟨-,⟨rfl,-⟩|⟨U,aG,aH,rfl,V,-,-⟩⟩:=b
   .cases J
   .cases J;have:=k.o.2.2;show w.heap.size<=U;omega
  have V:Below w.heap.size w (X.putObj H (.deferred none)):=by
   have h2:=k.o.2.1;have aa:=k.o.2.2;exact zj (aa▸G) T (qXp _) (fun aU e=>oM)
  have dv:=F.cell;have O:=Y4 E ah aj V;clear hsl T ah aj V E b G F;go_wp2
  refine⟨oe,.inl ⟨_,_,rfl,run_takeDeferred O.o.1,?_⟩⟩;exact⟨_,results_tmp rfl _ _ _,⟨v,rfl,by rw[qzc];exact O.o.2.1,O.o.2.2.1,O.o.2.2.2⟩⟩
end
end
section
def TJ(St:Nat->World->Prop)(Er:Nat->Int->World->Prop)(m:Nat)(e:Ending)(w':World):Prop:=
 (e=.returned (.tuple #[.int .i64 (m:Int),.int .i64 0])/\St m w')\/∃i cd,i<m/\cd≠0/\e=.returned (.tuple #[.int .i64 ((i:Nat):Int),.int .i64 cd])/\Er i cd w'
theorem Zcg27{P:Prop}(h:P:=by
  have E:=(A 0 w (qXz _) D).1;obtain⟨ad,ae,rfl⟩:=(A 0 w (qXz _) D).2.rd.j6;have G:=Y3 A S D;clear A S D;go_enter func257,ntmps257
  go_wp2_with fail
  clear E;go_loopg[10] l.length (fun g i wr=>∃b:Nat,b+g=l.length/\i=.int .i64 (b:Int)/\St b wr)
  case atStart=>exact⟨0,oM,rfl,G.o.2.2⟩
  case round=>
   obtain⟨b,af,rfl,k⟩:=hrel;obtain⟨E,H⟩:=G.o.1 b _ oM k;by_cases hlt:b<l.length
   .have U:=H.rd;obtain⟨g,ag,ah,a6,a7,V⟩:=U.at oM;cases a6;have s:=V b _ (yh (by rw[qzc];exact hlt));rw[qyu]at s;replace s:_=some (Value.int .i64 (l[b]:Int)):=s;have J:=qqh (G.o.2.1 b hlt _ k);generalize (l[b]:Int)=ai at*;have q1:(b:Int)<(l.length:Int):=oM;have M:=qqh hlt;clear H U V k a7 hlt;go_wp2_with fail
    refine J.o.mono ?_;rintro e aj ⟨j,rfl,⟨rfl,Y⟩|⟨O,Z⟩⟩
    .have F:=qqh Y;clear Y J E s;go_wp2
     go_roundg (gk-1)
     case measure=>omega
     case rel=>exact⟨b+1,oM,by go_num,F.o⟩
    .have ak:(j==0)=false:=by simpa using O
     have F:=Y2 O Z;clear O Z J E s;go_wp2
     go_ret2
     exact .inr ⟨b,j,M.o,F.o.1,rfl,F.o.2⟩
   .obtain rfl:b=l.length:=oM;have M:=qqh k;clear H k;go_wp2
    go_ret2
    exact .inl ⟨rfl,M.o⟩):P:=h
theorem Ey{St:Nat->World->Prop}{Er:Nat->Int->World->Prop}(fd:Nat)(x y:Value)(l:List Nat)(v:Value)(lb:Nat)(w:World)(a8:∀Q w,(callFunc fd Q).run prog w=.ok (.enter fd Q) w)(aa:l.length<=4096)
  (A:∀i W,i<=l.length->St i W->W.cell? ⟨lb,0,none⟩=some v/\Sl W 3 1 v l.length (ints (l.map Int.ofNat)))
  (S:∀i (ab:i<l.length) W,St i W->Calls prog fd #[.int .i64 (l[i]:Int),x,y] W fun e T=>∃j,e=.returned (.int .i64 j)/\((j=0/\St (i+1) T)\/(j≠0/\Er i j T)))
  (D:St 0 w):Calls prog 257 #[.func (.func fd) #[] #[x,y],.pointer (some ⟨lb,0,none⟩)] w (TJ St Er l.length):=by
 exact Zcg27
theorem Ez{St:Nat->World->Prop}{Er:Nat->Int->World->Prop}(fd:Nat)(x:Value)(l:List Nat)(v:Value)(lb:Nat)(w:World)(a8:∀Q w,(callFunc fd Q).run prog w=.ok (.enter fd Q) w)(aa:l.length<=4096)
  (A:∀i W,i<=l.length->St i W->W.cell? ⟨lb,0,none⟩=some v/\Sl W 3 1 v l.length (ints (l.map Int.ofNat)))
  (S:∀i (ab:i<l.length) W,St i W->Calls prog fd #[x,.int .i64 (l[i]:Int)] W fun e T=>∃j,e=.returned (.int .i64 j)/\((j=0/\St (i+1) T)\/(j≠0/\Er i j T)))
  (D:St 0 w):Calls prog 257 #[.func (.func fd) #[x] #[],.pointer (some ⟨lb,0,none⟩)] w (TJ St Er l.length):=by
 exact Zcg27
def CaS.back1(n:CaN)(a:CaS)(k:Nat):CaS×Int:=
 if(a.kw n (k:Int)).2.2≠0 then((a.kw n (k:Int)).1,(a.kw n (k:Int)).2.2)
 else((a.kw n (k:Int)).1.kB (writeR (a.kw n (k:Int)).1.bF (a.kw n (k:Int)).1.bO (a.kw n (k:Int)).1.bP k (a.kw n (k:Int)).2.1),(writeR (a.kw n (k:Int)).1.bF (a.kw n (k:Int)).1.bO (a.kw n (k:Int)).1.bP k (a.kw n (k:Int)).2.1).cd)
theorem CaS.backs_cons(n:CaN)(k:Nat)(l:List Nat)(a:CaS):CaS.backs n (k::l) a=if(a.back1 n k).2≠0 then a.back1 n k else CaS.backs n l (a.back1 n k).1:=by
 by_cases h:(a.kw n (k:Int)).2.2=0
 .have e:a.back1 n k=((a.kw n (k:Int)).1.kB (writeR (a.kw n (k:Int)).1.bF (a.kw n (k:Int)).1.bO (a.kw n (k:Int)).1.bP k (a.kw n (k:Int)).2.1),(writeR (a.kw n (k:Int)).1.bF (a.kw n (k:Int)).1.bO (a.kw n (k:Int)).1.bP k (a.kw n (k:Int)).2.1).cd):=by
   unfold CaS.back1;rw[if_neg (fun e=>e h)]
  rw[e];simp only[CaS.backs];rw[if_neg (fun e=>e h)]
 .have e:a.back1 n k=((a.kw n (k:Int)).1,(a.kw n (k:Int)).2.2):=by
   unfold CaS.back1;rw[if_pos h]
  rw[e,if_pos h];simp only[CaS.backs];rw[if_pos h]
theorem EA(n:CaN)(a:CaS)(k:Int):(a.kw n k).1.bF=a.bF/\(a.kw n k).1.bO=a.bO/\(a.kw n k).1.dO=a.dO:=by
 unfold CaS.kw CaS.readS
 repeat' split
 all_goals exact⟨rfl,rfl,rfl⟩
section
variable{own:Nat->Nat}{w w':World}{c:Nat}{n:CaN}{p:CaP}{a:CaS}{N:Nat}
theorem EB(J:CaAt own w c n p a)(Z M:Nat)(c1:w.cell? ⟨Z,0,none⟩=some (ptr c))(c2:w.cell? ⟨M,0,none⟩=some (ptr p.back))(a6:own M=0)(k:Nat)(a7:k<n.bl)(a8:a.bO.length<65536):
  Calls prog 258 #[.int .i64 (k:Int),ptr Z,ptr M] w (zt own w c n p (a.back1 n k).1 (.int .i64 (a.back1 n k).2)):=by
 have O:=qqh (TF J (k:Int));obtain⟨R,h⟩:=qqe (a.back1 n k);rw[<-h];unfold CaS.back1 at h;obtain⟨ao,aa,-⟩:=EA n a (k:Int);have P:(a.kw n (k:Int)).1.bO.length<65536:=by rw[aa];exact a8
 generalize a.kw n (k:Int)=r at*;obtain⟨ap,ax,ay⟩:=r;simp only at O h P;have Q:=Y4 a6 a7 P J.gl;replace h:=qqh h;have ab:=(zE c2).2;have ad:=Y2 c2 ab;clear a6 a7 a8 P ao aa J ab;go_enter func258,ntmps258
 go_wp2_with fail
 refine O.o.mono ?_;rintro e ae ⟨y,j,hy,af,s,rfl,aq,A,S⟩;have ag:=(S.upd.cellAt ad.o.2 (fun ar=>ar.1 Q.o.1)).trans ad.o.1;obtain⟨az,D⟩:=qqe (ae.alloc (.cells (bkC y).toArray 60));have E:=qqu D;have T:=qqg D;obtain⟨gb,U⟩:=qqe (ae.heap.size);rw[<-U]at T;have ah:=zg T;have au:=E.j3 ag id;have ai:=A.gl;have F:=Y2 (A.new E) (S.trans (A.ko E));have G:=Y2 D U;have V:=zu y s;have av:=underlying60;have aj:=qqh (wk F.o.1 k (by rw[ai];exact Q.o.2.1) y s Q.o.2.2.1);have H:=Y2 hy af;clear A S E T D U hy af O ag ai c1;by_cases Y:j=0
 .subst Y;go_wp2_with (first
   |(refine zk rfl _ _ _ rfl _ _ (bkC y) rfl rfl (by rw[zm,s];rfl) V (zx y) ?_;rw[<-G.o.1,<-G.o.2])
   |(refine qYz rfl _ _ rfl _ _ rfl _ _ ah av rfl V ?_)
   |fail)
  refine aj.o.mono ?_;rintro e aA ⟨rfl,aw,ak,am⟩;have an:=Y2 ak (F.o.2.trans am);clear ak am aj ah au;go_wp2
  go_ret
  have b:=h.out;rw[<-H.o.1,<-H.o.2]at b;replace b:R=if(0:Int)≠0 then _ else _:=b
  rw[if_neg (fun e=>e rfl)]at b;rw[b];exact⟨rfl,aw,an.o.1,an.o.2⟩
 .have aB:(j==0)=false:=by simpa using Y
  go_wp2_with (first
   |(refine zk rfl _ _ _ rfl _ _ (bkC y) rfl rfl (by rw[zm,s];rfl) V (zx y) ?_;rw[<-G.o.1,<-G.o.2])
   |fail)
  go_ret
  have b:=h.out;rw[<-H.o.1,<-H.o.2]at b;replace b:R=if j≠0 then(ap,j)else _:=b
  rw[if_pos Y]at b;rw[b];exact⟨rfl,aq,F.o.1,F.o.2⟩
end
section
variable{n:CaN}{a:CaS}{N:Nat}
theorem vI{b:Type}{x:Int}{p q:b}(h:x=0):(if x≠0 then p else q)=q:=if_neg (fun e=>e h)
theorem uf{b:Type}{x:Int}{p q:b}(h:¬x=0):(if x≠0 then p else q)=p:=if_pos h
theorem CaS.backs_snoc(n:CaN)(k:Nat):∀(l:List Nat) (a:CaS),CaS.backs n (l++[k]) a=if(CaS.backs n l a).2≠0 then CaS.backs n l a else(CaS.backs n l a).1.back1 n k
 |[],a=>by
  have e:(if(CaS.backs n [] a).2≠0 then CaS.backs n [] a else(CaS.backs n [] a).1.back1 n k)=a.back1 n k:=vI rfl;rw[e,qzv,CaS.backs_cons];by_cases b:(a.back1 n k).2=0
  .rw [vI b];exact Prod.ext rfl b.symm
  .rw [uf b]
 |x::l,a=>by
  rw[qxz];by_cases b:(a.back1 n x).2=0
  .have e:∀h,CaS.backs n (x::h) a=CaS.backs n h (a.back1 n x).1:=fun h=>by rw[CaS.backs_cons,vI b]
   rw[e,e];exact CaS.backs_snoc n k l _
  .have e:∀h,CaS.backs n (x::h) a=a.back1 n x:=fun h=>by rw[CaS.backs_cons,uf b]
   rw[e,e,uf b]
theorem CaS.backs_err(n:CaN)(h:List Nat):∀(l:List Nat) (a:CaS),(CaS.backs n l a).2≠0->CaS.backs n (l++h) a=CaS.backs n l a
 |[],a,b=>absurd rfl b
 |x::l,a,b=>by
  rw[qxz,CaS.backs_cons,CaS.backs_cons];rw[CaS.backs_cons]at b;by_cases hx:(a.back1 n x).2=0
  .rw [if_neg (fun e=>e hx)]at b;rw[if_neg (fun e=>e hx),if_neg (fun e=>e hx)];exact CaS.backs_err n h l _ b
  .rw [if_pos hx,if_pos hx]
theorem CaS.back1_fit(b:a.Fit N)(k:Nat):(a.back1 n k).1.Fit (N+1)/\(a.back1 n k).1.ps=a.ps/\(a.back1 n k).1.st=a.st/\(a.back1 n k).1.K=a.K/\(a.back1 n k).1.next=a.next:=by
 have h1:(a.kw n (k:Int)).1.Fit N/\(a.kw n (k:Int)).1.ps=a.ps/\(a.kw n (k:Int)).1.st=a.st/\(a.kw n (k:Int)).1.K=a.K/\(a.kw n (k:Int)).1.next=a.next:=by
  unfold CaS.kw CaS.readS
  repeat' split
  all_goals exact⟨{b with},rfl,rfl,rfl,rfl⟩
 unfold CaS.back1;generalize a.kw n (k:Int)=r at*;split
 .exact ⟨h1.1.mono (qXq N),h1.2⟩
 .have h:=wu r.1.bF r.1.bO r.1.bP k r.2.1;have j:=h1.1.bO;exact⟨{h1.1.mono (qXq N)with bO:=by show(writeR r.1.bF r.1.bO r.1.bP k r.2.1).O.length<=N+1;omega},h1.2⟩
theorem CaS.backs_fit:∀(l:List Nat) {a:CaS} {N:Nat},a.Fit N->(CaS.backs n l a).1.Fit (N+l.length)/\(CaS.backs n l a).1.ps=a.ps/\(CaS.backs n l a).1.st=a.st/\(CaS.backs n l a).1.K=a.K/\(CaS.backs n l a).1.next=a.next
 |[],a,N,b=>⟨b,rfl,rfl,rfl,rfl⟩
 |x::l,a,N,b=>by
  obtain⟨h1,h2,h,j,k⟩:=CaS.back1_fit (n:=n) b x;rw[CaS.backs_cons];split
  .exact ⟨h1.mono (by rw[qza];omega),h2,h,j,k⟩
  .obtain ⟨s,A,D,E,F⟩:=CaS.backs_fit l h1;exact⟨s.mono (by rw[qza];omega),A.trans h2,D.trans h,E.trans j,F.trans k⟩
def CaS.clean1(n:CaN)(k:Nat)(m:Nat)(r:CaS):CaS×Nat×Int:=if(r.kA n (k:Int)).2≠0 then((r.kA n (k:Int)).1,m,(r.kA n (k:Int)).2)else((r.kA n (k:Int)).1,m+1,0)
theorem CaS.cleans_snoc(n:CaN)(k:Nat):∀(l:List Nat) (i:Nat) (a:CaS),CaS.cleans n (l++[k]) i a=if(CaS.cleans n l i a).2.2≠0 then CaS.cleans n l i a else CaS.clean1 n k (i+l.length) (CaS.cleans n l i a).1
 |[],i,a=>by
  have e:(if(CaS.cleans n [] i a).2.2≠0 then CaS.cleans n [] i a else CaS.clean1 n k (i+([]:List Nat).length) (CaS.cleans n [] i a).1)=CaS.clean1 n k i a:=vI rfl;rw[e];rfl
 |x::l,i,a=>by
  rw[qxz];by_cases h:(a.kA n (x:Int)).2=0
  .have e:∀b,CaS.cleans n (x::b) i a=CaS.cleans n b (i+1) (a.kA n (x:Int)).1:=fun b=>by simp only[CaS.cleans];exact vI h
   rw[e,e,CaS.cleans_snoc n k l (i+1),qza,show i+1+l.length=i+(l.length+1) by omega]
  .have e:∀b,CaS.cleans n (x::b) i a=((a.kA n (x:Int)).1,i,(a.kA n (x:Int)).2):=fun b=>by simp only[CaS.cleans];exact uf h
   rw[e,e];exact(uf (x:=(a.kA n (x:Int)).2) h).symm
theorem CaS.cleans_err(n:CaN)(h:List Nat):∀(l:List Nat) (i:Nat) (a:CaS),(CaS.cleans n l i a).2.2≠0->CaS.cleans n (l++h) i a=CaS.cleans n l i a
 |[],i,a,b=>absurd rfl b
 |x::l,i,a,b=>by
  rw[qxz];simp only[CaS.cleans]at b⊢;by_cases hx:(a.kA n (x:Int)).2=0
  .rw [if_neg (fun e=>e hx)]at b;rw[if_neg (fun e=>e hx),if_neg (fun e=>e hx)];exact CaS.cleans_err n h l _ _ b
  .rw [if_pos hx,if_pos hx]
theorem CaS.cleans_fit:∀(l:List Nat) (i:Nat) {a:CaS} {N:Nat},a.Fit N->1<=a.next->a.Tie n none->(CaS.cleans n l i a).1.Fit (N+l.length*(n.pa+1))/\1<=(CaS.cleans n l i a).1.next/\(CaS.cleans n l i a).1.Tie n none
 |[],i,a,N,h,h1,b=>⟨h.mono oe,h1,b⟩
 |x::l,i,a,N,h,h1,b=>by
  have j:=h.kA (n:=n) h1 (x:Int);have hx:=qXr h1 (CaS.cleaned_next n a (x:Int));have k:=CaS.Tie.kA b (x:Int);have e:(x::l).length*(n.pa+1)=l.length*(n.pa+1)+(n.pa+1):=by rw[qza,Nat.succ_mul]
  simp only[CaS.cleans];split
  .exact ⟨j.mono oM,hx,k⟩
  .obtain ⟨s,A,D⟩:=CaS.cleans_fit l (i+1) j hx k;exact⟨s.mono oM,A,D⟩
end
theorem Yb{l:List Nat}{i:Nat}(h:i<l.length):l.take (i+1)=l.take i++[l[i]]:=qXl h
section
variable{own:Nat->Nat}{X:World}{c:Nat}{n:CaN}{p:CaP}{a:CaS}{N:Nat}
theorem Did.still(d:Did own own' X W){b:Nat}{o:Obj}(h:X.heap[b]?=some o)(j:own b=0):W.heap[b]?=some o/\own' b=0:=
 ⟨(d.upd.block b (zd h) (fun k=>k.1 j)).trans h,(d.old b (zd h)).trans j⟩
theorem Did.slice(d:Did own own' X W){m:Nat}{xs:List Value}(b:Sl X 3 1 v m xs)(h:∀g,v.ownBlock=some g->own g=0):Sl W 3 1 v m xs:=
 b.keep d.upd (fun g j e=>e.1 (h g j))
structure ListAt(own:Nat->Nat)(X:World)(lb:Nat)(v:Value)(L:List Nat):Prop where
 box:X.heap[lb]?=some (.cells #[v] 87 (0,0))
 bo:own lb=0
 sl:Sl X 3 1 v L.length (ints (L.map Int.ofNat))
 vo:∀g,v.ownBlock=some g->own g=0
theorem ListAt.did(b:ListAt own X lb v L)(d:Did own own' X W):ListAt own' W lb v L where
 box:=(d.still b.box b.bo).1
 bo:=(d.still b.box b.bo).2
 sl:=d.slice b.sl b.vo
 vo:=fun g h=>by
  have j:=b.vo g h;obtain⟨cs,t,z,k⟩:=b.sl.cellsAt h;exact(d.still k j).2
theorem WR(F:CaAt own X c n p a)(Q:a.Fit N)(ae:N+L.length<=50000)(S:∀T∈L,T<n.bl)(U:L.length<=4096){j gb:Nat}(V:X.heap[j]?=some (.cells #[ptr c] 98 (0,0)))(Y:own j=0)
  (Z:X.heap[gb]?=some (.cells #[ptr p.back] 38 (0,0))) (a6:own gb=0) (a7:ListAt own X lb v L):
  Calls prog 257 #[.func (.func 258) #[] #[ptr j,ptr gb],ptr lb] X fun e W=>∃own',CaAt own' W c n p (CaS.backs n L a).1/\Did own own' X W/\
   (((CaS.backs n L a).2=0/\e=.returned (.tuple #[.int .i64 (L.length:Int),.int .i64 0]))\/((CaS.backs n L a).2≠0/\∃i:Nat,e=.returned (.tuple #[.int .i64 (i:Int),.int .i64 (CaS.backs n L a).2]))):=by
 refine(Ey (St:=fun i W=>(CaS.backs n (L.take i) a).2=0/\∃own',CaAt own' W c n p (CaS.backs n (L.take i) a).1/\Did own own' X W)
  (Er:=fun i G W=>G=(CaS.backs n L a).2/\(CaS.backs n L a).2≠0/\∃own',CaAt own' W c n p (CaS.backs n L a).1/\Did own own' X W)
  258 (ptr j) (ptr gb) L v lb X (enters_of func258 kR rfl) U ?_ ?_ ⟨rfl,own,F,Did.refl F.far⟩).mono ?_
 .rintro i W A ⟨-,own',-,d⟩;have:=a7.did d;exact⟨za this.box 0,this.sl⟩
 .rintro i A W ⟨D,own',b,d⟩;obtain⟨a8,af⟩:=d.still V Y;obtain⟨aa,ab⟩:=d.still Z a6;have H:=(CaS.backs_fit (n:=n) (L.take i) Q).1;rw[qzg]at H;have ag:=H.bO;refine(EB b j gb (za a8 0) (za aa 0) ab L[i] (S _ (qyv A)) oM).mono ?_;rintro e ah ⟨rfl,J,M,O⟩;have k:=CaS.backs_snoc n L[i] (L.take i) a;rw[<-Yb A,vI D]at k;refine⟨_,rfl,?_⟩;by_cases s:((CaS.backs n (L.take i) a).1.back1 n L[i]).2=0
  .refine .inl ⟨s,by rw[k];exact s,J,by rw[k];exact M,d.trans O⟩
  .have E:CaS.backs n L a=(CaS.backs n (L.take i) a).1.back1 n L[i]:=by
    have:=CaS.backs_err n (L.drop (i+1)) (L.take (i+1)) a (by rw[k];exact s);rw[qXj]at this;rw[this,k]
   exact .inr ⟨s,by rw[E],by rw[E];exact s,J,by rw[E];exact M,d.trans O⟩
 .rintro e W (⟨rfl,D,own',b,d⟩|⟨i,G,A,ai,rfl,rfl,ad,own',b,d⟩)
  .rw [List.take_length]at D b;exact⟨own',b,d,.inl ⟨D,rfl⟩⟩
  .exact ⟨own',b,d,.inr ⟨ad,i,rfl⟩⟩
theorem ug(D:CaAt own X c n p a)(S:a.Fit N)(a6:N+L.length*(n.pa+1)<=50000)(T:a.Tie n none)(U:L.length<=4096)(V:ListAt own X lb v L):
  Calls prog 257 #[.func (.func 259) #[ptr c] #[],ptr lb] X (zt own X c n p (CaS.cleans n L 0 a).1 (.tuple #[.int .i64 ((CaS.cleans n L 0 a).2.1:Int),.int .i64 (CaS.cleans n L 0 a).2.2])):=by
 refine(Ez (St:=fun i W=>(CaS.cleans n (L.take i) 0 a).2.2=0/\(CaS.cleans n (L.take i) 0 a).2.1=i/\∃own',CaAt own' W c n p (CaS.cleans n (L.take i) 0 a).1/\Did own own' X W)
  (Er:=fun i H W=>H=(CaS.cleans n L 0 a).2.2/\(CaS.cleans n L 0 a).2.1=i/\∃own',CaAt own' W c n p (CaS.cleans n L 0 a).1/\Did own own' X W)
  259 (ptr c) L v lb X (enters_of func259 kR rfl) U ?_ ?_ ⟨rfl,rfl,own,D,Did.refl D.far⟩).mono ?_
 .rintro i W b ⟨-,-,own',-,d⟩;have:=V.did d;exact⟨za this.box 0,this.sl⟩
 .rintro i b W ⟨A,E,own',j,d⟩;obtain⟨J,a7,Y⟩:=CaS.cleans_fit (n:=n) (L.take i) 0 S D.nx1 T;rw[qzg,Nat.min_eq_left (Nat.le_of_lt b)]at J;have a8:i*(n.pa+1)<=L.length*(n.pa+1):=qXv _ (Nat.le_of_lt b);refine(zaY j J oM Y (L[i]:Int)).mono ?_;rintro e aa ⟨rfl,M,O,Q⟩;have F:=CaS.cleans_snoc n L[i] (L.take i) 0 a;rw[<-Yb b,vI A,qzg,Nat.min_eq_left (Nat.le_of_lt b),qXy]at F;refine⟨_,rfl,?_⟩;by_cases s:((CaS.cleans n (L.take i) 0 a).1.kA n (L[i]:Int)).2=0
  .have k:CaS.cleans n (L.take (i+1)) 0 a=(((CaS.cleans n (L.take i) 0 a).1.kA n (L[i]:Int)).1,i+1,0):=by rw[F];exact vI s
   refine .inl ⟨s,by rw[k],by rw[k],M,by rw[k];exact O,d.trans Q⟩
  .have k:CaS.cleans n (L.take (i+1)) 0 a=(((CaS.cleans n (L.take i) 0 a).1.kA n (L[i]:Int)).1,i,((CaS.cleans n (L.take i) 0 a).1.kA n (L[i]:Int)).2):=by rw[F];exact uf s
   have G:CaS.cleans n L 0 a=(((CaS.cleans n (L.take i) 0 a).1.kA n (L[i]:Int)).1,i,((CaS.cleans n (L.take i) 0 a).1.kA n (L[i]:Int)).2):=by
    have:=CaS.cleans_err n (L.drop (i+1)) (L.take (i+1)) 0 a (by rw[k];exact s);rw[qXj]at this;rw[this,k]
   exact .inr ⟨s,by rw[G],by rw[G],M,by rw[G];exact O,d.trans Q⟩
 .rintro e W (⟨rfl,A,E,own',j,d⟩|⟨i,H,b,ab,rfl,rfl,Z,own',j,d⟩)
  .rw [List.take_length]at A E j;exact⟨by rw[E,A],own',j,d⟩
  .exact ⟨by rw[Z],own',j,d⟩
end
structure VoP where
 c:Nat
 li:Nat
 lc:Nat
 lf:Nat
 lb:Nat
 mb:Nat
def Zb(q:VoP)(md:Int)(cl:Bool):List Value:=[ptr q.c,ptr q.li,ptr q.lc,ptr q.lf,ptr q.lb,.int .i64 1,.int .i64 0,.int .i64 2,.int .i64 md,.slice none 0 0,.bool cl]
structure VolAt(own:Nat->Nat)(w:World)(v:Nat)(q:VoP)(n:CaN)(p:CaP)(a:CaS)(md:Int)(cl:Bool):Prop where
 ca:CaAt own w q.c n p a
 g:w.heap[v]?=some (.cells (Zb q md cl).toArray 112 (0,0))
 lk:uC w q.lb q.mb n.bl
 o1:own v=0
 o2:own q.lb=0
 o3:own q.mb=0
structure RunAt(own:Nat->Nat)(w:World)(r v:Nat)(q:VoP)(n:CaN)(p:CaP)(a:CaS)(md:Int)(cl:Bool):Prop where
 vo:VolAt own w v q n p a md cl
 g:w.heap[r]?=some (.cells #[.int .i64 1,.int .i64 0,.int .i64 2,ptr p.ssd,ptr p.back,ptr v] 68 (0,0))
 o:own r=0
section
variable{own own':Nat->Nat}{w w':World}{r v:Nat}{q:VoP}{n:CaN}{p:CaP}{a a':CaS}{md:Int}{cl:Bool}
theorem VolAt.did(b:VolAt own w v q n p a md cl)(h:CaAt own' w' q.c n p a')(d:Did own own' w w'):VolAt own' w' v q n p a' md cl:=
 ⟨h,(d.zero b.g b.o1).1,b.lk.keep d.upd (fun e=>e.1 b.o2) (fun e=>e.1 b.o3),(d.zero b.g b.o1).2,(d.zero b.lk.1 b.o2).2,(d.old _ b.lk.2.lt).trans b.o3⟩
theorem VolAt.new(h:VolAt own w v q n p a md cl)(hu:Upd (fun _=>False) w w'):VolAt own w' v q n p a md cl:=h.did (h.ca.new hu) (h.ca.ko hu)
theorem RunAt.did(b:RunAt own w r v q n p a md cl)(h:CaAt own' w' q.c n p a')(d:Did own own' w w'):RunAt own' w' r v q n p a' md cl:=
 ⟨b.vo.did h d,(d.zero b.g b.o).1,(d.zero b.g b.o).2⟩
theorem RunAt.new(h:RunAt own w r v q n p a md cl)(hu:Upd (fun _=>False) w w'):RunAt own w' r v q n p a md cl:=h.did (h.vo.ca.new hu) (h.vo.ca.ko hu)
def xw(own:Nat->Nat)(w:World)(v:Nat)(q:VoP)(n:CaN)(p:CaP)(a:CaS)(md:Int)(cl:Bool)(u:Value)(e:Ending)(w':World):Prop:=
 e=.returned u/\∃own',VolAt own' w' v q n p a md cl/\Did own own' w w'
end
def CaS.wrN(n:CaN)(md fr:Int)(xs:List Bk)(a:CaS):Nat->CaS
 |0=>a
 |k+1=>((CaS.wrN n md fr xs a k).kG n (fr+k) (xs.getD k zB) md).1
def CaS.rdN(n:CaN)(fr:Int)(a:CaS):Nat->CaS
 |0=>a
 |k+1=>((CaS.rdN n fr a k).kw n (fr+k)).1
def CaS.rdC(n:CaN)(fr:Int)(a:CaS)(k:Nat):Bk×Int:=((CaS.rdN n fr a k).kw n (fr+k)).2
section
variable{own:Nat->Nat}{w w':World}{v:Nat}{q:VoP}{n:CaN}{p:CaP}{a:CaS}{md:Int}{cl:Bool}
theorem yp(h:VolAt own w v q n p a md false):Calls prog 99 #[ptr v] w fun e w'=>e=.returned (.int .i64 0)/\w'=w:=by
 have c:=za h.g 10;simp[Zb]at c;clear h;go_enter func99,ntmps99
 go_wp2
 go_ret
 exact⟨rfl,rfl⟩
theorem zbc(h:VolAt own w v q n p a md cl)(F:inS n.bl f m):Calls prog 100 #[ptr v,sI f m] w fun e w'=>e=.returned (.bool true)/\Below w.heap.size w w':=by
 obtain⟨w1,b⟩:=qqe (w.alloc (.cells #[.int .i64 f,.int .i64 m] 52));have j:=qqu b;have D:=qqg b;have h1:=h.new j;have c:=za h1.g 0;simp[Zb]at c;have G:=qqh (wJ h1.ca);obtain⟨H,J,M,O⟩:=F;have Q:=h.ca.ok.b2;have q1:f>=0:=oM;have q2:m>=1:=oM;have V:f<=(n.bl:Int):=oM;have Y:IntKind.i64.wrap ((n.bl:Int)-f)=(n.bl:Int)-f:=qxu _ oM;have Z:m<=(n.bl:Int)-f:=oM;have a6:=xE (n.id:Int) (n.bl:Int) (n.sl:Int) (n.jo:Int) (n.pa:Int) (n.lo:Int) (n.ba:Int);have k:=Y3 b j D;clear h b j D h1 Q H J M O;go_enter func100,ntmps100
 go_upto_region 1 with fail
 rw[<-k.o.1];go_wp2_with fail
 refine G.o.mono ?_;rintro e a7 ⟨rfl,E⟩;have s:=qqb E;have A:=s.j4 k.o.2.2;have S:=za A 0;have T:=za A 1;simp at S T;have U:=qqh (k.o.2.1.trans s);clear E s A c;go_wp2
 go_ret
 exact⟨rfl,U.o.below⟩
theorem WS(h:VolAt own w v q n p a md cl){cd:Int}(F:∀W,uC W q.lb q.mb n.bl->Calls prog 175 #[ptr q.lb,sI f m] W fun e w'=>e=.returned (.int .i64 cd)/\Below W.heap.size W w'):
  Calls prog 105 #[ptr v,sI f m] w fun e w'=>e=.returned (.int .i64 cd)/\Below w.heap.size w w':=by
 obtain⟨G,s⟩:=qqe (w.heap.size);obtain⟨w1,j⟩:=qqe (w.alloc (.cells #[.int .i64 f,.int .i64 m] 52));have A:=qqu j;have H:w1.heap[G]?=some (.cells #[.int .i64 f,.int .i64 m] 52 (0,0)):=by rw[j,s];exact zc w _ rfl
 have h1:=h.new A;have D:=za h1.g 4;simp[Zb]at D;have J:=zg H;have O:=qqh (F _ (h1.new ((uur _ w1).drew)).lk);have E:=Y3 j A s;have Q:=underlying52;have T:=yz;clear h j A H h1 s F;go_enter func105,ntmps105
 go_upto_region 1 with fail
 rw[<-E.o.1,<-E.o.2.2];refine qZc (S:=fun W=>W.cell? ⟨v,4,none⟩=some (ptr q.lb)/\W.rangeAt G 0 [.int .i64 f,.int .i64 m]) kR (⟨by rw[qYi];exact D,by rw[qYk];exact J⟩) (fun M=>?_);refine Wl.i [0,1,2,3] ?_;iterate 4 refine Wl.t M ?_
 refine Wl.o ?_;refine Wl.l 4 (fun w h=>h.2) Q T M ?_;refine Wl.r 5 (fun K b=>?_);go_simp
 refine O.o.mono ?_;rintro e Z ⟨rfl,k⟩;have U:=qqh (E.o.2.1.drew.trans (uuo (S:=fun _=>False) k));have c2:=(uuo (S:=fun _=>False) k).j3 D id;have V:=(uuo (S:=fun _=>False) k).range J id;clear k;refine b.o _ _ (⟨c2,V⟩) (fun Y=>?_);clear b K;refine Wl.r 6 (fun K b=>?_);go_simp
 refine b.o _ _ (Y) (fun a6=>?_);clear b K;refine Wl.d ?_;go_wp2
 go_ret
 exact⟨rfl,U.o.below⟩
theorem TK(b:VolAt own w v q n p a md cl)(h:inS n.bl f m):Calls prog 105 #[ptr v,sI f m] w fun e w'=>e=.returned (.int .i64 0)/\Below w.heap.size w w':=
 WS b fun _ j=>zaD j b.ca.ok.b2 h
theorem Ry(b:VolAt own w v q n p a md cl)(k:Int):Calls prog 103 #[ptr v,.int .i64 k] w fun e w'=>e=.returned (.bool false)/\Below w.heap.size w w':=by
 have c:=za b.g 4;simp[Zb]at c;have j:=qqh (Rh b.lk k);clear b;go_enter func103,ntmps103
 go_wp2_with fail
 refine j.o.mono ?_;rintro e A ⟨rfl,h⟩;have s:=qqh h;clear h c;go_wp2
 go_ret
 exact⟨rfl,s.o⟩
theorem YV{g N:Nat}(fd:Nat)(fi ca:Array Value)(St:Nat->World->Prop)(b:0<=f/\f+N<=4096)(Y:∀H w,(callFunc fd H).run prog w=.ok (.enter fd H) w)
  (s:∀k W,St k W->W.cell? ⟨w.heap.size,0,none⟩=some (.int .i64 f))
  (J:∀k,k<N->∀W,St k W->Calls prog fd (fi++ #[.int .i64 (f+(k:Int))]++ca) W fun e T=>e=.returned (.int .i64 0)/\St (k+1) T)
  (F:St 0 (w.alloc (.cells #[.int .i64 f,.int .i64 (N:Int)] 52))):Calls prog 101 #[ptr g,sI f N,.func (.func fd) fi ca] w fun e w'=>e=.returned (.int .i64 0)/\St N w':=by
 obtain⟨m,A⟩:=qqe (w.heap.size);obtain⟨w1,D⟩:=qqe (w.alloc (.cells #[.int .i64 f,.int .i64 (N:Int)] 52));have M:w1.heap[m]?=some (.cells #[.int .i64 f,.int .i64 (N:Int)] 52 (0,0)):=by rw[D,A];exact zc w _ rfl
 have c1:w1.cell? ⟨m,1,none⟩=some (.int .i64 (N:Int)):=za M 1;rw[<-D]at F;rw[<-A]at s;have E:=Y4 s J F b;have O:=Y2 D A;clear s J F D A M b;go_enter func101,ntmps101
 go_upto_region 1 with fail
 rw[<-O.o.1,<-O.o.2];go_wp2_with fail
 clear c1;go_loopg[11] N (fun gk i wr=>∃k:Nat,k+gk=N/\i=.int .i64 (k:Int)/\St k wr)
 case atStart=>exact⟨0,oM,rfl,E.o.2.2.1⟩
 case round=>
  obtain⟨k,s,rfl,j⟩:=hrel;by_cases hlt:k<N
  .have U:(k:Int)<(N:Int):=oM;have b:=E.o.2.2.2;have V:=E.o.1 k wr j;have Z:f+(k:Int)+1<=4096:=oM;have a6:0<=f:=b.1;have Q:=qqh (E.o.2.1 k hlt wr j);clear j b;go_wp2_with fail
   refine Q.o.mono ?_;rintro e a7 ⟨rfl,S⟩;have G:=qqh S;clear S Q V;go_wp2_with fail
   go_roundg (gk-1)
   case measure=>omega
   case rel=>exact⟨k+1,oM,by go_num,G.o⟩
  .obtain rfl:k=N:=oM;have U:¬((k:Int)<(k:Int)):=oM;have G:=qqh j;clear j;go_wp2_with fail
   try rw[qxr]
   go_ret
   exact⟨rfl,G.o⟩
end
end
end Go.Proofs.YtpejdgiccaijfaaGreatDoor
