/- The chapter's -/
import Derived.Test.YtpejdgiccaijfaaGreatDoorG38
import Derived.Test.YtpejdgiccaijfaaGreatDoorG39
set_option maxRecDepth 100000
set_option maxHeartbeats 1000000
namespace Go.Proofs.YtpejdgiccaijfaaGreatDoor
open Go Go.RowKit Tryz
variable{w:World}{own:Nat->Nat}{F:List Bk}
theorem EW{n:CaN}{wh sq:Nat}{G:List Bk}{O Q:List (Nat×Bk)}:((caS0 n wh sq F O [] G Q []).ckpt n).1.Tie n none:=CaS.Tie.ckpt (ub n.bl n.sl)
theorem EX{n:CaN}{wh sq:Nat}{G:List Bk}:((caS0 n wh sq F [] [] G [] []).ckpt n).1.Fit (sq+3+n.pa):=
 CaS.Fit.ckpt (N:=sq+3) ⟨fun k v h=>ki,fun q h=>ki,by show sq+1<=_;omega,qXz _,qXz _,qXz _,qXz _,qXz _⟩
theorem zfJ:inS n21.bl 2 (1:Nat):=⟨de,de,de,de⟩
theorem zbx:fillW 2 5 1=[uK]:=kR
theorem zdK(a:CaS):CaS.wrN n21 0 2 (fillW 2 5 1) a 1=(a.kG n21 2 uK 0).1:=by rw[zbx];rfl
theorem wrIv21{a:CaS}{M:Nat}(D:a.Tie n21 none)(H:M<=1000)(h:(a.kG n21 2 uK 0).2=0):zbl n21 0 2 (fillW 2 5 1) (fun b j=>j=CaS.wrN n21 0 2 (fillW 2 5 1) a b/\j.Fit (M+b*17)):=fun b j k E G h1=>by
 rw[zbx]at*;obtain rfl:b=0:=by simp at k;exact k
 obtain⟨rfl,s⟩:=E;exact⟨⟨_,D,s,by show M+0*17+3*1+8+6<=_;omega⟩,h,rfl,by have A:=s.kG G h1 de 2 uK 0;rw[show M+0*17+3*n21.pa+n21.jo+6=M+(0+1)*17 from by show M+0*17+3*1+8+6=_;omega]at A;exact A⟩
theorem Za{W:World}{v:Nat}{q:VoP}{p:CaP}{a:CaS}{j:Value}{M:Nat}{b:Bool}(k:VolAt own W v q n21 p a 0 false)(s:Rz own W j (fillW 2 5 1))(A:a.Tie n21 none)(D:a.Fit M)(E:M<=1000)(G:(a.kG n21 2 uK 0).2=0)(H:b=true->((a.kG n21 2 uK 0).1.j9 n21).2=0):
  Calls prog 64 #[ptr v,.int .i64 2,.bool b,j] W fun e W'=>xw own W v q n21 p (CaS.wrF n21 0 2 (fillW 2 5 1) a b) 0 false (.int .i64 0) e W'/\True:=
 (WV k (by rw[ui];exact zfJ) (by rw[zbx];intro x hx;simp at hx;rw[hx];rfl) s (wrIv21 A E G) ⟨rfl,by rw[qYa];exact D⟩ (fun O J _ _=>by
  obtain⟨rfl,h⟩:=J;refine⟨⟨_,h,?_⟩,fun h=>?_⟩
  .rw [zbx];show M+1*17<=_;omega
  .rw [ui,zdK];exact H h)).mono fun e W' N=>⟨N.1,trivial⟩
theorem zhe(a:CaS)(h:(a.kw n21 2).2.2=0):∀b,b<1->(CaS.rdC n21 2 a b).2=0:=fun b j=>by
 obtain rfl:b=0:=oM;exact h
theorem zhf(a:CaS)(y:Bk)(h:(a.kw n21 2).2.1=y):CaS.rdL n21 2 a 1=[y]:=by rw[<-h];rfl
theorem zbS:(x211.kw n21 2).1.dF=x211.dF/\(x211.kw n21 2).1.bF=x211.bF:=⟨kR,kR⟩
theorem zfK:(x212.kw n21 2).1=x212:=kR
theorem zfL:x211.bF.length=9/\x214.bF.length=9:=⟨kR,kR⟩
theorem zfM{x y:Nat}(b:Dvs own w x y x211.dF [] x211.bF [] []):Calls prog 55 #[ptr x,ptr y] w (tJ own w x y n21 x212):=qL b zfH zfL.1
theorem zfN{x y:Nat}(b:Dvs own w x y x214.dF [] x214.bF [] []):Calls prog 55 #[ptr x,ptr y] w (tJ own w x y n21 x215):=
 (Va b zfI zfL.2).mono fun e k ⟨L,wh,s,⟨h1,h2,h⟩,j⟩=>by
  subst h1;subst h2;subst h;exact j
theorem Uz{m:Int}{u:Value}{y:Bk}(hu:Rd w 64 u 1 (rowC [y]))(hy:y.length=64)(h1:u.oneCell'=true):Calls prog 22 #[.agg #[.int .i64 0,.int .i64 m,u],.agg (bkC y).toArray] w fun e V=>e=.returned (.bool true)/\Below w.heap.size w V:=by
 obtain⟨j,D⟩:=qqe (w.heap.size);obtain⟨w1,s⟩:=qqe ((w.alloc (.cells #[.int .i64 0,.int .i64 m,u] 34)).alloc (.cells (bkC y).toArray 60));have E:Upd (fun _=>False) w w1:=by rw[s];exact((uur _ w).alloc _).alloc _
 have G:w1.heap[j]?=some (.cells #[.int .i64 0,.int .i64 m,u] 34 (0,0)):=by rw[s,D];exact(qxk _ _ _ oe).trans (zc w _ rfl)
 have N:w1.heap[j+1]?=some (.cells (bkC y).toArray 60 (0,0)):=by rw[s,D];exact zc _ _ oe
 obtain⟨g,o,c,O,H⟩:=TL (L:=[y]) (hu.keep E (fun _ _ h=>h)) (fun x hx=>by simp at hx;rw[hx];exact hy) (k:=0) oe;have X:u=.slice (some ⟨g,o,none⟩) 1 c:=O;subst X;replace H:w1.rangeAt g o (bkC y):=by
  have h2:=H;rw[qYa,qXn]at h2;exact h2
 have Y:=zg N;have Z:w1.cell? ⟨j,0,none⟩=some (.int .i64 0):=za G 0;have c2:w1.cell? ⟨j,2,none⟩=some (.slice (some ⟨g,o,none⟩) 1 c):=za G 2;have a7:∀W:World,(binOp .eql 60 (.agg (bkC y).toArray) (.agg (bkC y).toArray)).run prog W=.ok (.bool true) W:=fun W=>by rw[Vp y y hy hy];simp
 have Q:=zu y hy;have T:=underlying60;have J:=Y3 s D E;clear s D E G N hu O;go_enter func22,ntmps22
 go_upto_region 1 with fail
 rw[<-J.o.1,<-J.o.2.1];refine qZc (S:=fun W=>W.cell? ⟨j,0,none⟩=some (.int .i64 0)/\W.cell? ⟨j,2,none⟩=some (.slice (some ⟨g,o,none⟩) 1 c)/\W.rangeAt g o (bkC y)/\W.rangeAt (j+1) 0 (bkC y)) kR (⟨by rw[qYi];exact Z,by rw[qYi];exact c2,by rw[qYk];exact H,by rw[qYk];exact Y⟩) (fun U=>?_);refine Wl.i [0,1,2,3,4,5,6,7] ?_;iterate 8 refine Wl.t U ?_
 refine Wl.o ?_;refine Wl.r 8 (fun K b=>?_);go_simp
 refine b.o _ _ (U) (fun A=>?_);clear b K;refine Wl.i [9,10,11,12] ?_;iterate 4 refine Wl.t A ?_
 refine Wl.o ?_;refine Wl.l 13 (fun w h=>h.2.2.1) T Q A ?_;refine Wl.l 14 (fun w h=>h.2.2.2) T Q A ?_;refine Wl.i [15] (Wl.t A (Wl.o ?_));refine Wl.r 16 (fun K b=>?_);go_simp
 refine b.o _ _ (A) (fun a6=>?_);clear b K;refine Wl.r 17 (fun K b=>?_);go_simp
 refine b.o _ _ (a6) (fun a8=>?_);clear b K;refine Wl.d ?_;go_wp2
 go_ret
 exact⟨rfl,J.o.2.2.drew.below⟩
theorem ql{b:Array Oper}{rest:List Oper}{op:Oper}{x:Act}{Q:Exit->Act->World->Prop}(h:op.guard=none)(p q:Operand)(j:op.op=.build 48 #[(0,p),(1,q)])
  (n:CaN) (k:x.eval p=.agg n.C.toArray) (s:x.eval q=.agg polC.toArray) (L:Array Value) (A:L=(n.C++polC).toArray)
  (D:wpList prog b Q rest (x.put op.dst (.agg L)) w):wpList prog b Q (op::rest) x w:=by
 refine qZa h fun G E=>?_;unfold Oper.wp;simp only[execOp,j,qzl,qzi,qzk,k,s,qYg,Xf n L A w,qYf];exact E _ _ D
def zfO(w:World)(n:CaN)(e:Ending)(w':World):Prop:=
 ∃own r v q p,e=.returned (ptr r)/\RunAt own w' r v q n p (attS n) 0 false/\Below w.heap.size w w'/\(∀j,j<w.heap.size->own j=0)/\w.heap.size<=r/\(w.heap.size<=v/\w.heap.size<=q.lb/\w.heap.size<=q.mb)/\L3At own w' q.li q.lc q.lf n p.ssd
theorem EY(b s j:Nat)(h1:1<=b)(h2:b<=12)(a6:2<=s)(a7:s<=8)(a8:4<=j)(aa:j<=12)(w:World)(nib:Nib w)(tur:Tur w):
  Calls prog 10 #[.agg #[.int .i64 (b:Int),.int .i64 (s:Int),.int .i64 (j:Int)]] w (zfO w (smN b s j)):=by
 have A:=ED b s j h1 h2 oM a7 a8 aa;obtain⟨m,U⟩:=qqe (w.heap.size);obtain⟨w1,D⟩:=qqe (w.alloc (.cells #[.int .i64 (b:Int),.int .i64 (s:Int),.int .i64 (j:Int)] 22));have ab:=qqu D;have E:w1.heap[m]?=some (.cells #[.int .i64 (b:Int),.int .i64 (s:Int),.int .i64 (j:Int)] 22 (0,0)):=by rw[D,U];exact zc w _ rfl
 have ah:w1.cell? ⟨m,0,none⟩=some (.int .i64 (b:Int)):=za E 0;have ai:w1.cell? ⟨m,1,none⟩=some (.int .i64 (s:Int)):=za E 1;have aj:w1.cell? ⟨m,2,none⟩=some (.int .i64 (j:Int)):=za E 2;have G:=qqh (RA b s j oM oM w1);obtain⟨n,H⟩:=qqe (smN b s j);have hsl:2<=n.sl:=by rw[H];exact a6
 rw[<-H]at G A⊢;obtain⟨ak,V⟩:=qqe (n.C);rw[<-V]at G;obtain⟨L,ad⟩:=qqe (n.C++polC);have k:=Y10 nib tur A (show mayS n.I=true from CaN.may A (by rw[H];show 7<=_;decide)) hsl V ad D U ab;clear nib tur A hsl V ad D U ab E H h1 h2 a6 a7 a8 aa;go_enter func10,ntmps10
 go_upto_region 1 with fail
 rw[<-k.o.2.2.2.2.2.2.2.1,<-k.o.2.2.2.2.2.2.2.2.1];go_wp2_with fail
 refine G.o.mono ?_;rintro e am ⟨rfl,ae⟩;have af:=uuo (S:=fun _=>False) ae;have J:=k.o.2.2.2.2.2.2.2.2.2.trans af;have X:=qqh (zdI n k.o.2.2.1 k.o.2.2.2.1 k.o.2.2.2.2.1 am (k.o.1.keep J id) (k.o.2.1.keep J id));rw[<-k.o.2.2.2.2.2.2.1]at X;have ag:=qqh J;clear ae af J G ah ai aj;go_wp2_with (first
  |(refine ql rfl _ _ rfl n (by show Value.agg ak.toArray=_;rw[k.o.2.2.2.2.2.1]) oE L.toArray (by rw[k.o.2.2.2.2.2.2.1]) ?_)
  |fail)
 refine X.o.mono ?_;rintro e ap ⟨own,r,v,q,p,rfl,N,O,Q,Y,Z,T⟩;have an:=Y6 N O Q Y Z T;clear N O Q Y Z T X;go_wp2
 go_ret
 have ao:=ag.o.size;obtain⟨N,O,Q,Y,Z,T⟩:=an.o;refine⟨own,r,v,q,p,rfl,N,(Upd.below ag.o).trans (O.mono ao),fun i aq=>Q i oM,oM,oM,T⟩
theorem Vc{b:Array Oper}{o:Oper}{a:Act}{K:Act->World->Prop}{Q:Exit->Act->World->Prop}{E:Prop}(j:Region.wanted o (yielded b a.tmps)=true)(k:o.op=.build 60 #[]){h:Bk}
  (s:∀w:World,(Instr.build 60 #[]).run prog w=.ok (.agg (bkC h).toArray) w) (A:K (a.put o.dst (.agg (bkC h).toArray)) w):if Region.wanted o (yielded b a.tmps)=true then Oper.wp prog o a w K Q else E:=by
 rw[if_pos j];unfold Oper.wp;simp only[execOp,k,qzl,qzk,qYg,s,qYf];exact A
theorem EZ(b:Bk)(h:b=uK)(w:World):Calls prog 20 #[.int .i64 2,.int .i64 5] w fun e j=>e=.returned (.agg (bkC b).toArray)/\Below w.heap.size w j:=by
 rw[h];exact EF 2 5 w
theorem Rz.one{W:World}{u:Value}(b:Rz own W u F):u.oneCell'=true:=by
 obtain⟨h,c,rfl⟩:=b.1.rd.j6;rfl
def Ans(own:Nat->Nat)(W:World)(l:List (Nat×Value×List Bk)):Prop:=∀x∈l,Bo own W x.1 #[.int .i64 0,.int .i64 0,x.2.1] 34/\Rz own W x.2.1 x.2.2
structure AwSt(w:World)(r v:Nat)(n:CaN)(md:Int)(own:Nat->Nat)(W:World)(a:CaS)(l:List (Nat×Value×List Bk)):Prop where
 run:∃q p,RunAt own W r v q n p a md false
 ans:Ans own W l
 be:Below w.heap.size w W
 lo:∀j,j<w.heap.size->own j=0
 rw:w.heap.size<=r
 vw:w.heap.size<=v
section
variable{w W W':World}{r v:Nat}{n:CaN}{q:VoP}{p:CaP}{md md':Int}{own own':Nat->Nat}{a a':CaS}{l:List (Nat×Value×List Bk)}{u:Value}{L:List Bk}
theorem AwSt.step(b:AwSt w r v n md own W a l){v':Nat}(E:RunAt own' W' r v' q n p a' md' false)(d:DidR r v own own' W W')(hv:v'=v\/W.heap.size<=v')(z0:Ro W own' W' u L):
  AwSt w r v' n md' own' (W'.alloc (.cells #[.int .i64 0,.int .i64 0,u] 34)) a' ((W'.heap.size,u,L)::l):=by
 have z:=z0.toRz;obtain⟨O,P,A⟩:=b.run;have k:Upd (fun _=>False) W' (W'.alloc (.cells #[.int .i64 0,.int .i64 0,u] 34)):=(uur _ W').alloc _;refine⟨⟨q,p,E.new k⟩,fun x hx=>?_,?_,fun G H=>(d.old G (qXs H b.be.size)).trans (b.lo G H),b.rw,hv.elim (fun e=>by rw[e];exact b.vw) (qXr b.be.size)⟩
 .rcases qzn.1 hx with rfl|hx
  .exact ⟨⟨zc W' _ rfl,E.vo.ca.far _ (qXp _)⟩,z.new k⟩
  .obtain ⟨D,s⟩:=b.ans x hx;refine⟨(D.didR d (fun e=>?_) (D.neV A.vo)).keep k id,Rz.new ⟨s.1.keep d.upd (fun g j e=>?_),fun g j=>(d.old g (s.1.lt j)).trans (s.2 g j)⟩ k⟩
   .have h2:=D.1;rw[e,A.g]at h2;cases h2
   .rcases e with e|e
    .exact e.1 (s.2 g j)
    .obtain ⟨-,⟨h1,-⟩|⟨J,Q,S,T,h1,h2,-⟩⟩:=s.1
     .rw [h1]at j;cases j
     .rw [h1]at j;cases j;replace e:J=r\/J=v:=e;rcases e with e|e
      .rw [e,A.g]at h2;cases h2
      .rw [e,A.vo.g]at h2;cases h2
 .refine zj (zj b.be d.upd (qXp _) (fun N h=>?_)) k (qXp _) (fun _ b=>b.elim);rcases h with h|h
  .exact Nat.le_of_not_lt fun hlt=>h.1 (b.lo N hlt)
  .rcases h with h|h
   .rw [h];exact b.rw
   .rw [h];exact b.vw
end
section
variable{w W:World}{r v:Nat}{own:Nat->Nat}{a:CaS}{l:List (Nat×Value×List Bk)}{M:Nat}
theorem Ab(h:AwSt w r v n21 0 own W a l)(k:a.Tie n21 none)(s:a.Fit M)(A:M<=1000)(D:(a.kG n21 2 uK 0).2=0):
  Calls prog 11 #[ptr r,uJ 1 2 1 5 (.slice none 0 0)] W (zZ (fun b _=>b=v\/W.heap.size<=b) own W r v n21 0 0 [] (a.kG n21 2 uK 0).1 0 false):=by
 obtain⟨q,p,j⟩:=h.run;refine yQ 33 (fun _ _ h=>h) j de (fun _=>de) rfl (fun W=>kR) (enters_of func33 kR rfl) (fun J E=>?_);have h2:=vL (d:=1) (fi:=5) (N:=1) (kp:=.slice none 0 0) (j.new E) rfl de (fun own' W' O G H=>Za G H k s A D (fun e=>by cases e));rw[show CaS.wrF n21 0 2 (fillW 2 5 1) a ((1:Int)==2)=(a.kG n21 2 uK 0).1 from by rw[<-zdK];rfl]at h2;exact h2.mono fun e W' h=>h.1.to fun _ _ h=> .inl h.1
theorem zby(h:AwSt w r v n21 0 own W a l)(k:a.Tie n21 none)(s:a.Fit M)(A:M<=1000)(D:(a.kG n21 2 uK 0).2=0)(E:((a.kG n21 2 uK 0).1.j9 n21).2=0):
  Calls prog 11 #[ptr r,uJ 2 2 1 5 (.slice none 0 0)] W (zZ (fun b _=>b=v\/W.heap.size<=b) own W r v n21 0 0 [] ((a.kG n21 2 uK 0).1.j9 n21).1 0 false):=by
 obtain⟨q,p,j⟩:=h.run;refine yQ 33 (fun _ _ h=>h) j de (fun _=>de) rfl (fun W=>kR) (enters_of func33 kR rfl) (fun O G=>?_);have h2:=vL (d:=2) (fi:=5) (N:=1) (kp:=.slice none 0 0) (j.new G) rfl de (fun own' W' Q H J=>Za H J k s A D (fun _=>E));rw[show CaS.wrF n21 0 2 (fillW 2 5 1) a ((2:Int)==2)=((a.kG n21 2 uK 0).1.j9 n21).1 from by rw[<-zdK];rfl]at h2;exact h2.mono fun e W' h=>h.1.to fun _ _ h=> .inl h.1
theorem Xi(h:AwSt w r v n21 0 own W a l){y:Bk}(b:(a.kw n21 2).2=(y,0)):
  Calls prog 11 #[ptr r,uJ 0 2 1 0 (.slice none 0 0)] W (zZ (fun j _=>j=v\/W.heap.size<=j) own W r v n21 0 0 [y] (a.kw n21 2).1 0 false):=by
 obtain⟨q,p,k⟩:=h.run;refine yQ 32 (fun _ _ h=>h) k de (fun e=>oM) rfl (fun W=>kR) (enters_of func32 kR rfl) (fun D s=>?_);have h2:=ri (d:=0) (fi:=0) (m:=1) (kp:=.slice none 0 0) (k.new s) rfl (fun own' W' A=>WW A zfJ (zhe a (by rw[b])));rw[zhf a y (by rw[b])]at h2;exact h2.mono fun e W' h=>h.to fun _ _ h=> .inl h.1
theorem Vd{a':CaS}(h:AwSt w r v n21 0 own W a l)(D:∀j b x y,Dvs j b x y a.dF [] a.bF [] []->Calls prog 55 #[ptr x,ptr y] b (tJ j b x y n21 a')):
  Calls prog 11 #[ptr r,uJ 12 0 0 0 (.slice none 0 0)] W (zZ (fun k _=>k=v\/W.heap.size<=k) own W r v n21 0 0 [] a' 0 false):=by
 obtain⟨q,p,s⟩:=h.run;exact yQ 43 (fun _ _ h=>h) s de (fun e=>oM) rfl (fun W=>kR) (enters_of func43 kR rfl) (fun E A=>(ER (B:=W.heap.size) A.size (s.new A) de D).mono fun _ _ h=>h.to fun _ _ h=> .inr h)
end
theorem zbz(w:World)(nib:Nib w)(tur:Tur w):Calls prog 9 #[] w fun e cb=>e=.returned (.bool true)/\Below w.heap.size w cb:=by
 have bg:=qqh (EY 9 2 8 de de de de de de w nib tur);clear nib tur;go_enter func9,ntmps9
 go_wp2_with fail
 refine bg.o.mono ?_;rintro e cc ⟨cd,r,v0,ce,cf,rfl,bh,bi,bj,bn,bp,-⟩;have aE:AwSt w r v0 n21 0 cd cc x210 []:=⟨⟨ce,cf,bh⟩,fun x hx=>(by cases hx),bi,bj,bn,bp.1⟩
 have j:=qqh (Ab aE EW EX de Xg.1);have bq:=qqh aE;clear bh bi bj bn bp aE bg;go_wp2_with fail
 refine j.o.mono ?_;rintro e br ⟨ch,ci,q1,d1,H,rfl,bs,bt,bu,aF⟩;have aG:=bq.o.step bs bt bu aF;obtain⟨J,aH⟩:∃s,s=br.heap.size:=⟨_,rfl⟩
 obtain⟨d2,c1,a6⟩:=aF.1.rd.j6;simp only[qzd]at a6;obtain⟨cj,aI⟩:∃A,A=br.alloc (.cells #[.int .i64 0,.int .i64 0,H] 34):=⟨_,rfl⟩
 rw[<-aI,<-aH]at aG;have aJ:AwSt w r ci n21 0 ch cj x211 ((J,H,[])::[]):=aG;have ak:=Y2 aI aH;have bv:=qqh aJ;have j:=qqh (Xi aJ Xh.1);have d3:=qqh a6;rw[a6]at ak;rw[a6];clear aG aJ aI aH a6 bs bt bu aF;go_wp2_with fail
 rw[<-ak.o.1,<-ak.o.2];refine j.o.mono ?_;rintro e bx ⟨cl,co,q2,d4,D,rfl,bz,bA,bB,aK⟩;clear j;have aL:=bv.o.step bz bA bB aK;obtain⟨N,aM⟩:∃s,s=bx.heap.size:=⟨_,rfl⟩
 obtain⟨d5,c2,a7⟩:=aK.1.rd.j6;simp only[qzd,qza,qXy]at a7;obtain⟨cp,aN⟩:∃A,A=bx.alloc (.cells #[.int .i64 0,.int .i64 0,D] 34):=⟨_,rfl⟩
 rw[<-aN,<-aM]at aL;have aO:AwSt w r co n21 0 cl cp ((x211.kw n21 2).1) ((N,D,[uK])::((J,H,[])::[])):=aL;have am:=Y2 aN aM;have bC:=qqh aO;have j:=qqh (Vd aO (fun aP cq x y an=>zfM (by rw[zbS.1,zbS.2]at an;exact an)));have d6:=qqh a7;rw[a7]at am;rw[a7];clear aL aO aN aM a7 bz bA bB aK;go_wp2_with fail
 rw[<-am.o.1,<-am.o.2];refine j.o.mono ?_;rintro e bD ⟨cr,v3,d7,d8,u3,rfl,bE,bF,bG,z3⟩;clear j;have aQ:=bC.o.step bE bF bG z3;obtain⟨T,aR⟩:∃s,s=bD.heap.size:=⟨_,rfl⟩
 obtain⟨d9,da,a8⟩:=z3.1.rd.j6;simp only[qzd]at a8;obtain⟨ct,aS⟩:∃A,A=bD.alloc (.cells #[.int .i64 0,.int .i64 0,u3] 34):=⟨_,rfl⟩
 rw[<-aS,<-aR]at aQ;have aT:AwSt w r v3 n21 0 cr ct x212 ((T,u3,[])::((N,D,[uK])::((J,H,[])::[]))):=aQ;have ao:=Y2 aS aR;have bH:=qqh aT;have j:=qqh (Xi aT Xh.2.1);have db:=qqh a8;rw[a8]at ao;rw[a8];clear aQ aT aS aR a8 bE bF bG z3;go_wp2_with fail
 rw[<-ao.o.1,<-ao.o.2];refine j.o.mono ?_;rintro e bI ⟨cu,v4,dc,dd,G,rfl,aU,bJ,bK,z4⟩;clear j;rw[zfK]at aU;have aV:=bH.o.step aU bJ bK z4;obtain⟨U,aW⟩:∃s,s=bI.heap.size:=⟨_,rfl⟩
 obtain⟨df,dg,aa⟩:=z4.1.rd.j6;simp only[qzd,qza,qXy]at aa;obtain⟨cv,aX⟩:∃A,A=bI.alloc (.cells #[.int .i64 0,.int .i64 0,G] 34):=⟨_,rfl⟩
 rw[<-aX,<-aW]at aV;have aY:AwSt w r v4 n21 0 cu cv x212 ((U,G,[zB])::((T,u3,[])::((N,D,[uK])::((J,H,[])::[])))):=aV;have ap:=Y2 aX aW;have bL:=qqh aY;have j:=qqh (zby aY EW EX de Xg.2.1 Xg.2.2);have dh:=qqh aa;rw[aa]at ap;rw[aa];clear aV aY aX aW aa aU bJ bK z4;go_wp2_with fail
 rw[<-ap.o.1,<-ap.o.2];refine j.o.mono ?_;rintro e bM ⟨aP,v5,di,dj,u5,rfl,bN,bO,bP,z5⟩;clear j;have aZ:=bL.o.step bN bO bP z5;obtain⟨ab,b0⟩:∃s,s=bM.heap.size:=⟨_,rfl⟩
 obtain⟨dk,dm,ad⟩:=z5.1.rd.j6;simp only[qzd]at ad;obtain⟨cx,b1⟩:∃A,A=bM.alloc (.cells #[.int .i64 0,.int .i64 0,u5] 34):=⟨_,rfl⟩
 rw[<-b1,<-b0]at aZ;have b2:AwSt w r v5 n21 0 aP cx x214 ((ab,u5,[])::((U,G,[zB])::((T,u3,[])::((N,D,[uK])::((J,H,[])::[]))))):=aZ;have aq:=Y2 b1 b0;have bQ:=qqh b2;have j:=qqh (Vd b2 (fun aP cq x y an=>zfN an));have dn:=qqh ad;rw[ad]at aq;rw[ad];clear aZ b2 b1 b0 ad bN bO bP z5;go_wp2_with fail
 rw[<-aq.o.1,<-aq.o.2];refine j.o.mono ?_;rintro e bR ⟨cy,cz,dp,dq,u6,rfl,bS,bT,bU,b3⟩;clear j;have b4:=bQ.o.step bS bT bU b3;obtain⟨ar,b5⟩:∃s,s=bR.heap.size:=⟨_,rfl⟩
 obtain⟨dr,ds,ae⟩:=b3.1.rd.j6;simp only[qzd]at ae;obtain⟨cA,b6⟩:∃A,A=bR.alloc (.cells #[.int .i64 0,.int .i64 0,u6] 34):=⟨_,rfl⟩
 rw[<-b6,<-b5]at b4;have b7:AwSt w r cz n21 0 cy cA x215 ((ar,u6,[])::((ab,u5,[])::((U,G,[zB])::((T,u3,[])::((N,D,[uK])::((J,H,[])::[])))))):=b4;have au:=Y2 b6 b5;have bV:=qqh b7;have j:=qqh (Xi b7 Xh.2.2);have dt:=qqh ae;rw[ae]at au;rw[ae];clear b4 b7 b6 b5 ae bS bT bU b3;go_wp2_with fail
 rw[<-au.o.1,<-au.o.2];refine j.o.mono ?_;rintro e bW ⟨cB,cC,du,dw,u7,rfl,bX,bY,bZ,b8⟩;clear j;have b9:=bV.o.step bX bY bZ b8;obtain⟨av,ba⟩:∃s,s=bW.heap.size:=⟨_,rfl⟩
 obtain⟨dx,dy,af⟩:=b8.1.rd.j6;simp only[qzd,qza,qXy]at af;obtain⟨E,bb⟩:∃A,A=bW.alloc (.cells #[.int .i64 0,.int .i64 0,u7] 34):=⟨_,rfl⟩
 rw[<-bb,<-ba]at b9;have c0:AwSt w r cC n21 0 cB E ((x215.kw n21 2).1) ((av,u7,[uK])::((ar,u6,[])::((ab,u5,[])::((U,G,[zB])::((T,u3,[])::((N,D,[uK])::((J,H,[])::[]))))))):=b9;have aw:=Y2 bb ba;have O:=qqh c0;have dz:=qqh af;rw[af]at aw;rw[af];clear b9 c0 bb ba af bX bY bZ b8;go_upto_region 11 with fail
 rw[<-aw.o.1,<-aw.o.2];have c3:=O.o.ans (J,H,[]) oe;have ax:=O.o.ans (N,D,[uK]) oe;have c4:=O.o.ans (T,u3,[]) oe;have ay:=O.o.ans (U,G,[zB]) oe;have c5:=O.o.ans (ab,u5,[]) oe;have c6:=O.o.ans (ar,u6,[]) oe;have az:=O.o.ans (av,u7,[uK]) oe;have cD:E.cell? ⟨J,0,none⟩=some (.int .i64 0):=c3.1.cell 0;have cE:E.cell? ⟨T,0,none⟩=some (.int .i64 0):=c4.1.cell 0;have cF:E.cell? ⟨ab,0,none⟩=some (.int .i64 0):=c5.1.cell 0;have cG:E.cell? ⟨ar,0,none⟩=some (.int .i64 0):=c6.1.cell 0;have X:E.rangeAt N 0 [.int .i64 0,.int .i64 0,D]:=zg ax.1.1;have Y:E.rangeAt U 0 [.int .i64 0,.int .i64 0,G]:=zg ay.1.1;have Z:E.rangeAt av 0 [.int .i64 0,.int .i64 0,u7]:=zg az.1.1;obtain⟨V,ag⟩:=qqe (uK);obtain⟨aA,aB⟩:=qqe (zB);have Q:=Y8 (show Rd E 64 D 1 (rowC [V])from by rw[ag];exact ax.2.1.rd) (show Rd E 64 G 1 (rowC [aA])from by rw[aB];exact ay.2.1.rd) (show Rd E 64 u7 1 (rowC [V])from by rw[ag];exact az.2.1.rd) (show D.oneCell'=true from ax.2.one) (show G.oneCell'=true from ay.2.one) (show u7.oneCell'=true from az.2.one) (show V.length=64 from by rw[ag];exact xg 2 5) (show aA.length=64 from by rw[aB];exact zH);have cH:=qqh O.o.be;have c7:=qqh ag;have cI:=qqh (xO aA aB);clear c3 ax c4 ay c5 c6 az bq bv bC bH bL bQ bV O ak am ao ap aq au aw ag aB;go_upto_region 12 with fail
 clear cD cE cF cG;have cJ:=(uur (fun _=>False) E).drew;have bc:=underlying34;have bd:=zX;refine qZc (S:=fun W=>W.rangeAt N 0 [.int .i64 0,.int .i64 0,D]/\W.rangeAt U 0 [.int .i64 0,.int .i64 0,G]/\W.rangeAt av 0 [.int .i64 0,.int .i64 0,u7]) kR (⟨by rw[qYk];exact X,by rw[qYk];exact Y,by rw[qYk];exact Z⟩) (fun c8=>?_);refine Wl.i [0,1] ?_;iterate 2 refine Wl.t c8 ?_
 refine Wl.o ?_;refine Wl.l 2 (fun w h=>h.1) bc bd c8 ?_;refine Wl.r 3 (fun K b=>?_);go_simp
 refine(EZ V c7.o _).mono ?_;rintro e dA ⟨rfl,k⟩;have ah:=cJ.trans (uuo (S:=fun _=>False) k);have cK:=ah.range X id;have cL:=ah.range Y id;have cM:=ah.range Z id;clear k;refine b.o _ _ (⟨cK,cL,cM⟩) (fun dB=>?_);clear b K;refine Wl.r 4 (fun K b=>?_);go_simp
 refine(Uz (y:=V) (Q.o.1.keep ah (fun _ _ h=>h)) Q.o.2.2.2.2.2.2.1 (Q.o.2.2.2.1)).mono ?_;rintro e dC ⟨rfl,k⟩;have ai:=ah.trans (uuo (S:=fun _=>False) k);have cN:=ai.range X id;have cO:=ai.range Y id;have cP:=ai.range Z id;clear k;refine b.o _ _ (⟨cN,cO,cP⟩) (fun cQ=>?_);clear b K;refine Wl.r 5 (fun K b=>?_);go_simp
 refine b.o _ _ (cQ) (fun bf=>?_);clear b K;refine Wl.i [6] (Wl.t bf (Wl.o ?_));refine Wl.l 7 (fun w h=>h.2.1) bc bd bf ?_;refine Wl.r 8 (fun K b=>?_);refine Vc oE rfl cI.o ?_;refine b.o _ _ (bf) (fun dD=>?_);clear b K;refine Wl.r 9 (fun K b=>?_);go_simp
 refine(Uz (y:=aA) (Q.o.2.1.keep ai (fun _ _ h=>h)) Q.o.2.2.2.2.2.2.2 (Q.o.2.2.2.2.1)).mono ?_;rintro e dE ⟨rfl,k⟩;have aC:=ai.trans (uuo (S:=fun _=>False) k);have cR:=aC.range X id;have t3:=aC.range Y id;have cT:=aC.range Z id;clear k;refine b.o _ _ (⟨cR,t3,cT⟩) (fun cU=>?_);clear b K;refine Wl.r 10 (fun K b=>?_);go_simp
 refine b.o _ _ (cU) (fun c9=>?_);clear b K;refine Wl.i [11] (Wl.t c9 (Wl.o ?_));refine Wl.l 12 (fun w h=>h.2.2) bc bd c9 ?_;refine Wl.r 13 (fun K b=>?_);go_simp
 refine(EZ V c7.o _).mono ?_;rintro e dF ⟨rfl,k⟩;have aj:=aC.trans (uuo (S:=fun _=>False) k);have cV:=aj.range X id;have t4:=aj.range Y id;have cW:=aj.range Z id;clear k;refine b.o _ _ (⟨cV,t4,cW⟩) (fun dG=>?_);clear b K;refine Wl.r 14 (fun K b=>?_);go_simp
 refine(Uz (y:=V) (Q.o.2.2.1.keep aj (fun _ _ h=>h)) Q.o.2.2.2.2.2.2.1 (Q.o.2.2.2.2.2.1)).mono ?_;rintro e dH ⟨rfl,k⟩;have aD:=aj.trans (uuo (S:=fun _=>False) k);have cX:=aD.range X id;have t5:=aD.range Y id;have cY:=aD.range Z id;clear k;refine b.o _ _ (⟨cX,t5,cY⟩) (fun cZ=>?_);clear b K;refine Wl.r 15 (fun K b=>?_);go_simp
 refine b.o _ _ (cZ) (fun d0=>?_);clear b K;refine Wl.r 16 (fun K b=>?_);go_simp
 refine b.o _ _ (d0) (fun dI=>?_);clear b K;refine Wl.d ?_;go_wp2
 go_ret
 exact⟨rfl,zj cH.o aD (qXp _) (fun _ h=>h.elim)⟩
end Go.Proofs.YtpejdgiccaijfaaGreatDoor
