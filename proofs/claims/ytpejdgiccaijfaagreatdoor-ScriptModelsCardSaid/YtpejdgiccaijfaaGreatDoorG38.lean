/- The chapter's -/
import Derived.Test.YtpejdgiccaijfaaGreatDoorG36
import Derived.Test.YtpejdgiccaijfaaGreatDoorG37
set_option maxRecDepth 100000
set_option maxHeartbeats 1000000
namespace Go.Proofs.YtpejdgiccaijfaaGreatDoor
open Go Go.RowKit Tryz
theorem SM{n:CaN}{wh sq:Nat}{F G:List Bk}{O Q:List (Nat×Bk)}:((caS0 n wh sq F O [] G Q []).ckpt n).1.Tie n none:=CaS.Tie.ckpt (tm n.bl n.sl)
theorem SN{n:CaN}{wh sq:Nat}{F G:List Bk}:((caS0 n wh sq F [] [] G [] []).ckpt n).1.Fit (sq+3+n.pa):=
 CaS.Fit.ckpt (N:=sq+3) ⟨fun k v h=>(by cases h),fun q h=>(by cases h),by show sq+1<=_;omega,qXy _,qXy _,qXy _,qXy _,qXy _⟩
theorem zdg:fillL 2 5 1=[tr]:=kR
theorem zbl(a:CaS):CaS.wrN n21 0 2 (fillL 2 5 1) a 1=(a.kq n21 2 tr 0).1:=by rw[zdg];rfl
theorem zdh(a:CaS)(h:(a.kq n21 2 tr 0).2=0):∀k,k<1->CaS.wrC n21 0 2 (fillL 2 5 1) a k=0:=fun k hk=>by
 obtain rfl:k=0:=oM;rw[zdg];exact h
theorem zez(a:CaS)(h:(a.j7 n21 2).2.2=0):∀k,k<1->(CaS.rdC n21 2 a k).2=0:=fun k hk=>by
 obtain rfl:k=0:=oM;exact h
theorem zeA(a:CaS)(y:Bk)(h:(a.j7 n21 2).2.1=y):CaS.rdL n21 2 a 1=[y]:=by rw[<-h];rfl
theorem Ax:(x211.j7 n21 2).1.dF=x211.dF/\(x211.j7 n21 2).1.bF=x211.bF:=⟨kR,kR⟩
theorem zdi:(x212.j7 n21 2).1=x212:=kR
theorem zdj:x211.bF.length=9/\x214.bF.length=9:=⟨kR,kR⟩
theorem zbm:Eh n21.bl 2 (1:Nat):=⟨de,de,de,de⟩
theorem zdk{own:Nat->Nat}{w:World}{x y:Nat}(hD:Dvs own w x y x211.dF [] x211.bF [] []):Calls prog 55 #[ptr x,ptr y] w (uK own w x y n21 x212):=tP hD zde zdj.1
theorem zdl{own:Nat->Nat}{w:World}{x y:Nat}(hD:Dvs own w x y x214.dF [] x214.bF [] []):Calls prog 55 #[ptr x,ptr y] w (uK own w x y n21 x215):=
 (XM hD zdf zdj.2).mono fun e w' ⟨L,wh,sq,⟨h1,h2,h3⟩,h4⟩=>by
  subst h1;subst h2;subst h3;exact h4
theorem WZ{w:World}{m:Int}{u:Value}{y:Bk}(hu:Rd w 64 u 1 (rowC [y]))(hy:y.length=64)(h1:u.oneCell'=true):Calls prog 22 #[.agg #[.int .i64 0,.int .i64 m,u],.agg (bkC y).toArray] w fun e w'=>e=.returned (.bool true)/\Below w.heap.size w w':=by
 obtain⟨ab,hab⟩:=qqe (w.heap.size);obtain⟨w1,hw1⟩:=qqe ((w.alloc (.cells #[.int .i64 0,.int .i64 m,u] 34)).alloc (.cells (bkC y).toArray 60));have hu1:Upd (fun _=>False) w w1:=by rw[hw1];exact((uur _ w).alloc _).alloc _
 have g0:w1.heap[ab]?=some (.cells #[.int .i64 0,.int .i64 m,u] 34 (0,0)):=by rw[hw1,hab];exact(qxk _ _ _ oe).trans (zc w _ rfl)
 have g1:w1.heap[ab+1]?=some (.cells (bkC y).toArray 60 (0,0)):=by rw[hw1,hab];exact zc _ _ oe
 obtain⟨g,o,c,hv,r0⟩:=Uk (L:=[y]) (hu.keep hu1 (fun _ _ h=>h)) (fun x hx=>by simp at hx;rw[hx];exact hy) (k:=0) oe;have hv':u=.slice (some ⟨g,o,none⟩) 1 c:=hv;subst hv';replace r0:w1.rangeAt g o (bkC y):=by
  have h2:=r0;rw[qXz,qXm]at h2;exact h2
 have r1:=zg g1;have c0:w1.cell? ⟨ab,0,none⟩=some (.int .i64 0):=za g0 0;have c2:w1.cell? ⟨ab,2,none⟩=some (.slice (some ⟨g,o,none⟩) 1 c):=za g0 2;have heq:∀W:World,(binOp .eql 60 (.agg (bkC y).toArray) (.agg (bkC y).toArray)).run prog W=.ok (.bool true) W:=fun W=>by rw[qp y y hy hy];simp
 have hsi:=zq y hy;have hut:=underlying60;have HW:=Y3 hw1 hab hu1;clear hw1 hab hu1 g0 g1 hu hv;go_enter func22,ntmps22
 go_upto_region 1 with fail
 rw[<-HW.o.1,<-HW.o.2.1];refine qZb (S:=fun W=>W.cell? ⟨ab,0,none⟩=some (.int .i64 0)/\W.cell? ⟨ab,2,none⟩=some (.slice (some ⟨g,o,none⟩) 1 c)/\W.rangeAt g o (bkC y)/\W.rangeAt (ab+1) 0 (bkC y)) kR (⟨by rw[qYh];exact c0,by rw[qYh];exact c2,by rw[qYj];exact r0,by rw[qYj];exact r1⟩) (fun hHeld=>?_);refine Wl.i [0,1,2,3,4,5,6,7] ?_;iterate 8 refine Wl.t hHeld ?_
 refine Wl.o ?_;refine Wl.r 8 (fun K hK=>?_);go_simp
 refine hK.o _ _ (hHeld) (fun hH1=>?_);clear hK K;refine Wl.i [9,10,11,12] ?_;iterate 4 refine Wl.t hH1 ?_
 refine Wl.o ?_;refine Wl.l 13 (fun w h=>h.2.2.1) hut hsi hH1 ?_;refine Wl.l 14 (fun w h=>h.2.2.2) hut hsi hH1 ?_;refine Wl.i [15] (Wl.t hH1 (Wl.o ?_));refine Wl.r 16 (fun K hK=>?_);go_simp
 refine hK.o _ _ (hH1) (fun hH2=>?_);clear hK K;refine Wl.r 17 (fun K hK=>?_);go_simp
 refine hK.o _ _ (hH2) (fun hH3=>?_);clear hK K;refine Wl.d ?_;go_wp2
 go_ret
 exact⟨rfl,HW.o.2.2.drew.below⟩
theorem tt{ops:Array Oper}{rest:List Oper}{op:Oper}{x:Act}{w:World}{Q:Exit->Act->World->Prop}(hgd:op.guard=none)(p q:Operand)(ho:op.op=.build 48 #[(0,p),(1,q)])
  (n:CaN) (hp:x.eval p=.agg n.C.toArray) (hq:x.eval q=.agg polC.toArray) (L:Array Value) (hL:L=(n.C++polC).toArray)
  (h:wpList prog ops Q rest (x.put op.dst (.agg L)) w):wpList prog ops Q (op::rest) x w:=by
 refine qYz hgd fun K' hK'=>?_;unfold Oper.wp;simp only[execOp,ho,qzk,qzh,qzj,hp,hq,qYf,Yh n L hL w,qYe];exact hK' _ _ h
def zdm(w:World)(n:CaN)(e:Ending)(w':World):Prop:=
 ∃own r v q p,e=.returned (ptr r)/\RunAt own w' r v q n p (SK n) 0 false/\Below w.heap.size w w'/\(∀j,j<w.heap.size->own j=0)/\w.heap.size<=r
theorem zbn(b s j:Nat)(h1:1<=b)(h2:b<=12)(h3:2<=s)(h4:s<=8)(h5:4<=j)(h6:j<=12)(w:World)(nib:Nib w)(tur:Tur w):
  Calls prog 10 #[.agg #[.int .i64 (b:Int),.int .i64 (s:Int),.int .i64 (j:Int)]] w (zdm w (smN b s j)):=by
 have hok:=SG b s j h1 h2 oM h4 h5 h6;obtain⟨m,hm⟩:=qqe (w.heap.size);obtain⟨w1,hw1⟩:=qqe (w.alloc (.cells #[.int .i64 (b:Int),.int .i64 (s:Int),.int .i64 (j:Int)] 22));have hu1:=qqu hw1;have g1:w1.heap[m]?=some (.cells #[.int .i64 (b:Int),.int .i64 (s:Int),.int .i64 (j:Int)] 22 (0,0)):=by rw[hw1,hm];exact zc w _ rfl
 have k0:w1.cell? ⟨m,0,none⟩=some (.int .i64 (b:Int)):=za g1 0;have k1:w1.cell? ⟨m,1,none⟩=some (.int .i64 (s:Int)):=za g1 1;have k2:w1.cell? ⟨m,2,none⟩=some (.int .i64 (j:Int)):=za g1 2;have HS:=qqh (TL b s j oM oM w1);obtain⟨n,hn⟩:=qqe (smN b s j);have hsl:2<=n.sl:=by rw[hn];exact h3
 rw[<-hn]at HS hok⊢;obtain⟨U,hU⟩:=qqe (n.C);rw[<-hU]at HS;obtain⟨L,hL⟩:=qqe (n.C++polC);have H:=Y10 nib tur hok (show mayS n.I=true from CaN.may hok (by rw[hn];show 7<=_;decide)) hsl hU hL hw1 hm hu1;clear nib tur hok hsl hU hL hw1 hm hu1 g1 hn h1 h2 h3 h4 h5 h6;go_enter func10,ntmps10
 go_upto_region 1 with fail
 rw[<-H.o.2.2.2.2.2.2.2.1,<-H.o.2.2.2.2.2.2.2.2.1];go_wp2_with fail
 refine HS.o.mono ?_;rintro e w2 ⟨rfl,hb2⟩;have hu2:=uuo (S:=fun _=>False) hb2;have U2:=H.o.2.2.2.2.2.2.2.2.2.trans hu2;have HN:=qqh (zbj n H.o.2.2.1 H.o.2.2.2.1 H.o.2.2.2.2.1 w2 (H.o.1.keep U2 id) (H.o.2.1.keep U2 id));rw[<-H.o.2.2.2.2.2.2.1]at HN;have HU:=qqh U2;clear hb2 hu2 U2 HS k0 k1 k2;go_wp2_with (first
  |(refine tt rfl _ _ rfl n (by show Value.agg U.toArray=_;rw[H.o.2.2.2.2.2.1]) oy L.toArray (by rw[H.o.2.2.2.2.2.2.1]) ?_)
  |fail)
 refine HN.o.mono ?_;rintro e w3 ⟨own,r,v,q,p,rfl,hR,hb3,ho3,hr3⟩;have H3:=Y4 hR hb3 ho3 hr3;clear hR hb3 ho3 hr3 HN;go_wp2
 go_ret
 have hs:=HU.o.size;obtain⟨hR,hb3,ho3,hr3⟩:=H3.o;refine⟨own,r,v,q,p,rfl,hR,(Upd.below HU.o).trans (hb3.mono hs),fun i hi=>ho3 i oM,oM⟩
theorem XN{ops:Array Oper}{o:Oper}{a:Act}{w:World}{K:Act->World->Prop}{Q:Exit->Act->World->Prop}{E:Prop}(hw:Region.wanted o (yielded ops a.tmps)=true)(hop:o.op=.build 60 #[]){Z:Bk}
  (hrun:∀w:World,(Instr.build 60 #[]).run prog w=.ok (.agg (bkC Z).toArray) w) (hK:K (a.put o.dst (.agg (bkC Z).toArray)) w):if Region.wanted o (yielded ops a.tmps)=true then Oper.wp prog o a w K Q else E:=by
 rw[if_pos hw];unfold Oper.wp;simp only[execOp,hop,qzk,qzj,qYf,hrun,qYe];exact hK
theorem SO(V:Bk)(hV:V=tr)(w:World):Calls prog 20 #[.int .i64 2,.int .i64 5] w fun e w'=>e=.returned (.agg (bkC V).toArray)/\Below w.heap.size w w':=by
 rw[hV];exact ZV 2 5 w
def Ans(own:Nat->Nat)(W:World)(l:List (Nat×Value×List Bk)):Prop:=∀x∈l,Bo own W x.1 #[.int .i64 0,.int .i64 0,x.2.1] 34/\Rz own W x.2.1 x.2.2
structure AwSt(w:World)(r:Nat)(n:CaN)(md:Int)(own:Nat->Nat)(W:World)(a:CaS)(l:List (Nat×Value×List Bk)):Prop where
 run:∃v q p,RunAt own W r v q n p a md false
 ans:Ans own W l
 be:Below w.heap.size w W
 lo:∀j,j<w.heap.size->own j=0
 rw:w.heap.size<=r
section
variable{w W W':World}{r v:Nat}{n:CaN}{q:VoP}{p:CaP}{md md':Int}{own own':Nat->Nat}{a a':CaS}{l:List (Nat×Value×List Bk)}{u:Value}{L:List Bk}
theorem AwSt.step(h:AwSt w r n md own W a l)(hR:RunAt own' W' r v q n p a' md' false)(d:DidR r own own' W W')(z:Rz own' W' u L):
  AwSt w r n md' own' (W'.alloc (.cells #[.int .i64 0,.int .i64 0,u] 34)) a' ((W'.heap.size,u,L)::l):=by
 obtain⟨v0,q0,p0,hR0⟩:=h.run;have hua:Upd (fun _=>False) W' (W'.alloc (.cells #[.int .i64 0,.int .i64 0,u] 34)):=(uur _ W').alloc _;refine⟨⟨v,q,p,hR.new hua⟩,fun x hx=>?_,?_,fun j hj=>(d.old j (qXr hj h.be.size)).trans (h.lo j hj),h.rw⟩
 .rcases qzm.1 hx with rfl|hx
  .exact ⟨⟨zc W' _ rfl,hR.vo.ca.far _ (qXo _)⟩,z.new hua⟩
  .obtain ⟨b,zz⟩:=h.ans x hx;refine⟨(b.didR d (fun e=>?_)).keep hua id,Rz.new ⟨zz.1.keep d.upd (fun g hg e=>?_),fun g hg=>(d.old g (zz.1.lt hg)).trans (zz.2 g hg)⟩ hua⟩
   .have h2:=b.1;rw[e,hR0.g]at h2;cases h2
   .rcases e with e|e
    .exact e.1 (zz.2 g hg)
    .obtain ⟨-,⟨h1,-⟩|⟨g',off,cap,cur,h1,h2,-⟩⟩:=zz.1
     .rw [h1]at hg;cases hg
     .rw [h1]at hg;cases hg;replace e:g'=r:=e;rw[e,hR0.g]at h2;cases h2
 .refine zj (zj h.be d.upd (qXo _) (fun k hk=>?_)) hua (qXo _) (fun _ h=>h.elim);rcases hk with hk|hk
  .exact Nat.le_of_not_lt fun hlt=>hk.1 (h.lo k hlt)
  .rw [hk];exact h.rw
end
section
variable{w W:World}{r:Nat}{own:Nat->Nat}{a:CaS}{l:List (Nat×Value×List Bk)}{M:Nat}
theorem SP(h:AwSt w r n21 0 own W a l)(hti:a.Tie n21 none)(hfi:a.Fit M)(hM:M<=1000)(hc:(a.kq n21 2 tr 0).2=0):
  Calls prog 11 #[ptr r,Jd 1 2 1 5 (.slice none 0 0)] W (xC own W r n21 0 0 [] (a.kq n21 2 tr 0).1 0 false):=by
 obtain⟨v,q,p,hR⟩:=h.run;refine Us 33 hR de (fun _=>de) rfl (fun W=>kR) (enters_of func33 kR rfl) (fun W2 hu=>?_);have h2:=XL (d:=1) (fi:=5) (N:=1) (kp:=.slice none 0 0) (hR.new hu) rfl zbm de hti hfi (by show M+1*(3*1+8+6)<=_;omega) (zdh a hc) (fun e=>by cases e);rw[show CaS.wrF n21 0 2 (fillL 2 5 1) a ((1:Int)==2)=(a.kq n21 2 tr 0).1 from by rw[<-zbl];rfl]at h2;exact h2
theorem Ad(h:AwSt w r n21 0 own W a l)(hti:a.Tie n21 none)(hfi:a.Fit M)(hM:M<=1000)(hc:(a.kq n21 2 tr 0).2=0)(hcm:((a.kq n21 2 tr 0).1.jX n21).2=0):
  Calls prog 11 #[ptr r,Jd 2 2 1 5 (.slice none 0 0)] W (xC own W r n21 0 0 [] ((a.kq n21 2 tr 0).1.jX n21).1 0 false):=by
 obtain⟨v,q,p,hR⟩:=h.run;refine Us 33 hR de (fun _=>de) rfl (fun W=>kR) (enters_of func33 kR rfl) (fun W2 hu=>?_);have h2:=XL (d:=2) (fi:=5) (N:=1) (kp:=.slice none 0 0) (hR.new hu) rfl zbm de hti hfi (by show M+1*(3*1+8+6)<=_;omega) (zdh a hc) (fun _=>by rw[zbl];exact hcm);rw[show CaS.wrF n21 0 2 (fillL 2 5 1) a ((2:Int)==2)=((a.kq n21 2 tr 0).1.jX n21).1 from by rw[<-zbl];rfl]at h2;exact h2
theorem Yk(h:AwSt w r n21 0 own W a l){y:Bk}(hc:(a.j7 n21 2).2=(y,0)):
  Calls prog 11 #[ptr r,Jd 0 2 1 0 (.slice none 0 0)] W (xC own W r n21 0 0 [y] (a.j7 n21 2).1 0 false):=by
 obtain⟨v,q,p,hR⟩:=h.run;refine Us 32 hR de (fun e=>oM) rfl (fun W=>kR) (enters_of func32 kR rfl) (fun W2 hu=>?_);have h2:=EZ (d:=0) (fi:=0) (N:=1) (kp:=.slice none 0 0) (hR.new hu) rfl zbm (zez a (by rw[hc]));rw[zeA a y (by rw[hc])]at h2;exact h2
theorem XO{a':CaS}(h:AwSt w r n21 0 own W a l)(hA:∀own5 w5 x y,Dvs own5 w5 x y a.dF [] a.bF [] []->Calls prog 55 #[ptr x,ptr y] w5 (uK own5 w5 x y n21 a')):
  Calls prog 11 #[ptr r,Jd 12 0 0 0 (.slice none 0 0)] W (xC own W r n21 0 0 [] a' 0 false):=by
 obtain⟨v,q,p,hR⟩:=h.run;exact Us 43 hR de (fun e=>oM) rfl (fun W=>kR) (enters_of func43 kR rfl) (fun W2 hu=>SJ (hR.new hu) de hA)
end
theorem Ae(w:World)(nib:Nib w)(tur:Tur w):Calls prog 9 #[] w fun e w'=>e=.returned (.bool true)/\Below w.heap.size w w':=by
 have HM:=qqh (zbn 9 2 8 de de de de de de w nib tur);clear nib tur;go_enter func9,ntmps9
 go_wp2_with fail
 refine HM.o.mono ?_;rintro e w0 ⟨own0,r,v0,q0,p0,rfl,hR0,hb0,ho0,hr0⟩;have S0:AwSt w r n21 0 own0 w0 x210 []:=⟨⟨v0,q0,p0,hR0⟩,fun x hx=>(by cases hx),hb0,ho0,hr0⟩
 have HD:=qqh (SP S0 SM SN de Yi.1);have HS0:=qqh S0;clear hR0 hb0 ho0 hr0 S0 HM;go_wp2_with fail
 refine HD.o.mono ?_;rintro e W1 ⟨own1,v1,q1,p1,u1,rfl,hR1,d1,z1⟩;have S1':=HS0.o.step hR1 d1 z1;obtain⟨b1,hb1⟩:∃b,b=W1.heap.size:=⟨_,rfl⟩
 obtain⟨ao1,c1,hz1⟩:=z1.1.rd.jU;simp only[qzc]at hz1;obtain⟨X1,hX1⟩:∃X,X=W1.alloc (.cells #[.int .i64 0,.int .i64 0,u1] 34):=⟨_,rfl⟩
 rw[<-hX1,<-hb1]at S1';have S1:AwSt w r n21 0 own1 X1 x211 ((b1,u1,[])::[]):=S1';have HX1:=Y2 hX1 hb1;have HS1:=qqh S1;have HD:=qqh (Yk S1 Yj.1);have HU1:=qqh hz1;rw[hz1]at HX1;rw[hz1];clear S1' S1 hX1 hb1 hz1 hR1 d1 z1;go_wp2_with fail
 rw[<-HX1.o.1,<-HX1.o.2];refine HD.o.mono ?_;rintro e W2 ⟨own2,v2,q2,p2,u2,rfl,hR2,d2,z2⟩;clear HD;have S2':=HS1.o.step hR2 d2 z2;obtain⟨b2,hb2⟩:∃b,b=W2.heap.size:=⟨_,rfl⟩
 obtain⟨ao2,c2,hz2⟩:=z2.1.rd.jU;simp only[qzc,qyz,qXx]at hz2;obtain⟨X2,hX2⟩:∃X,X=W2.alloc (.cells #[.int .i64 0,.int .i64 0,u2] 34):=⟨_,rfl⟩
 rw[<-hX2,<-hb2]at S2';have S2:AwSt w r n21 0 own2 X2 ((x211.j7 n21 2).1) ((b2,u2,[tr])::((b1,u1,[])::[])):=S2';have HX2:=Y2 hX2 hb2;have HS2:=qqh S2;have HD:=qqh (XO S2 (fun own5 w5 x y D=>zdk (by rw[Ax.1,Ax.2]at D;exact D)));have HU2:=qqh hz2;rw[hz2]at HX2;rw[hz2];clear S2' S2 hX2 hb2 hz2 hR2 d2 z2;go_wp2_with fail
 rw[<-HX2.o.1,<-HX2.o.2];refine HD.o.mono ?_;rintro e W3 ⟨own3,v3,q3,p3,u3,rfl,hR3,d3,z3⟩;clear HD;have S3':=HS2.o.step hR3 d3 z3;obtain⟨b3,hb3⟩:∃b,b=W3.heap.size:=⟨_,rfl⟩
 obtain⟨ao3,c3,hz3⟩:=z3.1.rd.jU;simp only[qzc]at hz3;obtain⟨X3,hX3⟩:∃X,X=W3.alloc (.cells #[.int .i64 0,.int .i64 0,u3] 34):=⟨_,rfl⟩
 rw[<-hX3,<-hb3]at S3';have S3:AwSt w r n21 0 own3 X3 x212 ((b3,u3,[])::((b2,u2,[tr])::((b1,u1,[])::[]))):=S3';have HX3:=Y2 hX3 hb3;have HS3:=qqh S3;have HD:=qqh (Yk S3 Yj.2.1);have HU3:=qqh hz3;rw[hz3]at HX3;rw[hz3];clear S3' S3 hX3 hb3 hz3 hR3 d3 z3;go_wp2_with fail
 rw[<-HX3.o.1,<-HX3.o.2];refine HD.o.mono ?_;rintro e W4 ⟨own4,v4,q4,p4,u4,rfl,hR4,d4,z4⟩;clear HD;rw[zdi]at hR4;have S4':=HS3.o.step hR4 d4 z4;obtain⟨b4,hb4⟩:∃b,b=W4.heap.size:=⟨_,rfl⟩
 obtain⟨ao4,c4,hz4⟩:=z4.1.rd.jU;simp only[qzc,qyz,qXx]at hz4;obtain⟨X4,hX4⟩:∃X,X=W4.alloc (.cells #[.int .i64 0,.int .i64 0,u4] 34):=⟨_,rfl⟩
 rw[<-hX4,<-hb4]at S4';have S4:AwSt w r n21 0 own4 X4 x212 ((b4,u4,[zB])::((b3,u3,[])::((b2,u2,[tr])::((b1,u1,[])::[])))):=S4';have HX4:=Y2 hX4 hb4;have HS4:=qqh S4;have HD:=qqh (Ad S4 SM SN de Yi.2.1 Yi.2.2);have HU4:=qqh hz4;rw[hz4]at HX4;rw[hz4];clear S4' S4 hX4 hb4 hz4 hR4 d4 z4;go_wp2_with fail
 rw[<-HX4.o.1,<-HX4.o.2];refine HD.o.mono ?_;rintro e W5 ⟨own5,v5,q5,p5,u5,rfl,hR5,d5,z5⟩;clear HD;have S5':=HS4.o.step hR5 d5 z5;obtain⟨b5,hb5⟩:∃b,b=W5.heap.size:=⟨_,rfl⟩
 obtain⟨ao5,c5,hz5⟩:=z5.1.rd.jU;simp only[qzc]at hz5;obtain⟨X5,hX5⟩:∃X,X=W5.alloc (.cells #[.int .i64 0,.int .i64 0,u5] 34):=⟨_,rfl⟩
 rw[<-hX5,<-hb5]at S5';have S5:AwSt w r n21 0 own5 X5 x214 ((b5,u5,[])::((b4,u4,[zB])::((b3,u3,[])::((b2,u2,[tr])::((b1,u1,[])::[]))))):=S5';have HX5:=Y2 hX5 hb5;have HS5:=qqh S5;have HD:=qqh (XO S5 (fun own5 w5 x y D=>zdl D));have HU5:=qqh hz5;rw[hz5]at HX5;rw[hz5];clear S5' S5 hX5 hb5 hz5 hR5 d5 z5;go_wp2_with fail
 rw[<-HX5.o.1,<-HX5.o.2];refine HD.o.mono ?_;rintro e W6 ⟨own6,v6,q6,p6,u6,rfl,hR6,d6,z6⟩;clear HD;have S6':=HS5.o.step hR6 d6 z6;obtain⟨b6,hb6⟩:∃b,b=W6.heap.size:=⟨_,rfl⟩
 obtain⟨ao6,c6,hz6⟩:=z6.1.rd.jU;simp only[qzc]at hz6;obtain⟨X6,hX6⟩:∃X,X=W6.alloc (.cells #[.int .i64 0,.int .i64 0,u6] 34):=⟨_,rfl⟩
 rw[<-hX6,<-hb6]at S6';have S6:AwSt w r n21 0 own6 X6 x215 ((b6,u6,[])::((b5,u5,[])::((b4,u4,[zB])::((b3,u3,[])::((b2,u2,[tr])::((b1,u1,[])::[])))))):=S6';have HX6:=Y2 hX6 hb6;have HS6:=qqh S6;have HD:=qqh (Yk S6 Yj.2.2);have HU6:=qqh hz6;rw[hz6]at HX6;rw[hz6];clear S6' S6 hX6 hb6 hz6 hR6 d6 z6;go_wp2_with fail
 rw[<-HX6.o.1,<-HX6.o.2];refine HD.o.mono ?_;rintro e W7 ⟨own7,v7,q7,p7,u7,rfl,hR7,d7,z7⟩;clear HD;have S7':=HS6.o.step hR7 d7 z7;obtain⟨b7,hb7⟩:∃b,b=W7.heap.size:=⟨_,rfl⟩
 obtain⟨ao7,c7,hz7⟩:=z7.1.rd.jU;simp only[qzc,qyz,qXx]at hz7;obtain⟨X7,hX7⟩:∃X,X=W7.alloc (.cells #[.int .i64 0,.int .i64 0,u7] 34):=⟨_,rfl⟩
 rw[<-hX7,<-hb7]at S7';have S7:AwSt w r n21 0 own7 X7 ((x215.j7 n21 2).1) ((b7,u7,[tr])::((b6,u6,[])::((b5,u5,[])::((b4,u4,[zB])::((b3,u3,[])::((b2,u2,[tr])::((b1,u1,[])::[]))))))):=S7';have HX7:=Y2 hX7 hb7;have HS7:=qqh S7;have HU7:=qqh hz7;rw[hz7]at HX7;rw[hz7];clear S7' S7 hX7 hb7 hz7 hR7 d7 z7;go_upto_region 11 with fail
 rw[<-HX7.o.1,<-HX7.o.2];have A1:=HS7.o.ans (b1,u1,[]) oe;have A2:=HS7.o.ans (b2,u2,[tr]) oe;have A3:=HS7.o.ans (b3,u3,[]) oe;have A4:=HS7.o.ans (b4,u4,[zB]) oe;have A5:=HS7.o.ans (b5,u5,[]) oe;have A6:=HS7.o.ans (b6,u6,[]) oe;have A7:=HS7.o.ans (b7,u7,[tr]) oe;have k1:X7.cell? ⟨b1,0,none⟩=some (.int .i64 0):=A1.1.cell 0;have k3:X7.cell? ⟨b3,0,none⟩=some (.int .i64 0):=A3.1.cell 0;have k5:X7.cell? ⟨b5,0,none⟩=some (.int .i64 0):=A5.1.cell 0;have k6:X7.cell? ⟨b6,0,none⟩=some (.int .i64 0):=A6.1.cell 0;have r2:X7.rangeAt b2 0 [.int .i64 0,.int .i64 0,u2]:=zg A2.1.1;have r4:X7.rangeAt b4 0 [.int .i64 0,.int .i64 0,u4]:=zg A4.1.1;have r7:X7.rangeAt b7 0 [.int .i64 0,.int .i64 0,u7]:=zg A7.1.1;obtain⟨V,hV⟩:=qqe (tr);obtain⟨Z,hZ⟩:=qqe (zB);have HA:=Y8 (show Rd X7 64 u2 1 (rowC [V])from by rw[hV];exact A2.2.1.rd) (show Rd X7 64 u4 1 (rowC [Z])from by rw[hZ];exact A4.2.1.rd) (show Rd X7 64 u7 1 (rowC [V])from by rw[hV];exact A7.2.1.rd) (show u2.oneCell'=true from A2.2.one) (show u4.oneCell'=true from A4.2.one) (show u7.oneCell'=true from A7.2.one) (show V.length=64 from by rw[hV];exact zX 2 5) (show Z.length=64 from by rw[hZ];exact zH);have HB:=qqh HS7.o.be;have HV:=qqh hV;have HZ:=qqh (yT Z hZ);clear A1 A2 A3 A4 A5 A6 A7 HS0 HS1 HS2 HS3 HS4 HS5 HS6 HS7 HX1 HX2 HX3 HX4 HX5 HX6 HX7 hV hZ;go_upto_region 12 with fail
 clear k1 k3 k5 k6;have hu0:=(uur (fun _=>False) X7).drew;have hut:=underlying34;have hsi:=xk;refine qZb (S:=fun W=>W.rangeAt b2 0 [.int .i64 0,.int .i64 0,u2]/\W.rangeAt b4 0 [.int .i64 0,.int .i64 0,u4]/\W.rangeAt b7 0 [.int .i64 0,.int .i64 0,u7]) kR (⟨by rw[qYj];exact r2,by rw[qYj];exact r4,by rw[qYj];exact r7⟩) (fun hHeld=>?_);refine Wl.i [0,1] ?_;iterate 2 refine Wl.t hHeld ?_
 refine Wl.o ?_;refine Wl.l 2 (fun w h=>h.1) hut hsi hHeld ?_;refine Wl.r 3 (fun K hK=>?_);go_simp
 refine(SO V HV.o _).mono ?_;rintro e y1 ⟨rfl,hb⟩;have hu1:=hu0.trans (uuo (S:=fun _=>False) hb);have s1:=hu1.range r2 id;have t1:=hu1.range r4 id;have q1':=hu1.range r7 id;clear hb;refine hK.o _ _ (⟨s1,t1,q1'⟩) (fun hH1=>?_);clear hK K;refine Wl.r 4 (fun K hK=>?_);go_simp
 refine(WZ (y:=V) (HA.o.1.keep hu1 (fun _ _ h=>h)) HA.o.2.2.2.2.2.2.1 (HA.o.2.2.2.1)).mono ?_;rintro e y2 ⟨rfl,hb⟩;have hu2:=hu1.trans (uuo (S:=fun _=>False) hb);have s2:=hu2.range r2 id;have t2:=hu2.range r4 id;have q2':=hu2.range r7 id;clear hb;refine hK.o _ _ (⟨s2,t2,q2'⟩) (fun hH2=>?_);clear hK K;refine Wl.r 5 (fun K hK=>?_);go_simp
 refine hK.o _ _ (hH2) (fun hH3=>?_);clear hK K;refine Wl.i [6] (Wl.t hH3 (Wl.o ?_));refine Wl.l 7 (fun w h=>h.2.1) hut hsi hH3 ?_;refine Wl.r 8 (fun K hK=>?_);refine XN oy rfl HZ.o ?_;refine hK.o _ _ (hH3) (fun hH4=>?_);clear hK K;refine Wl.r 9 (fun K hK=>?_);go_simp
 refine(WZ (y:=Z) (HA.o.2.1.keep hu2 (fun _ _ h=>h)) HA.o.2.2.2.2.2.2.2 (HA.o.2.2.2.2.1)).mono ?_;rintro e y3 ⟨rfl,hb⟩;have hu3:=hu2.trans (uuo (S:=fun _=>False) hb);have s3:=hu3.range r2 id;have t3:=hu3.range r4 id;have q3':=hu3.range r7 id;clear hb;refine hK.o _ _ (⟨s3,t3,q3'⟩) (fun hH5=>?_);clear hK K;refine Wl.r 10 (fun K hK=>?_);go_simp
 refine hK.o _ _ (hH5) (fun hH6=>?_);clear hK K;refine Wl.i [11] (Wl.t hH6 (Wl.o ?_));refine Wl.l 12 (fun w h=>h.2.2) hut hsi hH6 ?_;refine Wl.r 13 (fun K hK=>?_);go_simp
 refine(SO V HV.o _).mono ?_;rintro e y4 ⟨rfl,hb⟩;have hu4:=hu3.trans (uuo (S:=fun _=>False) hb);have s4:=hu4.range r2 id;have t4:=hu4.range r4 id;have q4':=hu4.range r7 id;clear hb;refine hK.o _ _ (⟨s4,t4,q4'⟩) (fun hH7=>?_);clear hK K;refine Wl.r 14 (fun K hK=>?_);go_simp
 refine(WZ (y:=V) (HA.o.2.2.1.keep hu4 (fun _ _ h=>h)) HA.o.2.2.2.2.2.2.1 (HA.o.2.2.2.2.2.1)).mono ?_;rintro e y5 ⟨rfl,hb⟩;have hu5:=hu4.trans (uuo (S:=fun _=>False) hb);have s5:=hu5.range r2 id;have t5:=hu5.range r4 id;have q5':=hu5.range r7 id;clear hb;refine hK.o _ _ (⟨s5,t5,q5'⟩) (fun hH8=>?_);clear hK K;refine Wl.r 15 (fun K hK=>?_);go_simp
 refine hK.o _ _ (hH8) (fun hH9=>?_);clear hK K;refine Wl.r 16 (fun K hK=>?_);go_simp
 refine hK.o _ _ (hH9) (fun hH10=>?_);clear hK K;refine Wl.d ?_;go_wp2
 go_ret
 exact⟨rfl,zj HB.o hu5 (qXo _) (fun _ h=>h.elim)⟩
end Go.Proofs.YtpejdgiccaijfaaGreatDoor
