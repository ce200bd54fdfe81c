/- A cache behind -/
import Derived.Test.YtpejdgiccaijfaaGreatDoorG22
import Derived.Test.YtpejdgiccaijfaaGreatDoorG25
import Derived.Test.YtpejdgiccaijfaaGreatDoorG23
set_option maxRecDepth 100000
set_option maxHeartbeats 1000000
namespace Go.Proofs.YtpejdgiccaijfaaGreatDoor
open Go Go.RowKit Tryz
section
section
variable{n:CaN}{a:CaS}{N:Nat}
theorem CaS.takeR_next(n:CaN)(a:CaS)(s:Int):a.next<=(a.ko n s).1.next:=by
 have h:=(a.jW n).1;unfold CaS.ko;split
 .show a.next<=(a.jV n).1.next;omega
 .show a.next<=(a.jV n).1.next;omega
theorem CaS.take2_next(n:CaN)(a:CaS):a.next<=(a.kt n).1.next:=by
 have h:=(a.committed_next n).1;unfold CaS.kt;split
 .exact qXo _
 .unfold CaS.take3;split
  .show a.next<=(a.jX n).1.next;omega
  split
  .show a.next<=(a.jX n).1.next;omega
  .exact qXq (by show a.next<=(a.jX n).1.next;omega) ((a.jX n).1.al.takeR_next n _)
theorem CaS.takes_next(n:CaN)(a:CaS):a.next<=(a.jZ n).1.next:=by
 have h:=CaS.evicts_next n 1 0 a.al;unfold CaS.jZ;split
 .exact a.al.takeR_next n _
 .unfold CaS.take1;split
  .split
   .exact h
   .exact qXq h ((CaS.j6 n 1 0 a.al).1.take2_next n)
  .exact a.al.take2_next n
theorem CaS.Fit.kj(h:a.Fit N)(hg:a.Jg n)(h1:1<=a.next)(hj:4<=n.jo)(k:Nat)(x:Bk):(a.kj n k x).1.Fit (N+3*n.pa+n.jo+6):=by
 have ht:=h.takes' hg h1 hj;have hn:=a.takes_next n;unfold CaS.kj;split
 .exact ht.mono oM
 split
 .exact (ht.j3 oM k x).mono oM
 .have hf:=ht.j4 (n:=n) (a.jZ n).2.1.toNat (k:Int) x;have hfn:=(xI n (a.jZ n).1 (a.jZ n).2.1.toNat (k:Int) x).1;unfold CaS.backS;split
  .exact hf.mono oM
  .exact (hf.ke oM (k:Int) _ (crcC x) true (by have:=vX x;omega)).mono oM
theorem CaS.Fit.thru(h:a.Fit N)(hg:a.Jg n)(h1:1<=a.next)(hj:4<=n.jo)(k:Nat)(x:Bk):(a.thru n k x).1.Fit (N+3*n.pa+n.jo+6):=by
 have ht:=h.takes' hg h1 hj;have hn:=a.takes_next n;unfold CaS.thru;split
 .exact ht.mono oM
 split
 .exact (ht.j3 oM k x).mono oM
 .have hb:=ht.bw k x;unfold CaS.thruS;split
  .exact (hb.turned _).mono oM
  .have hf:=hb.j4 (n:=n) (a.jZ n).2.1.toNat (k:Int) x;have hfn:=(xI n ((a.jZ n).1.kf (writeR (a.jZ n).1.bF (a.jZ n).1.bO (a.jZ n).1.bP k x)) (a.jZ n).2.1.toNat (k:Int) x).1;replace hfn:_=(a.jZ n).1.next:=hfn;unfold CaS.thruF;split
   .exact (hf.byp (by rw[hfn];omega) k).mono oM
   .exact (hf.ke (by rw[hfn];omega) (k:Int) _ (crcC x) false (by have:=vX x;omega)).mono oM
theorem CaS.Fit.kq(h:a.Fit N)(hg:a.Jg n)(h1:1<=a.next)(hj:4<=n.jo)(k:Int)(x:Bk)(md:Int):(a.kq n k x md).1.Fit (N+3*n.pa+n.jo+6):=by
 unfold CaS.kq;split
 .exact h.mono oM
 split
 .exact h.mono oM
 split
 .exact h.kj hg h1 hj _ x
 split
 .exact h.thru hg h1 hj _ x
 .exact (h.j3 h1 _ x).mono oM
theorem CaS.Tie.backS{s k:Nat}(h:a.Tie n (some s))(hk:k<n.bl)(x:Bk):(a.backS n k s x).1.Tie n none:=by
 unfold CaS.backS;rcases CaS.Tie.j4 h (k:Int) x with⟨hc,ht⟩|⟨hc,ht⟩
 .rw [if_neg oM];exact(CaS.Tie.put ht hk (crcC x) true).2.2
 .rw [if_pos hc];exact ht
theorem CaS.Tie.thruS{s k:Nat}(h:a.Tie n (some s))(hk:k<n.bl)(x:Bk):(a.thruS n k s x).1.Tie n none:=by
 unfold CaS.thruS;split
 .exact (TieL.shut h (.inl rfl)).2
 .unfold CaS.thruF;have h':(a.kf (writeR a.bF a.bO a.bP k x)).Tie n (some s):=h;rcases CaS.Tie.j4 h' (k:Int) x with⟨hc,ht⟩|⟨hc,ht⟩
  .rw [if_neg oM];exact(CaS.Tie.put ht hk (crcC x) false).2.2
  .rw [if_pos hc];exact CaS.Tie.byp ht k
theorem CaS.Tie.kj(h:a.Tie n none)(h1:1<=a.next)(hj:4<=n.jo){k:Nat}(hk:k<n.bl)(x:Bk):(a.kj n k x).1.Tie n none:=by
 have ht:=CaS.Tie.jZ h h1 hj;unfold CaS.kj;rcases ht with⟨h2,h3,-,s,h4,h5⟩|⟨h2,h5⟩
 .rw [if_neg oM,if_neg (by rw[h2];decide),h4,qxt];exact CaS.Tie.backS h5 hk x
 .split
  .exact h5
  .exact CaS.Tie.j3 h5 k x
theorem CaS.Tie.thru(h:a.Tie n none)(h1:1<=a.next)(hj:4<=n.jo){k:Nat}(hk:k<n.bl)(x:Bk):(a.thru n k x).1.Tie n none:=by
 have ht:=CaS.Tie.jZ h h1 hj;unfold CaS.thru;rcases ht with⟨h2,h3,-,s,h4,h5⟩|⟨h2,h5⟩
 .rw [if_neg oM,if_neg (by rw[h2];decide),h4,qxt];exact CaS.Tie.thruS h5 hk x
 .split
  .exact h5
  .exact CaS.Tie.j3 h5 k x
theorem CaS.Tie.kq(h:a.Tie n none)(h1:1<=a.next)(hj:4<=n.jo)(k:Int)(x:Bk)(md:Int):(a.kq n k x md).1.Tie n none:=by
 unfold CaS.kq;split
 .exact h
 next hk=>
 split
 .exact h
 split
 .exact CaS.Tie.kj h h1 hj oM x
 split
 .exact CaS.Tie.thru h h1 hj oM x
 .exact CaS.Tie.j3 h _ x
end
theorem vy(n k:Nat):plc (List.replicate n (-1,false)) k=(-1,false):=by
 rw[plc,qyf,qyn];split<;>rfl
theorem ve(n s:Nat):(List.replicate n (0:Int)).getD s 0=0:=by
 rw[qyf,qyn];split<;>rfl
theorem tm(bl sl:Nat):TieL bl sl (List.replicate bl (-1,false)) (List.replicate sl 0) [] none:={
  hpl:=qzd
  hsl:=qzd
  good:=Good.start _ _
  live:=fun k _ hn=>absurd (vy _ k) hn
  used:=fun s _ h2=>by rw[ve]at h2;cases h2
  opn:=fun s _=>by rw[ve];simp
  rng:=fun s _=>by rw[ve];decide
  olt:=fun s h=>by cases h
  kk:=fun k=>by
   rw[yw];constructor
   .intro h;cases h
   .rintro ⟨m,-,-,hn⟩;exact absurd (vy _ m) hn
  kd:=qzx}
def Pl(P:List Int):Prop:=∀x∈P,x=0\/x=1
theorem Sr(F:List Bk)(L:List (Nat×Bk)):∀O,(wrsR F L O []).cd=0/\(wrsR F L O []).P=[]:=by
 induction L with
 |nil=>intro O;exact⟨rfl,rfl⟩
 |cons x L ih=>intro O;rw[wrsR_yes rfl];exact ih _
theorem TO(F:List Bk)(O:List (Nat×Bk))(L:List (Nat×Bk)):(saveR F O [] L).cd=0:=by
 obtain⟨h1,h2⟩:=Sr F L O;unfold saveR;rw[if_pos h1,h2];rfl
section
variable{n:CaN}{a b c:CaS}
def CaS.NoP(a:CaS):Prop:=a.dP=[]/\a.bP=[]
theorem CaS.NoP.ckpt(h:a.NoP):(a.ckpt n).2=0:=by
 have e1:(flushR a.bF a.bO a.bP).cd=0:=by rw[h.2];rfl
 have e2:(flushR a.fb.dF a.fb.dO a.fb.dP).cd=0:=by show(flushR a.dF a.dO a.dP).cd=0;rw[h.1];rfl
 have e3:(a.fb.fd.svR n).cd=0:=by
  have hP:a.fb.fd.dP=[]:=by show(flushR a.dF a.dO a.dP).P=[];rw[h.1];rfl
  unfold CaS.svR;rw[hP];exact TO _ _ _
 unfold CaS.ckpt;rw[if_neg (fun x=>x e1),if_neg (fun x=>x e2),if_neg (fun x=>x e3)]
end
open Go Go.RowKit Go.Shelf Tryz
attribute [local go_sem] qYa
section
variable{own:Nat->Nat}{w w':World}{c:Nat}{n:CaN}{p:CaP}{a:CaS}{N:Nat}
abbrev CaN.cells(n:CaN):List Value:=superC n.id n.bl n.sl n.jo n.pa n.lo n.ba
theorem rD(h:CaAt own w c n p a):Calls prog 57 #[ptr c] w fun e w'=>e=.returned (.agg n.cells.toArray)/\Below w.heap.size w w':=by
 obtain⟨w1,hw1⟩:=qqe (w.alloc (.cells #[.int .i64 0,.int .i64 0,.int .i64 0,.int .i64 0,.int .i64 0,.int .i64 0,.int .i64 0] 44));have hu1:=qqu hw1;have g1:=qqg hw1;have hb1:Below w.heap.size w w1:=by rw[hw1];exact(qxl _ w).alloc (qXo _) _
 obtain⟨s0,s1,s2,s3,s4,s5,s6⟩:=(h.new hu1).sup;have rC:w1.rangeAt c 0 n.cells:=fun j v hv=>by
  rw[qXx];rcases j with _|_|_|_|_|_|_|j
  .cases hv;exact s0
  .cases hv;exact s1
  .cases hv;exact s2
  .cases hv;exact s3
  .cases hv;exact s4
  .cases hv;exact s5
  .cases hv;exact s6
  .cases hv
 have hth:w1.there w.heap.size 0 7:=fun j hj=>by
  rw[za g1,zf g1,qXx];exact⟨by rw[qxe oz];rfl,rfl⟩
 obtain⟨C,hC⟩:=qqe (n.cells);rw[<-hC]at rC⊢;have hCl:C.length=7:=by rw[hC];rfl
 have HC:Hid (w1.rangeAt c 0 C/\(prog.info? 44).map (·.size)=some C.length/\w1.there w.heap.size 0 C.toArray.size/\(prog.info? 44).map (·.size)=some C.toArray.size/\C.toArray.all (·.oneCell')=true/\w1.there w.heap.size 0 C.length/\Below w.heap.size w w1):=by
  refine⟨rC,by rw[hC];exact xj,(by rw[show C.toArray.size=7 from by rw[hC];rfl];exact hth),by rw[hC];exact xj,qYn (by intro v hv;rw[hC]at hv;simp[CaN.cells]at hv;rcases hv with rfl|rfl|rfl|rfl|rfl|rfl|rfl<;>rfl),by rw[hCl];exact hth,hb1⟩
 have HW:=qqh hw1;clear h hu1 g1 hb1 s0 s1 s2 s3 s4 s5 s6 rC hth hC hCl hw1;go_enter func57,ntmps57
 go_upto_region 3 with fail
 rw[<-HW.o];go_wp2_with (first
  |(refine qYy rfl _ _ rfl _ _ rfl C _ HC.o.1 underlying44 rfl HC.o.2.1 ?_)
  |(refine qZa rfl _ _ _ rfl w.heap.size 0 C.toArray rfl rfl HC.o.2.2.1 HC.o.2.2.2.1 HC.o.2.2.2.2.1 ?_)
  |fail)
 exact qYp (zv rfl _ _ w.heap.size 0 C _ rfl (qYk _ _ _ _ HC.o.2.2.2.2.2.1) underlying44 rfl HC.o.2.1) rfl ⟨rfl,zj HC.o.2.2.2.2.2.2 (zo _ w.heap.size 0 _) (qXo _) (fun k h=>oM)⟩
end
end
section
structure VoP where
 c:Nat
 li:Nat
 lc:Nat
 lf:Nat
 lb:Nat
 mb:Nat
def EL(q:VoP)(md:Int)(cl:Bool):List Value:=[ptr q.c,ptr q.li,ptr q.lc,ptr q.lf,ptr q.lb,.int .i64 1,.int .i64 0,.int .i64 2,.int .i64 md,.slice none 0 0,.bool cl]
structure VolAt(own:Nat->Nat)(w:World)(v:Nat)(q:VoP)(n:CaN)(p:CaP)(a:CaS)(md:Int)(cl:Bool):Prop where
 ca:CaAt own w q.c n p a
 g:w.heap[v]?=some (.cells (EL q md cl).toArray 112 (0,0))
 lk:tS w q.lb q.mb n.bl
 o1:own v=0
 o2:own q.lb=0
 o3:own q.mb=0
structure RunAt(own:Nat->Nat)(w:World)(r v:Nat)(q:VoP)(n:CaN)(p:CaP)(a:CaS)(md:Int)(cl:Bool):Prop where
 vo:VolAt own w v q n p a md cl
 g:w.heap[r]?=some (.cells #[.int .i64 1,.int .i64 0,.int .i64 2,ptr p.ssd,ptr p.back,ptr v] 68 (0,0))
 o:own r=0
section
variable{own own':Nat->Nat}{w w':World}{r v:Nat}{q:VoP}{n:CaN}{p:CaP}{a a':CaS}{md:Int}{cl:Bool}
theorem VolAt.did(h:VolAt own w v q n p a md cl)(hc:CaAt own' w' q.c n p a')(d:Did own own' w w'):VolAt own' w' v q n p a' md cl:=
 ⟨hc,(d.zero h.g h.o1).1,h.lk.keep d.upd (fun e=>e.1 h.o2) (fun e=>e.1 h.o3),(d.zero h.g h.o1).2,(d.zero h.lk.1 h.o2).2,(d.old _ h.lk.2.lt).trans h.o3⟩
theorem VolAt.new(h:VolAt own w v q n p a md cl)(hu:Upd (fun _=>False) w w'):VolAt own w' v q n p a md cl:=h.did (h.ca.new hu) (h.ca.jY hu)
theorem RunAt.did(h:RunAt own w r v q n p a md cl)(hc:CaAt own' w' q.c n p a')(d:Did own own' w w'):RunAt own' w' r v q n p a' md cl:=
 ⟨h.vo.did hc d,(d.zero h.g h.o).1,(d.zero h.g h.o).2⟩
theorem RunAt.new(h:RunAt own w r v q n p a md cl)(hu:Upd (fun _=>False) w w'):RunAt own w' r v q n p a md cl:=h.did (h.vo.ca.new hu) (h.vo.ca.jY hu)
def Au(own:Nat->Nat)(w:World)(v:Nat)(q:VoP)(n:CaN)(p:CaP)(a:CaS)(md:Int)(cl:Bool)(u:Value)(e:Ending)(w':World):Prop:=
 e=.returned u/\∃own',VolAt own' w' v q n p a md cl/\Did own own' w w'
end
def CaS.wrN(n:CaN)(md fr:Int)(xs:List Bk)(a:CaS):Nat->CaS
 |0=>a
 |k+1=>((CaS.wrN n md fr xs a k).kq n (fr+k) (xs.getD k zB) md).1
def CaS.wrC(n:CaN)(md fr:Int)(xs:List Bk)(a:CaS)(k:Nat):Int:=((CaS.wrN n md fr xs a k).kq n (fr+k) (xs.getD k zB) md).2
def CaS.rdN(n:CaN)(fr:Int)(a:CaS):Nat->CaS
 |0=>a
 |k+1=>((CaS.rdN n fr a k).j7 n (fr+k)).1
def CaS.rdC(n:CaN)(fr:Int)(a:CaS)(k:Nat):Bk×Int:=((CaS.rdN n fr a k).j7 n (fr+k)).2
open Go Go.RowKit Go.Shelf Tryz
attribute [local go_sem] qYa
theorem uJ(a b c d e f g:Int)(W:World):(Instr.field 44 (.agg #[.int .i64 a,.int .i64 b,.int .i64 c,.int .i64 d,.int .i64 e,.int .i64 f,.int .i64 g]) 1).run prog W=.ok (.int .i64 b) W:=by
 kernel_rfl
theorem ZZ(a b c d e f g:Int)(W:World):(Instr.field 44 (.agg #[.int .i64 a,.int .i64 b,.int .i64 c,.int .i64 d,.int .i64 e,.int .i64 f,.int .i64 g]) 2).run prog W=.ok (.int .i64 c) W:=by
 kernel_rfl
end
section
section
variable{own:Nat->Nat}{w w':World}{v:Nat}{q:VoP}{n:CaN}{p:CaP}{a:CaS}{md:Int}{cl:Bool}
theorem rE(h:VolAt own w v q n p a md false):Calls prog 99 #[ptr v] w fun e w'=>e=.returned (.int .i64 0)/\w'=w:=by
 have c:=za h.g 10;simp[EL]at c;clear h;go_enter func99,ntmps99
 go_wp2
 go_ret
 exact⟨rfl,rfl⟩
theorem EM(h:VolAt own w v q n p a md cl){f m:Int}(hs:Eh n.bl f m):Calls prog 100 #[ptr v,Ar f m] w fun e w'=>e=.returned (.bool true)/\Below w.heap.size w w':=by
 obtain⟨w1,hw1⟩:=qqe (w.alloc (.cells #[.int .i64 f,.int .i64 m] 52));have hu1:=qqu hw1;have g1:=qqg hw1;have h1:=h.new hu1;have c:=za h1.g 0;simp[EL]at c;have HS:=qqh (rD h1.ca);obtain⟨s1,s2,s3,s4⟩:=hs;have hb:=h.ca.ok.b2;have q1:f>=0:=oM;have q2:m>=1:=oM;have q3:f<=(n.bl:Int):=oM;have q4:IntKind.i64.wrap ((n.bl:Int)-f)=(n.bl:Int)-f:=qxu _ oM;have q5:m<=(n.bl:Int)-f:=oM;have hfb:=uJ (n.id:Int) (n.bl:Int) (n.sl:Int) (n.jo:Int) (n.pa:Int) (n.lo:Int) (n.ba:Int);have HW:=Y3 hw1 hu1 g1;clear h hw1 hu1 g1 h1 hb s1 s2 s3 s4;go_enter func100,ntmps100
 go_upto_region 1 with fail
 rw[<-HW.o.1];go_wp2_with fail
 refine HS.o.mono ?_;rintro e w2 ⟨rfl,hb2⟩;have hu2:=qqb hb2;have g2:=hu2.jT HW.o.2.2;have k0:=za g2 0;have k1:=za g2 1;simp at k0 k1;have H2:=qqh (HW.o.2.1.trans hu2);clear hb2 hu2 g2 c;go_wp2
 go_ret
 exact⟨rfl,H2.o.below⟩
theorem EN(h:VolAt own w v q n p a md cl){f m:Int}(hs:Eh n.bl f m):Calls prog 105 #[ptr v,Ar f m] w fun e w'=>e=.returned (.int .i64 0)/\Below w.heap.size w w':=by
 obtain⟨b,hb⟩:=qqe (w.heap.size);obtain⟨w1,hw1⟩:=qqe (w.alloc (.cells #[.int .i64 f,.int .i64 m] 52));have hu1:=qqu hw1;have g1:w1.heap[b]?=some (.cells #[.int .i64 f,.int .i64 m] 52 (0,0)):=by rw[hw1,hb];exact zc w _ rfl
 have h1:=h.new hu1;have c0:=za h1.g 4;simp[EL]at c0;have r1:=zg g1;have HF:=qqh (Ej (h1.new ((uur _ w1).drew)).lk h.ca.ok.b2 hs);have HW:=Y3 hw1 hu1 hb;have hut:=underlying52;have hsi:=wV;clear h hw1 hu1 g1 h1 hb;go_enter func105,ntmps105
 go_upto_region 1 with fail
 rw[<-HW.o.1,<-HW.o.2.2];refine qZb (S:=fun W=>W.cell? ⟨v,4,none⟩=some (ptr q.lb)/\W.rangeAt b 0 [.int .i64 f,.int .i64 m]) kR (⟨by rw[qYh];exact c0,by rw[qYj];exact r1⟩) (fun hHeld=>?_);refine Wl.i [0,1,2,3] ?_;iterate 4 refine Wl.t hHeld ?_
 refine Wl.o ?_;refine Wl.l 4 (fun w h=>h.2) hut hsi hHeld ?_;refine Wl.r 5 (fun K hK=>?_);go_simp
 refine HF.o.mono ?_;rintro e w2 ⟨rfl,hb2⟩;have H2:=qqh (HW.o.2.1.drew.trans (uuo (S:=fun _=>False) hb2));have c2:=(uuo (S:=fun _=>False) hb2).jS c0 id;have r2:=(uuo (S:=fun _=>False) hb2).range r1 id;clear hb2;refine hK.o _ _ (⟨c2,r2⟩) (fun hH1=>?_);clear hK K;refine Wl.r 6 (fun K hK=>?_);go_simp
 refine hK.o _ _ (hH1) (fun hH2=>?_);clear hK K;refine Wl.d ?_;go_wp2
 go_ret
 exact⟨rfl,H2.o.below⟩
theorem TP(h:VolAt own w v q n p a md cl)(k:Int):Calls prog 103 #[ptr v,.int .i64 k] w fun e w'=>e=.returned (.bool false)/\Below w.heap.size w w':=by
 have c:=za h.g 4;simp[EL]at c;have HH:=qqh (Ts h.lk k);clear h;go_enter func103,ntmps103
 go_wp2_with fail
 refine HH.o.mono ?_;rintro e w2 ⟨rfl,hb2⟩;have H2:=qqh hb2;clear hb2 c;go_wp2
 go_ret
 exact⟨rfl,H2.o⟩
theorem Un{g N:Nat}(fd:Nat)(fi ca:Array Value)(St:Nat->World->Prop){f:Int}(hf:0<=f/\f+N<=4096){w:World}(hent:∀args w,(callFunc fd args).run prog w=.ok (.enter fd args) w)
  (hk:∀k W,St k W->W.cell? ⟨w.heap.size,0,none⟩=some (.int .i64 f))
  (hdo:∀k,k<N->∀W,St k W->Calls prog fd (fi++ #[.int .i64 (f+(k:Int))]++ca) W fun e W'=>e=.returned (.int .i64 0)/\St (k+1) W')
  (h0:St 0 (w.alloc (.cells #[.int .i64 f,.int .i64 (N:Int)] 52))):Calls prog 101 #[ptr g,Ar f N,.func (.func fd) fi ca] w fun e w'=>e=.returned (.int .i64 0)/\St N w':=by
 obtain⟨m,hm⟩:=qqe (w.heap.size);obtain⟨w1,hw1⟩:=qqe (w.alloc (.cells #[.int .i64 f,.int .i64 (N:Int)] 52));have g1:w1.heap[m]?=some (.cells #[.int .i64 f,.int .i64 (N:Int)] 52 (0,0)):=by rw[hw1,hm];exact zc w _ rfl
 have c1:w1.cell? ⟨m,1,none⟩=some (.int .i64 (N:Int)):=za g1 1;rw[<-hw1]at h0;rw[<-hm]at hk;have H:=Y4 hk hdo h0 hf;have HW:=Y2 hw1 hm;clear hk hdo h0 hw1 hm g1 hf;go_enter func101,ntmps101
 go_upto_region 1 with fail
 rw[<-HW.o.1,<-HW.o.2];go_wp2_with fail
 clear c1;go_loopg[11] N (fun gk i wr=>∃k:Nat,k+gk=N/\i=.int .i64 (k:Int)/\St k wr)
 case atStart=>exact⟨0,oM,rfl,H.o.2.2.1⟩
 case round=>
  obtain⟨k,hk,rfl,hS⟩:=hrel;by_cases hlt:k<N
  .have k1:(k:Int)<(N:Int):=oM;have hf:=H.o.2.2.2;have c0:=H.o.1 k wr hS;have k2:f+(k:Int)+1<=4096:=oM;have k3:0<=f:=hf.1;have HC:=qqh (H.o.2.1 k hlt wr hS);clear hS hf;go_wp2_with fail
   refine HC.o.mono ?_;rintro e w2 ⟨rfl,hS2⟩;have HS2:=qqh hS2;clear hS2 HC c0;go_wp2_with fail
   go_roundg (gk-1)
   case measure=>omega
   case rel=>exact⟨k+1,oM,by go_num,HS2.o⟩
  .obtain rfl:k=N:=oM;have k1:¬((k:Int)<(k:Int)):=oM;have HS2:=qqh hS;clear hS;go_wp2_with fail
   try rw[qxq]
   go_ret
   exact⟨rfl,HS2.o⟩
end
structure VoFr(own0:Nat->Nat)(w0:World)(v:Nat)(q:VoP)(n:CaN)(p:CaP)(md:Int)(own:Nat->Nat)(W:World)(a:CaS):Prop where
 vo:VolAt own W v q n p a md false
 d:Did own0 own w0 W
 b:v<w0.heap.size/\q.lb<w0.heap.size/\q.mb<w0.heap.size/\0<w0.heap.size/\1<w0.heap.size
section
variable{own0 own own':Nat->Nat}{w0 W W':World}{v:Nat}{q:VoP}{n:CaN}{p:CaP}{a a':CaS}{md:Int}
theorem VoFr.start(h:VolAt own W v q n p a md false):VoFr own W v q n p md own W a:=⟨h,Did.refl h.ca.far,zd h.g,zd h.lk.1,h.lk.2.lt,h.ca.nib.lt,h.ca.tur.lt⟩
theorem VoFr.did(h:VoFr own0 w0 v q n p md own W a)(hc:CaAt own' W' q.c n p a')(d:Did own own' W W'):VoFr own0 w0 v q n p md own' W' a':=⟨h.vo.did hc d,h.d.trans d,h.b⟩
theorem VoFr.new(h:VoFr own0 w0 v q n p md own W a)(hu:Upd (fun _=>False) W W'):VoFr own0 w0 v q n p md own W' a:=h.did (h.vo.ca.new hu) (h.vo.ca.jY hu)
theorem VoFr.aside(h:VoFr own0 w0 v q n p md own W a){S:Nat->Prop}(hu:Upd S W W')(hS:∀j,S j->w0.heap.size<=j/\own j=0):VoFr own0 w0 v q n p md own W' a:=by
 obtain⟨b1,b2,b3,b4,b5⟩:=h.b;have hn:∀j,j<w0.heap.size->¬S j:=fun j hj hs=>absurd (hS j hs).1 oM;exact⟨⟨h.vo.ca.j9 hu (fun j hs=>⟨(hS j hs).2,fun e=>hn j (e▸b4) hs,fun e=>hn j (e▸b5) hs⟩),(hu.block v (zd h.vo.g) (hn v b1)).trans h.vo.g,h.vo.lk.keep hu (hn _ b2) (hn _ b3),h.vo.o1,h.vo.o2,h.vo.o3⟩,
  ⟨h.d.upd.new hu (fun i hi hs=>absurd hs (hn i hi)),h.d.old,h.d.new,fun j hj=>h.d.far j (qXq hu.size hj)⟩,h.b⟩
def Bo(own:Nat->Nat)(W:World)(b:Nat)(cs:Array Value)(t:TypeId):Prop:=W.heap[b]?=some (.cells cs t (0,0))/\own b=0
theorem Bo.did{b:Nat}{cs:Array Value}{t:TypeId}(h:Bo own W b cs t)(d:Did own own' W W'):Bo own' W' b cs t:=d.zero h.1 h.2
theorem Bo.keep{b:Nat}{cs:Array Value}{t:TypeId}{S:Nat->Prop}(h:Bo own W b cs t)(hu:Upd S W W')(hs:¬S b):Bo own W' b cs t:=⟨(hu.block b (zd h.1) hs).trans h.1,h.2⟩
theorem Bo.cell{b:Nat}{cs:Array Value}{t:TypeId}(h:Bo own W b cs t)(k:Nat):W.cell? ⟨b,k,none⟩=cs[k]?:=za h.1 k
def Ro(w0:World)(own:Nat->Nat)(W:World)(v:Value)(F:List Bk):Prop:=Sl W 60 64 v F.length (rowC F)/\∀g,v.ownBlock=some g->w0.heap.size<=g/\own g=0
theorem Ro.did{u:Value}{F:List Bk}(h:Ro w0 own W u F)(d:Did own own' W W'):Ro w0 own' W' u F:=
 ⟨h.1.keep d.upd (fun g hg hs=>hs.1 (h.2 g hg).2),fun g hg=>⟨(h.2 g hg).1,(d.old g (h.1.lt hg)).trans (h.2 g hg).2⟩⟩
theorem Ro.keep{S:Nat->Prop}{u:Value}{F:List Bk}(h:Ro w0 own W u F)(hu:Upd S W W')(hs:∀g,u.ownBlock=some g->¬S g):Ro w0 own W' u F:=⟨h.1.keep hu hs,h.2⟩
theorem Ro.ne{u:Value}{F:List Bk}(h:Ro w0 own W u F){b:Nat}{cs:Array Value}{t:TypeId}(hb:W.heap[b]?=some (.cells cs t (0,0)))(ht:t≠60):¬ownS u b:=by
 intro e;obtain⟨-,⟨rfl,-⟩|⟨g,off,cap,cur,rfl,hg,-⟩⟩:=h.1
 .cases e
 .cases e;rw[hg]at hb;cases hb;exact ht rfl
def CaS.rdL(n:CaN)(f:Int)(a:CaS)(k:Nat):List Bk:=(List.range k).map fun j=>(CaS.rdC n f a j).1
theorem CaS.rdL_len(n:CaN)(f:Int)(a:CaS)(k:Nat):(CaS.rdL n f a k).length=k:=by simp[CaS.rdL]
theorem CaS.rdL_snoc(n:CaN)(f:Int)(a:CaS)(k:Nat):CaS.rdL n f a (k+1)=CaS.rdL n f a k++[(CaS.rdC n f a k).1]:=by simp[CaS.rdL,List.range_succ]
def RdSt(own0:Nat->Nat)(w0:World)(v:Nat)(q:VoP)(n:CaN)(p:CaP)(md:Int)(a:CaS)(f:Int)(vb lb sb:Nat)(sv:Array Value)(k:Nat)(W:World):Prop:=
 ∃own lv,VoFr own0 w0 v q n p md own W (CaS.rdN n f a k)/\Bo own W vb #[ptr v] 49/\Bo own W sb sv 52/\Bo own W lb #[lv] 32/\w0.heap.size<=lb/\Ro w0 own W lv (CaS.rdL n f a k)
theorem zba{f:Int}{vb lb sb k:Nat}{sv:Array Value}(h:RdSt own0 w0 v q n p md a f vb lb sb sv k W)(hk:(CaS.rdC n f a k).2=0)(hk4:k<4096):
  Calls prog 102 #[.int .i64 (f+(k:Int)),ptr vb,ptr lb] W fun e W'=>e=.returned (.int .i64 0)/\RdSt own0 w0 v q n p md a f vb lb sb sv (k+1) W':=by
 obtain⟨own,lv,hv,bv,bs,bl,hlb,hr⟩:=h;have c1:=bv.cell 0;have HL:=qqh (TP hv.vo (f+(k:Int)));have H:=Y7 hv bv bs bl hlb hr hk;simp at c1;clear hv bv bs bl hlb hr hk;go_enter func102,ntmps102
 go_wp2_with fail
 refine HL.o.mono ?_;rintro e W2 ⟨rfl,hb2⟩;have hu2:=qqb hb2;have hv2:=H.o.1.new hu2;have bv2:=H.o.2.1.keep hu2 id;have c1:=bv2.cell 0;have c2:=za hv2.vo.g 0;simp[EL]at c1 c2;have HC:=qqh (EB hv2.vo.ca (f+(k:Int)));have H2:=Y5 hv2 bv2 (H.o.2.2.1.keep hu2 id) (H.o.2.2.2.1.keep hu2 id) (H.o.2.2.2.2.2.1.keep hu2 (fun _ _ h=>h));clear hb2 hu2 hv2 bv2 HL;go_wp2_with fail
 refine HC.o.mono ?_;rintro e W3 ⟨y,cd,hy,hcd,hyl,rfl,own3,h3,d3⟩;have hcd0:cd=0:=hcd.trans H.o.2.2.2.2.2.2;subst hcd0;obtain⟨hv2,bv2,bs2,bl2,hr2⟩:=H2.o;have hv3:VoFr own0 w0 v q n p md own3 W3 (CaS.rdN n f a (k+1)):=hv2.did h3 d3;obtain⟨W4,hW4⟩:=qqe (W3.alloc (.cells (bkC y).toArray 60));have hu4:=qqu hW4;have g4:=qqg hW4;have r4:=zg g4;have bl4:=(bl2.did d3).keep hu4 id;have hr4:=(hr2.did d3).keep hu4 (fun _ _ h=>h);have c4:=bl4.cell 0;simp at c4;have hyc:(bkC y).length=64:=by rw[zm,hyl]
 have hy64:(prog.info? 60).map (·.size)=some (bkC y).length:=by rw[hyc];exact zF
 obtain⟨i0,z,hi,hz,hzs,hsz,hby⟩:=yj;have HK:=Y5 hi hz hzs hsz hby;have HY:=Y4 hyc (zu y) hy64 hy;have hsl0:=hr4.1;have HS:=qqh (show Sl W4 60 64 lv k (rowC (CaS.rdL n f a k)) by have:=hr4.1;rwa[CaS.rdL_len]at this);have H4:=Y5 (hv3.new hu4) ((bv2.did d3).keep hu4 id) ((bs2.did d3).keep hu4 id) bl4 hr4;have HW4:=qqh hW4;rw[CaS.rdL_len]at hsl0;obtain⟨ao,cc,rfl⟩:=hsl0.rd.jU;clear hy hcd hyl h3 d3 hv2 bv2 bs2 bl2 hr2 hv3 hu4 g4 bl4 hr4 hW4 hyc hy64 hi hz hzs hsz hby c1 c2 HC;go_wp2_with (first
  |(refine zk rfl _ _ _ rfl _ _ (bkC y) rfl rfl (by rw[HY.o.1];rfl) HY.o.2.2.1 HY.o.2.1 ?_;refine Stop.i ?_)
  |fail)
 unfold Stop;rw[<-HW4.o];go_wp2_with (first
  |(refine qYy rfl _ _ rfl _ _ rfl _ _ r4 underlying60 rfl HY.o.2.2.1 ?_)
  |(refine ym rfl 32 60 _ rfl 64 de underlying32 ⟨i0,z,HK.o.1,HK.o.2.1,HK.o.2.2.1,HK.o.2.2.2.1⟩ de (bkC y) rfl HY.o.1 ?_)
  |(at_builtin;refine zG rfl _ _ _ rfl i0 z 64 underlying32 HK.o.1 HK.o.2.1 HK.o.2.2.2.1 HK.o.2.2.2.2 HK.o.2.2.1 de rfl HS.o (bkC y) oy HY.o.1 HY.o.2.1 oj oM ?_;intro v' w11 hs11 hu11 hbf;refine Stop.i ?_)
  |fail)
 obtain⟨av,cv,rfl⟩:=hs11.rd.jU;obtain⟨v',hv'⟩:=qqe (Value.slice av (k+1) cv);rw[<-hv']at hs11 hbf;obtain⟨hv4,bv4,bs4,bl4,hr4⟩:=H4.o;replace hu11:Upd (ownS (.slice ao k cc)) W4 w11:=hu11;replace hbf:blockFrom W4 (.slice ao k cc) v':=hbf;have hr4':Ro w0 own3 W4 (.slice ao k cc) (CaS.rdL n f a k):=hr4;have hlb:=H.o.2.2.2.2.1;have hv5:=hv4.aside hu11 (fun j hj=>hr4'.2 j hj);have bv5:=bv4.keep hu11 (hr4'.ne bv4.1 de);have bs5:=bs4.keep hu11 (hr4'.ne bs4.1 de);have bl5:=bl4.keep hu11 (hr4'.ne bl4.1 de);have hn5:v'.ownBlock≠some lb:=fun e=>by
  rcases hbf with h|⟨g,h,hg⟩
  .exact hr4'.ne bl4.1 de (h.symm.trans e)
  .rw [h]at e;cases e;exact absurd (zd bl4.1) oM
 have hro:∀g,v'.ownBlock=some g->w0.heap.size<=g/\own3 g=0:=fun g hg=>by
  rcases hbf with h|⟨g',h,hg'⟩
  .exact hr4'.2 g (h.symm.trans hg)
  .rw [h]at hg;cases hg;exact⟨qXq (qXq (Nat.le_of_lt (zd bl4.1)|>fun _=>hv4.d.upd.size) (qXo _)) hg',hv4.vo.ca.far g hg'⟩
 have HV:=qqh hv';have k5:=bl5.cell 0;have f5:=zf bl5.1 0;simp at k5;have hus:=zi w11 lb 0 v';have HE:=Y7 (hv5.aside hus (fun j (hj:j=lb)=>by rw[hj];exact⟨hlb,bl5.2⟩)) (bv5.keep hus (fun e=>by
  have h1:=bv5.1;have h2:=bl5.1;rw[e,h2]at h1;cases h1)) (bs5.keep hus (fun e=>by
  have h1:=bs5.1;have h2:=bl5.1;rw[e,h2]at h1;cases h1)) (show Bo own3 (w11.setCell ⟨lb,0,none⟩ v') lb #[v'] 32 from⟨yZ bl5.1,bl5.2⟩) hlb (hs11.keep hus (fun g hg e=>hn5 jR)) hro
 rw[hv']at HE;clear hv4 bv4 bs4 bl4 hr4 hu11 hbf hr4' hlb hv5 bv5 bs5 bl5 hn5 hro hus hs11 r4 hv';unfold Stop;go_wp2
 go_ret
 obtain⟨a1,a2,a3,a4,a5,a6,a7⟩:=HE.o;refine⟨rfl,own3,_,a1,a2,a3,a4,a5,?_,a7⟩;rw[CaS.rdL_len,CaS.rdL_snoc,xt,show(CaS.rdC n f a k).1=y from HY.o.2.2.2.symm];exact a6
theorem EO(h:VolAt own W v q n p a md false){f:Int}{N:Nat}(hs:Eh n.bl f N)(hc:∀k,k<N->(CaS.rdC n f a k).2=0):
  Calls prog 62 #[ptr v,Ar f N] W fun e W'=>∃u own',e=.returned (.tuple #[u,.int .i64 0])/\VolAt own' W' v q n p (CaS.rdN n f a N) md false/\Did own own' W W'/\Ro W own' W' u (CaS.rdL n f a N):=by
 have hb4:=h.ca.ok.b2;have hN4:N<=4096:=by obtain⟨-,-,s3,-⟩:=hs;omega
 have hf4:0<=f/\f+N<=4096:=by obtain⟨s1,-,-,s4⟩:=hs;omega
 obtain⟨vb,hvb⟩:=qqe (W.heap.size);obtain⟨w1,hw1⟩:=qqe ((W.alloc (.cells #[ptr v] 49)).alloc (.cells #[.int .i64 f,.int .i64 (N:Int)] 52));have hu1:Upd (fun _=>False) W w1:=by rw[hw1];exact((uur _ W).alloc _).alloc _
 have g0:w1.heap[vb]?=some (.cells #[ptr v] 49 (0,0)):=by rw[hw1,hvb];exact(qxk _ _ _ oe).trans (zc W _ rfl)
 have g1:w1.heap[vb+1]?=some (.cells #[.int .i64 f,.int .i64 (N:Int)] 52 (0,0)):=by rw[hw1,hvb];exact zc _ _ oe
 have F1:VoFr own W v q n p md own w1 a:=(VoFr.start h).new hu1;have b0:Bo own w1 vb #[ptr v] 49:=⟨g0,h.ca.far _ oM⟩
 have b1:Bo own w1 (vb+1) #[.int .i64 f,.int .i64 (N:Int)] 52:=⟨g1,h.ca.far _ oM⟩
 obtain⟨Z,hZ,hmk⟩:=WL N hN4;have c0:=b0.cell 0;have r1:=zg g1;simp at c0;have HR:=qqh (rE F1.vo);have HF:=qqh (EM F1.vo hs);have H:=Y8 F1 b0 b1 hf4 hN4 hZ hc hw1;have hut:=underlying52;have hsi:=wV;have hmf:=qqf;clear h hs hb4 hf4 hN4 hw1 hu1 g0 g1 F1 b0 b1 hZ hc;go_enter func62,ntmps62
 go_upto_region 1 with fail
 rw[<-H.o.2.2.2.2.2.2.2,<-hvb];clear hvb;go_wp2_with fail
 refine HR.o.mono ?_;rintro e w2 ⟨rfl,rfl⟩;go_wp2_with (first
  |(refine qYy rfl _ _ rfl _ _ rfl _ _ r1 hut rfl hsi ?_)
  |fail)
 refine HF.o.mono ?_;rintro e w3 ⟨rfl,hb3⟩;have hu3:=uuo (S:=fun _=>False) hb3;have k1:=(H.o.2.2.1.keep hu3 id).cell 1;simp at k1;obtain⟨zb,hzb⟩:=qqe (w3.heap.size);obtain⟨w4,hw4⟩:=qqe ((w3.alloc (.cells Z 60)).alloc (.cells #[.slice (some ⟨zb,0,none⟩) 0 N] 32));have hu4:Upd (fun _=>False) w3 w4:=by rw[hw4];exact((uur _ w3).alloc _).alloc _
 have gz:w4.heap[zb]?=some (.cells Z 60 (0,0)):=by rw[hw4,hzb];exact(qxk _ _ _ oe).trans (zc w3 _ rfl)
 have gl:w4.heap[zb+1]?=some (.cells #[.slice (some ⟨zb,0,none⟩) 0 N] 32 (0,0)):=by rw[hw4,hzb];exact zc _ _ oe
 have hz4:w4.heap.size=zb+2:=by rw[hw4,hzb];simp
 have hWz:W.heap.size<=zb:=by rw[hzb];exact(H.o.1.new hu3).d.upd.size
 have F4:=(H.o.1.new hu3).new hu4;have b0:=(H.o.2.1.keep hu3 id).keep hu4 id;have b1:=(H.o.2.2.1.keep hu3 id).keep hu4 id;have r4:=zg b1.1;have c4:=b0.cell 0;simp at c4;have hfar:∀j,w3.heap.size<=j->own j=0:=(H.o.1.new hu3).vo.ca.far;have hro:Ro W own w4 (.slice (some ⟨zb,0,none⟩) 0 N) []:=by
  refine⟨⟨rfl,.inr ⟨zb,0,N,Z,rfl,gz,qXy _,by have:=H.o.2.2.2.2.1;unfold maxLen;omega,by rw[H.o.2.2.2.2.2.1];omega,fun j u hj=>by simp[rowC]at hj⟩⟩,fun g hg=>?_⟩;cases hg;exact⟨hWz,hfar _ (Nat.le_of_eq hzb.symm)⟩
 have hst:RdSt own W v q n p md a f vb (zb+1) (zb+2) #[.int .i64 f,.int .i64 (N:Int)] 0 (w4.alloc (.cells #[.int .i64 f,.int .i64 (N:Int)] 52)):=by
  have hua:Upd (fun _=>False) w4 (w4.alloc (.cells #[.int .i64 f,.int .i64 (N:Int)] 52)):=(uur _ w4).alloc _;exact⟨own,_,F4.new hua,b0.keep hua id,⟨zc _ _ hz4.symm,hfar _ oM⟩,(show Bo own w4 (zb+1) _ _ from⟨gl,hfar _ oM⟩).keep hua id,oM,hro.keep hua (fun _ _ h=>h)⟩
 have HE:=qqh (Un (g:=v) (N:=N) 102 #[] #[ptr vb,ptr (zb+1)] (RdSt own W v q n p md a f vb (zb+1) (zb+2) #[.int .i64 f,.int .i64 (N:Int)]) H.o.2.2.2.1 (w:=w4) (enters_of func102 kR rfl)
  (fun k X hX=>by
   obtain⟨own',lv,-,-,bs,-⟩:=hX;rw[hz4];exact bs.cell 0)
  (fun k hk X hX=>zba hX (H.o.2.2.2.2.2.2.1 k hk) jD) hst)
 have HW4:=Y2 hw4 hzb;have hz4':=qqh hz4;clear hb3 hu3 hu4 gz gl hz4 hWz F4 b0 b1 hfar hro hst r1 c0 HF HR hw4 hzb;go_upto_region 7 with fail
 rw[<-HW4.o.2,<-HW4.o.1];go_wp2_with (first
  |(refine qYy rfl _ _ rfl _ _ rfl _ _ r4 hut rfl hsi ?_)
  |fail)
 refine HE.o.mono ?_;rintro e w5 ⟨rfl,own5,lv,hv5,-,-,bl5,-,hr5⟩;have c5:=bl5.cell 0;simp at c5;have H5:=Y2 hv5 hr5;clear hv5 bl5 hr5 HE r4 c4;go_wp2
 go_ret2
 exact⟨_,own5,rfl,H5.o.1.vo,H5.o.1.d,H5.o.2⟩
end
open Go Go.RowKit Go.Shelf Tryz
attribute [local go_sem] qYa
end
section
open Go Go.RowKit Go.Shelf Tryz
attribute [local go_sem] qYa
end
section
def rightP(hi lo ba sl:Int):Prop:=0<=lo/\lo<=hi/\hi<=sl/\1<=ba/\ba<=64
instance(hi lo ba sl:Int):Decidable (rightP hi lo ba sl):=by unfold rightP;exact inferInstance
def chkP(hi lo ba sl:Int):Int:=if rightP hi lo ba sl then 0 else 1
abbrev zer(hi lo ba:Int):Value:=.agg #[.int .i64 hi,.int .i64 lo,.int .i64 ba]
theorem Su(hi lo ba sl:Int)(w:World):Calls prog 56 #[zer hi lo ba,.int .i64 sl] w fun e w'=>e=.returned (.int .i64 (chkP hi lo ba sl))/\Below w.heap.size w w':=by
 obtain⟨w1,hw1⟩:=qqe (w.alloc (.cells #[.int .i64 hi,.int .i64 lo,.int .i64 ba] 46));have g1:=qqg hw1;have hb1:Below w.heap.size w w1:=by rw[hw1];exact(qxl _ w).alloc (qXo _) _
 have k0:=za g1 0;have k1:=za g1 1;have k2:=za g1 2;simp at k0 k1 k2;have HW:=Y2 hw1 hb1;clear hw1 g1 hb1;unfold chkP;by_cases hR:rightP hi lo ba sl
 .rw [if_pos hR];obtain⟨r1,r2,r3,r4,r5⟩:=hR;go_enter func56,ntmps56
  go_upto_region 1 with fail
  rw[<-HW.o.1];go_wp2
  go_ret
  exact⟨rfl,HW.o.2⟩
 .rw [if_neg hR];have hN:lo<0\/hi<lo\/sl<hi\/ba<1\/64<ba:=by unfold rightP at hR;omega
  clear hR;go_enter func56,ntmps56
  go_upto_region 1 with fail
  rw[<-HW.o.1];go_wp2
  all_goals
   go_ret
   exact⟨rfl,HW.o.2⟩
end
end Go.Proofs.YtpejdgiccaijfaaGreatDoor
