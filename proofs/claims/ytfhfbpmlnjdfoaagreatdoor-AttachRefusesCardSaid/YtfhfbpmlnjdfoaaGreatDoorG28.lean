/- lavaboref14.Pa -/
import Derived.Test.YtfhfbpmlnjdfoaaGreatDoorG27
set_option maxRecDepth 100000
set_option maxHeartbeats 2000000
namespace Go.Proofs.YtfhfbpmlnjdfoaaGreatDoor
open Go Go.RowKit Tryz
theorem Pst.app{B:Nat->Prop}{w:World}{p N M:Nat}{vo:Value}{xs:List Value}(h:Pst B w p N M vo xs)(hM:M<=100000){i:Nat}(hi:i<N)(news:List Int)(hn:news.length<=100)(hb:∀x∈news,0<=x/\x<=255):
  ∃g off cap b o m c ao3 cap3 w3,vo=.slice (some ⟨g,off,none⟩) N cap/\w.cell? ⟨p,0,none⟩=some (.slice (some ⟨g,off,none⟩) N cap)/\w.cell? ⟨g,off+i,none⟩=some (.slice (some ⟨b,o,none⟩) (m+1) c)/\
   (Builtin.append_ #[87,87] 87 #[.slice (some ⟨b,o,none⟩) (m+1) c,.slice (some ⟨w.drew.heap.size,0,none⟩) news.length news.length]).run prog (w.drew.alloc (.cells (ints news).toArray 3))=.ok (.slice ao3 (m+1+news.length) cap3) w3/\
   w3.cell? ⟨p,0,none⟩=some (.slice (some ⟨g,off,none⟩) N cap)/\w3.cell? ⟨g,off+i,none⟩=some (.slice (some ⟨b,o,none⟩) (m+1) c)/\w3.frozen? ⟨g,off+i,none⟩=false/\p≠g/\
   ∃xs',Pst (fun j=>B j\/w.heap.size<=j) (w3.setCell ⟨g,off+i,none⟩ (.slice ao3 (m+1+news.length) cap3)) p N (M+news.length) vo xs'/\Upd (fun j=>B j\/w.heap.size<=j) w (w3.setCell ⟨g,off+i,none⟩ (.slice ao3 (m+1+news.length) cap3)):=by
 obtain⟨g,off,cap,b,o,m,c,x,rfl,c1,c2,⟨hm,-⟩,hx⟩:=h.look hi;have c0:=za h.str 0;simp only[qyv,qyl]at c0;have hix:i<xs.length:=by rw[h.len];exact hi
 obtain⟨w1,hw1⟩:=qqe (w.drew.alloc (.cells (ints news).toArray 3));have u1:Upd (fun _=>False) w w1:=by rw[hw1];exact((uur _ w).drew).alloc _
 have h1:=h.keep u1 (fun _ _ h=>h);obtain⟨L,l1,l2,l0,hs⟩:=h1.els _ (qyz hix);have hxe:xs[i]=.slice (some ⟨b,o,none⟩) (m+1) c:=by rw[qyn hix]at hx;exact qYj hx
 have hrd:Rd w1 1 (.slice (some ⟨w.drew.heap.size,0,none⟩) news.length news.length) news.length (ints news):=by rw[hw1];exact Rd.fresh w.drew (ints news) 3 news.length (by simp[ints]) og
 obtain⟨ii,hii,hz0,hz1,hz2⟩:=qZa Sk;obtain⟨v',w3,hrun,hs3,hu3,hbf⟩:=yl 87 87 ii (.int .i64 0) 8 underlying87 hii hz0 hz1 hz2 rfl de hs hrd (fun u hu=>by simp only[ints,qzv]at hu;obtain⟨a,-,rfl⟩:=hu;rfl) og oM;have hel:PsEl w3 (M+news.length) v':=by
  refine⟨L++news,by simp;omega,by simp;omega,fun y hy=>by rcases qzq.1 hy with hy|hy;exact l0 y hy;exact hb y hy,?_⟩;have e:(L++news).length=L.length+news.length:=oe;rw[e,show ints (L++news)=ints L++ints news by simp[ints]];exact hs3
 obtain⟨hP,hU⟩:=h1.put hix (qXu M news.length) hu3 hel hbf;have hLm:L.length=m+1:=by obtain⟨ao,cc,e⟩:=hs.rd.j7;rw[hxe]at e;injection e with _ e2 _;exact e2.symm
 obtain⟨ao3,cap3,hv3⟩:=hs3.rd.j7;subst hv3;rw[hLm]at hrun hP hU;rw[hxe]at hrun hu3;have hw:∀j,(B j\/w1.heap.size<=j)->(B j\/w.heap.size<=j):=fun j hj=>hj.imp id (fun h=>qXx u1.size h);refine⟨g,off,cap,b,o,m,c,ao3,cap3,w3,rfl,c0,c1,by rw[<-hw1];exact hrun,?_,?_,?_,fun e=>(h.bo g rfl).2 e.symm,_,hP.wide hw,(u1.mono fE).trans (hU.mono (fun j _ h=>hw j h))⟩
 .exact hu3.j4 (u1.j4 c0 id) (fun e=>(h.bx _ (qyz hix) p jz).2.1 rfl)
 .exact hu3.j4 (u1.j4 c1 id) (fun e=>(h.bx _ (qyz hix) g jz).2.2 rfl)
 .obtain ⟨hl,⟨e,-⟩|⟨g',off',cap',cur,e,hg,-⟩⟩:=h1.o
  .cases e
  .cases e;exact zg ((hu3.block g (zf hg) (fun e=>(h.bx _ (qyz hix) g jz).2.2 rfl)).trans hg) _
theorem rN{B:Nat->Prop}{w:World}{p N M:Nat}{vo:Value}{xs:List Value}(h:Pst B w p N M vo xs)(hM:M<=100000){i:Nat}(hi:i<N)(f:Int)(hf:0<=f/\f<=255):
  Calls prog 93 #[.pointer (some ⟨p,0,none⟩),.int .i64 (i:Int),.int .i64 f] w (Sn B w p N (M+2) (.tuple #[])):=by
 have HN:=Y2 (rJ h hM hi) h;have hNm:=h.o.le;have k1:(i:Int)<(N:Int):=oM;have i0:(0:Int)<=(i:Int):=oM;clear h;go_enter func93,ntmps93
 go_wp2_with fail
 refine HN.o.1.mono ?_;rintro e w0 ⟨y,hy,rfl,hu0⟩;obtain⟨g,off,cap,b,o,m,c,ao3,cap3,w3,rfl,c0,c1,hrun,e0,e1,fz,hpg,xs',hP,hU⟩:=(HN.o.2.keep hu0 (fun _ _ h=>h)).app hM hi [f,y] oe (fun x hx=>by simp only[qzr,qXd,qZb]at hx;rcases hx with rfl|rfl;exact hf;exact hy);obtain⟨w1,hw1⟩:=qqe (w0.drew.alloc (.cells [Value.int .i64 f,Value.int .i64 y].toArray 3));have hrun':(Builtin.append_ #[87,87] 87 #[.slice (some ⟨b,o,none⟩) (m+1) c,.slice (some ⟨w0.drew.heap.size,0,none⟩) 2 2]).run prog w1=.ok (.slice ao3 (m+1+2) cap3) w3:=by rw[hw1];exact hrun
 have d0:w1.cell? ⟨p,0,none⟩=some (.slice (some ⟨g,off,none⟩) N cap):=by rw[hw1];exact zm oY _
 have d1:w1.cell? ⟨g,off+i,none⟩=some (.slice (some ⟨b,o,none⟩) (m+1) c):=by rw[hw1];exact zm (by rw[qYo];exact c1) _
 have f0:(w3.setCell ⟨g,off+i,none⟩ (.slice ao3 (m+1+2) cap3)).cell? ⟨p,0,none⟩=some (.slice (some ⟨g,off,none⟩) N cap):=zu e0 (fun e=>hpg e.symm);have c1d:w0.drew.cell? ⟨g,off+i,none⟩=some (.slice (some ⟨b,o,none⟩) (m+1) c):=by rw[qYo];exact c1
 have HR:=Y4 hP hU hu0 hw1;clear hP hU hu0 hw1 hrun hpg HN;go_wp2_with fail
 refine qZj (S:=fun W=>W.cell? ⟨p,0,none⟩=some (.slice (some ⟨g,off,none⟩) N cap)) kR oY (fun hHeld=>?_);refine Wl.i [0,1,2,3,4,5,6,7,8,9,10,12,13] ?_;iterate 13 refine Wl.t hHeld ?_
 refine Wl.o ?_;refine qZe (rs:=[11,14]) kR oe ?_;refine qxb rfl (fun K hK=>?_) (qxb rfl (fun K hK=>?_) qxc)
 .go_simp
  refine hK.o _ _ hHeld (fun _=>?_);clear hK K;refine Wl.r 14 (fun K hK=>?_);go_simp
  show K _ (w0.drew.alloc (.cells [Value.int .i64 f,Value.int .i64 y].toArray 3));rw[<-HR.o.2.2.2];refine hK.o _ _ d0 (fun _=>?_);clear hK K;refine Wl.r 15 (fun K hK=>?_);refine zJ rfl _ _ _ rfl rfl rfl hrun' ?_;refine hK.o _ _ e0 (fun _=>?_);clear hK K;refine Wl.i [16] (Wl.t e0 (Wl.o ?_));refine Wl.r 17 (fun K hK=>?_);go_simp
  refine hK.o _ _ f0 (fun _=>?_);clear hK K;refine Wl.d ?_;refine qYw (qZc rfl _ _ _) rfl ?_;obtain⟨hP,hU,u0,-⟩:=HR.o;have hw:∀j,(B j\/w0.heap.size<=j)->(B j\/w.heap.size<=j):=fun j hj=>hj.imp id (fun h=>qXx u0.size h);exact⟨rfl,_,_,hP.wide hw,(u0.mono fE).trans (hU.mono (fun j _ h=>hw j h))⟩
 .go_simp
  show K _ (w0.drew.alloc (.cells [Value.int .i64 f,Value.int .i64 y].toArray 3));rw[<-HR.o.2.2.2];refine hK.o _ _ d0 (fun _=>?_);clear hK K;refine Wl.r 11 (fun K hK=>?_);go_simp
  refine hK.o _ _ d0 (fun _=>?_);clear hK K;refine Wl.r 15 (fun K hK=>?_);refine zJ rfl _ _ _ rfl rfl rfl hrun' ?_;refine hK.o _ _ e0 (fun _=>?_);clear hK K;refine Wl.i [16] (Wl.t e0 (Wl.o ?_));refine Wl.r 17 (fun K hK=>?_);go_simp
  refine hK.o _ _ f0 (fun _=>?_);clear hK K;refine Wl.d ?_;refine qYw (qZc rfl _ _ _) rfl ?_;obtain⟨hP,hU,u0,-⟩:=HR.o;have hw:∀j,(B j\/w0.heap.size<=j)->(B j\/w.heap.size<=j):=fun j hj=>hj.imp id (fun h=>qXx u0.size h);exact⟨rfl,_,_,hP.wide hw,(u0.mono fE).trans (hU.mono (fun j _ h=>hw j h))⟩
theorem tW{B:Nat->Prop}{w:World}{p N M:Nat}{vo:Value}{xs:List Value}(h:Pst B w p N M vo xs)(hM:M<=100000)(hM1:1<=M):
  Calls prog 94 #[.pointer (some ⟨p,0,none⟩)] w (Sn B w p N M (.tuple #[])):=by
 have HN:=qqh h;have hNm:=h.o.le;obtain⟨ao,cap,rfl⟩:=h.o.rd.j7;clear h;go_enter func94,ntmps94
 go_wp2_with fail
 go_loopg[2] N (fun gk s2 wr=>∃(i:Nat) (xs':List Value),i+gk=N/\s2=.int .i64 (i:Int)/\Pst (fun j=>B j\/w.heap.size<=j) wr p N M (.slice ao N cap) xs'/\Upd (fun j=>B j\/w.heap.size<=j) w wr)
 case atStart=>exact⟨0,xs,oM,rfl,HN.o.wide (fun j h=> .inl h),uur _ _⟩
 case round=>
  obtain⟨i,xs',hi,rfl,hP,hU⟩:=hrel;have c0:=za hP.str 0;simp only[qyv,qyl]at c0;by_cases hlt:i<N
  .have k1:(i:Int)<(N:Int):=oM;have i0:(0:Int)<=(i:Int):=oM;obtain⟨g,off,cap',b,o,m,c,x,e,c1,-,-,hx⟩:=hP.look hlt;cases e;have HP:=Y2 hP hU;have hix:i<xs'.length:=by rw[hP.len];exact hlt
   clear hP hU;go_wp2_with fail
   refine qZj (S:=fun W=>W.cell? ⟨p,0,none⟩=some (.slice (some ⟨g,off,none⟩) N cap)) kR oY (fun hHeld=>?_);refine Wl.i [0,1,2,3,4,5,6] ?_;iterate 7 refine Wl.t hHeld ?_
   refine Wl.o ?_;refine Wl.r 7 (fun K hK=>?_);go_simp
   have ud:Upd (fun _=>False) wr wr.drew:=(uur _ wr).drew;refine(rJ (HP.o.1.keep ud (fun _ _ h=>h)) hM hlt).mono ?_;rintro e w0 ⟨y,hy,rfl,hu0⟩;obtain⟨w1,hw1⟩:=qqe (w0.alloc (.cells #[.int .i64 y] 3));have u1:=qqu hw1;have U1:=(ud.trans hu0).trans u1;have z1:wr.heap.size<=w0.heap.size:=(ud.trans hu0).size;have d0:=hu0.j4 hHeld id;have d1:=u1.j4 d0 id;have hP1:=HP.o.1.keep (ud.trans hu0) (fun _ _ h=>h);have hel:PsEl w1 M (.slice (some ⟨w0.heap.size,0,none⟩) 1 1):=by rw[hw1];exact Un w0 y hy M hM1
   obtain⟨hP2,hU2⟩:=hP1.put hix (qXv M) (u1.mono fE) hel (.inr ⟨w0.heap.size,rfl,qXv _⟩);have hpg:p≠g:=fun e=>(hP1.bo g rfl).2 e.symm;have f0:(w1.setCell ⟨g,off+i,none⟩ (.slice (some ⟨w0.heap.size,0,none⟩) 1 1)).cell? ⟨p,0,none⟩=some (.slice (some ⟨g,off,none⟩) N cap):=zu d1 (fun e=>hpg e.symm);have c1':w1.cell? ⟨g,off+i,none⟩=some (.slice (some ⟨b,o,none⟩) (m+1) c):=U1.j4 c1 id;have fz:w1.frozen? ⟨g,off+i,none⟩=false:=by
    obtain⟨hl,⟨e,-⟩|⟨g',off',cap',cur,e,hg,-⟩⟩:=(hP1.keep u1 (fun _ _ h=>h)).o
    .cases e
    .cases e;exact zg hg _
   have H2:=Y4 hP2 hU2 (ud.trans hu0) hw1;refine hK.o _ _ d0 (fun _=>?_);clear hK K hHeld ud hu0 u1 U1 hP1 hel hP2 hU2 hpg hw1;refine Wl.r 8 (fun K hK=>?_);go_simp
   show K _ (w0.alloc (.cells #[.int .i64 y] 3));rw[<-H2.o.2.2.2];refine hK.o _ _ d1 (fun _=>?_);clear hK K;refine Wl.i [9] (Wl.t d1 (Wl.o ?_));refine Wl.r 10 (fun K hK=>?_);go_simp
   refine hK.o _ _ f0 (fun _=>?_);clear hK K;refine Wl.d ?_;clear c0 c1 d0 d1 c1' fz f0;go_wp2_with fail
   go_roundg (gk-1)
   case measure=>omega
   case rel=>
    obtain⟨hP2,hU2,u02,-⟩:=H2.o;have hz:=HP.o.2.size;have ib:(i:Int)<9223372036854775807:=by unfold maxLen at hNm;omega
    have hw:∀j,((B j\/w.heap.size<=j)\/w0.heap.size<=j)->(B j\/w.heap.size<=j):=fun j hj=>hj.elim id (fun h=> .inr oM);have hwr:wrap64 ((i:Int)+1)=(i:Int)+1:=IntWalk.wrap64_in _ oM;exact⟨i+1,_,oM,by rw[hwr];simp,hP2.wide hw,(HP.o.2.trans (u02.mono fE)).trans (hU2.mono (fun j _ h=>hw j h))⟩
  .have k1:¬((i:Int)<(N:Int)):=oM;have HE:=Y2 hP hU;clear hP hU;go_wp2_with fail
   refine qYw (qZc rfl _ _ _) rfl ?_;exact⟨rfl,_,_,HE.o.1,HE.o.2⟩
theorem tX{w:World}{v:Value}{n:Nat}{xs:List Value}(h:Rd w 64 v n xs)(hn:n<=65536)(hone:∀u∈xs,u.oneCell'=true):
  Calls prog 111 #[v] w fun e w'=>∃v',e=.returned v'/\Sl w' 54 64 v' n xs/\From w.heap.size v'/\Below w.heap.size w w':=by
 obtain⟨i0,hi,hz0,hz1,hz2⟩:=qZa Wb;obtain⟨z0,hz,hzs⟩:∃z,i0.zero=some z/\z.cells.size=64:=⟨_,hz0,by simp[bkV,Value.cells,zB,bkC]⟩
 clear hz0;have H:=qqh h;obtain⟨hl,hm,ao,c,rfl,h0,-⟩:=h;have q34:=fun(w:World) (a:Option Addr) (n c:Nat)=>Lib.run_eql_slice_nil (P:=prog) w 41 54 a n c 0 0 underlying41;cases ao with
 |none=>
  obtain rfl:=h0 rfl;have hx:Hid (xs=[]):=qyd jN;clear hl h0 hm;go_enter func111,ntmps111
  go_wp2
  go_ret
  rw[hx.out];exact⟨_,rfl,Sl.nil _ _ _,From.nil _ _ _,qxl _ _⟩
 |some a=>
  clear h0 hl;have hs0:Sl (w.alloc (.cells #[] 54)) 54 64 (.slice (some ⟨w.heap.size,0,none⟩) 0 0) 0 []:=
   ⟨oe,.inr ⟨w.heap.size,0,0,#[],rfl,zc _ _ rfl,oe,by simp[maxLen],oe,oe⟩⟩
  have HR:Hid (Rd (w.alloc (.cells #[] 54)) 64 (.slice (some a) n c) n xs):=H.o.keep ((uur (fun _=>False) _).alloc _) (fun _ _ h=>h);go_enter func111,ntmps111
  go_wp2_with (at_builtin;refine zE rfl _ _ 41 rfl i0 z0 64 underlying41 hi hz hz1 hz2 hzs de rfl hs0 _ n xs rfl HR.o hone og oM ?_)
  intro v' w2 hs2 hu2 hb2;go_wp2
  go_ret
  refine⟨_,rfl,by simpa using hs2,?_,?_⟩
  .exact hb2.ge oe oy
  .refine zk ((qxl _ _).alloc (qXv _) _) hu2 (qXv _) ou
theorem XM{w:World}{v:Value}{n:Nat}{xs:List Value}(h:Rd w 65 v n xs)(hn:n<=65536)(hone:∀u∈xs,u.oneCell'=true):
  Calls prog 112 #[v] w fun e w'=>∃v',e=.returned v'/\Sl w' 131 65 v' n xs/\From w.heap.size v'/\Below w.heap.size w w':=by
 obtain⟨i0,hi,hzz⟩:=qYi.1 Qe;simp only[qYk]at hzz;obtain⟨hz0,hz1,hz2⟩:=hzz;obtain⟨z0,hz,hzs⟩:=qYi.1 hz0;clear hz0;have H:=qqh h;obtain⟨hl,hm,ao,c,rfl,h0,-⟩:=h;have q34:=fun(w:World) (a:Option Addr) (n c:Nat)=>Lib.run_eql_slice_nil (P:=prog) w 121 131 a n c 0 0 underlying121;cases ao with
 |none=>
  obtain rfl:=h0 rfl;have hx:Hid (xs=[]):=qyd jN;clear hl h0 hm;go_enter func112,ntmps112
  go_wp2
  go_ret
  rw[hx.out];exact⟨_,rfl,Sl.nil _ _ _,From.nil _ _ _,qxl _ _⟩
 |some a=>
  clear h0 hl;have hs0:Sl (w.alloc (.cells #[] 131)) 131 65 (.slice (some ⟨w.heap.size,0,none⟩) 0 0) 0 []:=
   ⟨oe,.inr ⟨w.heap.size,0,0,#[],rfl,zc _ _ rfl,oe,by simp[maxLen],oe,oe⟩⟩
  have HR:Hid (Rd (w.alloc (.cells #[] 131)) 65 (.slice (some a) n c) n xs):=H.o.keep ((uur (fun _=>False) _).alloc _) (fun _ _ h=>h);go_enter func112,ntmps112
  go_wp2_with (at_builtin;refine zE rfl _ _ 121 rfl i0 z0 72 underlying121 hi hz hz1 hz2 hzs de rfl hs0 _ n xs rfl HR.o hone og oM ?_)
  intro v' w2 hs2 hu2 hb2;go_wp2
  go_ret
  refine⟨_,rfl,by simpa using hs2,?_,?_⟩
  .exact hb2.ge oe oy
  .refine zk ((qxl _ _).alloc (qXv _) _) hu2 (qXv _) ou
theorem So:(prog.info? 3).map (fun i=>(i.zero.map (·.cells.size),i.size,i.bytes))=some (some 1,1,8):=kR
theorem XN{w:World}{v:Value}{n:Nat}{xs:List Value}(h:Rd w 1 v n xs)(hn:n<=65536)(hone:∀u∈xs,u.oneCell'=true):
  Calls prog 113 #[v] w fun e w'=>∃v',e=.returned v'/\Sl w' 3 1 v' n xs/\From w.heap.size v'/\Below w.heap.size w w':=by
 obtain⟨i0,hi,hzz⟩:=qYi.1 So;simp only[qYk]at hzz;obtain⟨hz0,hz1,hz2⟩:=hzz;obtain⟨z0,hz,hzs⟩:=qYi.1 hz0;clear hz0;have H:=qqh h;obtain⟨hl,hm,ao,c,rfl,h0,-⟩:=h;have q34:=fun(w:World) (a:Option Addr) (n c:Nat)=>Lib.run_eql_slice_nil (P:=prog) w 87 3 a n c 0 0 underlying87;cases ao with
 |none=>
  obtain rfl:=h0 rfl;have hx:Hid (xs=[]):=qyd jN;clear hl h0 hm;go_enter func113,ntmps113
  go_wp2
  go_ret
  rw[hx.out];exact⟨_,rfl,Sl.nil _ _ _,From.nil _ _ _,qxl _ _⟩
 |some a=>
  clear h0 hl;have hs0:Sl (w.alloc (.cells #[] 3)) 3 1 (.slice (some ⟨w.heap.size,0,none⟩) 0 0) 0 []:=
   ⟨oe,.inr ⟨w.heap.size,0,0,#[],rfl,zc _ _ rfl,oe,by simp[maxLen],oe,oe⟩⟩
  have HR:Hid (Rd (w.alloc (.cells #[] 3)) 1 (.slice (some a) n c) n xs):=H.o.keep ((uur (fun _=>False) _).alloc _) (fun _ _ h=>h);go_enter func113,ntmps113
  go_wp2_with (at_builtin;refine zE rfl _ _ 87 rfl i0 z0 8 underlying87 hi hz hz1 hz2 hzs de rfl hs0 _ n xs rfl HR.o hone og oM ?_)
  intro v' w2 hs2 hu2 hb2;go_wp2
  go_ret
  refine⟨_,rfl,by simpa using hs2,?_,?_⟩
  .exact hb2.ge oe oy
  .refine zk ((qxl _ _).alloc (qXv _) _) hu2 (qXv _) ou
theorem Zi(F:List Bk):∀u∈rowC F,u.oneCell'=true:=by
 intro u hu;simp only[rowC,qzu]at hu;obtain⟨x,-,hx⟩:=hu;exact zx x u hx
theorem Sp(O:List (Nat×Bk)):∀u∈opC O,u.oneCell'=true:=by
 intro u hu;simp only[opC,qzu,qzr]at hu;obtain⟨x,-,rfl|hx⟩:=hu
 .rfl
 .exact zx _ u hx
theorem Zj(P:List Int):∀u∈ints P,u.oneCell'=true:=by
 intro u hu;simp only[ints,qzv]at hu;obtain⟨x,-,rfl⟩:=hu;rfl
def Ez(w:World)(F:List Bk)(O:List (Nat×Bk))(P:List Int)(e:Ending)(w':World):Prop:=
 ∃b,e=.returned (.pointer (some ⟨b,0,none⟩))/\Dv (fun j=>w.heap.size<=j) w' b F O P/\Below w.heap.size w w'
theorem Ag{S:Nat->Prop}{w:World}{b:Nat}{F:List Bk}{O:List (Nat×Bk)}{P:List Int}(h:Dv S w b F O P):
  Calls prog 43 #[.pointer (some ⟨b,0,none⟩)] w (Ez w F O P):=by
 obtain⟨vf,vo,vp,h,-⟩:=h;obtain⟨c0,c1,c2⟩:=h.c;have hbl:b<w.heap.size:=zf h.str;have H:=qqh h;clear h;go_enter func43,ntmps43
 go_wp2
 refine qZj (S:=fun W=>W.cell? ⟨b,0,none⟩=some vf/\W.cell? ⟨b,1,none⟩=some vo/\W.cell? ⟨b,2,none⟩=some vp) kR (by(simp only[qYo]);exact⟨c0,c1,c2⟩) (fun hHeld=>?_);refine Wl.i [0,1,2,3,5,6,7,8,10,11,12,13] ?_;iterate 12 refine Wl.t hHeld ?_
 refine Wl.o ?_;have hud:Upd (fun _=>False) w w.drew:=(uur _ w).drew;refine Wl.r 4 (fun K hK=>?_);go_simp
 refine(tX (H.o.fs.rd.keep hud (fun _ _ h=>h)) (by have:=H.o.good.fl;omega) (Zi F)).mono ?_;rintro e w1 ⟨v1,rfl,s1,f1,b1⟩;obtain⟨a1,k1,rfl⟩:=s1.rd.j7;refine hK.o _ _ ((have hU:=uuo (S:=fun _=>False) b1;⟨hU.j4 hHeld.1 id,hU.j4 hHeld.2.1 id,hU.j4 hHeld.2.2 id⟩)) (fun hH1=>?_);clear hK K;have hu1:=uuo (S:=fun _=>False) b1;refine Wl.r 9 (fun K hK=>?_);go_simp
 refine(XM ((H.o.os.rd.keep hud (fun _ _ h=>h)).keep hu1 (fun _ _ h=>h)) H.o.good.ol (Sp O)).mono ?_;rintro e w2 ⟨v2,rfl,s2,f2,b2⟩;obtain⟨a2,k2,rfl⟩:=s2.rd.j7;refine hK.o _ _ ((have hU:=uuo (S:=fun _=>False) b2;⟨hU.j4 hH1.1 id,hU.j4 hH1.2.1 id,hU.j4 hH1.2.2 id⟩)) (fun hH2=>?_);clear hK K;have hu2:=uuo (S:=fun _=>False) b2;refine Wl.r 14 (fun K hK=>?_);go_simp
 refine(XN (((H.o.ps.rd.keep hud (fun _ _ h=>h)).keep hu1 (fun _ _ h=>h)).keep hu2 (fun _ _ h=>h)) H.o.good.pl (Zj P)).mono ?_;rintro e w3 ⟨v3,rfl,s3,f3,b3⟩;obtain⟨a3,k3,rfl⟩:=s3.rd.j7;refine hK.o _ _ ((have hU:=uuo (S:=fun _=>False) b3;⟨hU.j4 hH2.1 id,hU.j4 hH2.2.1 id,hU.j4 hH2.2.2 id⟩)) (fun hH3=>?_);clear hK K;have hu3:=uuo (S:=fun _=>False) b3;have z1:=b1.size;have z2:=b2.size;have z3:=b3.size;have zd:w.drew.heap.size=w.heap.size:=rfl;have t3:Sl w3 54 64 (.slice a1 F.length k1) F.length (rowC F):=(s1.keep hu2 (fun _ _ h=>h)).keep hu3 (fun _ _ h=>h);have t2:Sl w3 131 65 (.slice a2 O.length k2) O.length (opC O):=s2.keep hu3 (fun _ _ h=>h);have l1:=fun(g:Nat) (e:(Value.slice a1 F.length k1).ownBlock=some g)=>s1.lt e;have l2:=fun(g:Nat) (e:(Value.slice a2 O.length k2).ownBlock=some g)=>s2.lt e;have l3:=fun(g:Nat) (e:(Value.slice a3 P.length k3).ownBlock=some g)=>s3.lt e;have HS:=Y12 t3 t2 s3 f1 f2 f3 l1 l2 l3 b1 b2 b3;clear t3 t2 s3 f1 f2 f3 l1 l2 l3 b1 b2 b3 s1 s2 hu1 hu2 hu3;refine Wl.i [15] (Wl.t hH3 (Wl.o ?_));refine Wl.r 16 (fun K hK=>?_);go_simp
 show K _ (w3.alloc (.cells #[(.slice a1 F.length k1),(.slice a2 O.length k2),(.slice a3 P.length k3)] 123));refine hK.o _ _ (⟨zm hH3.1 _,zm hH3.2.1 _,zm hH3.2.2 _⟩) (fun hH4=>?_);clear hK K;refine Wl.r 17 (fun K hK=>?_);go_simp
 refine hK.o _ _ (hH4) (fun _=>?_);clear hK K;refine Wl.d ?_;clear hHeld hH1 hH2 hH3 hH4 c0 c1 c2 hud;go_wp2
 go_ret
 obtain⟨t1,t2,t3,f1,f2,f3,l1,l2,l3,b1,b2,b3⟩:=HS.o;have hA:Upd (fun _=>False) w3 (w3.alloc (.cells #[(.slice a1 F.length k1),(.slice a2 O.length k2),(.slice a3 P.length k3)] 123)):=(uur _ _).alloc _;refine⟨w3.heap.size,rfl,⟨(.slice a1 F.length k1),(.slice a2 O.length k2),(.slice a3 P.length k3),⟨zc _ _ rfl,t1.keep hA (fun _ _ h=>h),t2.keep hA (fun _ _ h=>h),t3.keep hA (fun _ _ h=>h),H.o.good,fun e=>?_,fun e=>?_,fun e=>?_,fun g p q=>?_,fun g p q=>?_,fun g p q=>?_⟩,fun j hj=>?_⟩,?_⟩
 .have:=l1 _ e;omega
 .have:=l2 _ e;omega
 .have:=l3 _ e;omega
 .have:=l1 g p;have:=f2 g q;omega
 .have:=l1 g p;have:=f3 g q;omega
 .have:=l2 g p;have:=f3 g q;omega
 .rcases hj with rfl|hj|hj|hj
  .show w.heap.size<=w3.heap.size;omega
  .have:=f1 j hj;show w.heap.size<=j;omega
  .have:=f2 j hj;show w.heap.size<=j;omega
  .have:=f3 j hj;show w.heap.size<=j;omega
 .exact (yu ((b1.trans (b2.mono z1)).trans (b3.mono oM))).alloc oM _
theorem Ah{S:Nat->Prop}{w:World}{b:Nat}{F:List Bk}{O:List (Nat×Bk)}{P:List Int}(h:Dv S w b F O P)(hn:∀j,w.heap.size<=j->S j){vk:Value}{l:List Int}(hk:Rd w 1 vk l.length (ints l))
  (hl:∀x∈l,0<=x/\x<=2) (hP:P.length+l.length<=65536):
  Calls prog 44 #[.pointer (some ⟨b,0,none⟩),vk] w fun e w'=>e=.returned (.int .i64 0)/\Dv S w' b F O (P++l)/\Upd S w w':=by
 obtain⟨vf,vo,vp,h,hS⟩:=h;obtain⟨-,-,c2⟩:=h.c;have z2:=h.fz 2;obtain⟨ap,cp,rfl⟩:=h.ps.rd.j7;obtain⟨ak,ck,rfl⟩:=hk.j7;obtain⟨i0,hi,hzz⟩:=qYi.1 So;simp only[qYk]at hzz;obtain⟨hz0,hz1,hz2⟩:=hzz;obtain⟨z0,hz,hzs⟩:=qYi.1 hz0;clear hz0;have H:=Y6 h hS hn hk hl hP;have HI:=Y5 hi hz1 hz2 hz hzs;have hll:l.length<=65536:=oM;clear h hS hn hk hl hP hi hz1 hz2 hz hzs;go_enter func44,ntmps44
 go_wp2
 go_loopw[11] (fun i wr=>∃k:Nat,k<=l.length/\i=.int .i64 k/\wr=w) (fun i _=>l.length-(intOf i).toNat)
 case atStart=>exact⟨0,qYf _,rfl,rfl⟩
 case round=>
  obtain⟨k,hk,rfl,rfl⟩:=hrel;by_cases hlt:k<l.length
  .obtain ⟨blk,ofk,cpk,e1,-,hck⟩:=H.o.2.2.2.1.at oM;cases e1;have hb:=hck k (.int .i64 l[k]) (by simp[ints,List.getElem?_eq_getElem hlt]);have hx:=H.o.2.2.2.2.1 l[k] (qyz hlt);generalize l[k]=x at hb hx;obtain⟨hx1,hx2⟩:=hx;clear hck c2 z2;go_wp2
   go_roundw
   case rel=>exact⟨k+1,oM,by go_num,trivial⟩
   case measure=>simp[intOf];omega
  .obtain rfl:k=l.length:=oM;have hone:=qqh (Zj l);have hps:=qqh H.o.1.ps;go_wp2_with (first
    |(at_builtin;refine zE rfl _ _ 87 rfl i0 z0 8 underlying87 HI.o.1 HI.o.2.2.2.1 HI.o.2.1 HI.o.2.2.1 HI.o.2.2.2.2 de rfl hps.out _ l.length (ints l) rfl H.o.2.2.2.1 hone.out (by unfold maxLen;have:=H.o.2.2.2.2.2;omega) (by have:=H.o.2.2.2.2.2;omega) ?_;intro v' w2 hs2 hu2 hb2;obtain⟨a2,k2,rfl⟩:=hs2.rd.j7;replace hu2:Upd (ownS (.slice ap P.length cp)) wr w2:=hu2;replace hb2:blockFrom wr (.slice ap P.length cp) (.slice a2 (P.length+l.length) k2):=hb2;have g2:=(hu2.block b (zf H.o.1.str) (fun h=>H.o.1.pb h)).trans H.o.1.str;have c3:=za g2 2;have z3:=zg g2 2;have HA:=Y4 hs2 hu2 hb2 g2;clear hs2 hu2 hb2 g2)
    |fail)
   go_ret
   obtain⟨hs2,hu2,hb2,g2⟩:=HA.o;obtain⟨h,hS,hn,hk,hl,hP⟩:=H.o;obtain⟨u,hu⟩:∃u:Value,u=.slice a2 (P.length+l.length) k2:=⟨_,rfl⟩
   rw[<-hu]at hs2 hb2⊢;have hub:u.ownBlock≠some b:=fun e=>by
    rcases hb2 with h1|⟨g,h1,hle⟩
    .exact h.pb (by rw[<-h1];exact e)
    .rw [h1]at e;cases e;have:=zf h.str;omega
   have hu3:Upd (fun j=>j=b) w2 (w2.setCell ⟨b,2,none⟩ u):=zj _ _ _ _;have hU:Upd S wr w2:=hu2.mono (fun j _ hj=>hS j (.inr (.inr (.inr hj))));refine⟨rfl,⟨vf,vo,u,?_,?_⟩,hU.trans (hu3.mono (fun j _ e=>e▸hS b (.inl rfl)))⟩
   .refine ⟨zi g2 2 u,(h.fs.keep hu2 (fun g h1 h2=>h.fp g h1 h2)).kQ hu3 h.fb,(h.os.keep hu2 (fun g h1 h2=>h.op g h1 h2)).kQ hu3 h.ob,?_,?_,h.fb,h.ob,hub,h.fo,(h.fp.symm.from hb2 (fun g hg=>h.fs.lt hg)).symm,(h.op.symm.from hb2 (fun g hg=>h.os.lt hg)).symm⟩
    .rw [qzd];have e:ints (P++l)=ints P++ints l:=by simp[ints]
     rw[e];exact hs2.kQ hu3 hub
    .exact {h.good with pl:=by rw[qzd];exact hP}
   .rintro j (rfl|hj|hj|hj)
    .exact hS _ (.inl rfl)
    .exact hS _ (.inr (.inl hj))
    .exact hS _ (.inr (.inr (.inl hj)))
    .rcases hb2 with h1|⟨g,h1,hle⟩
     .exact hS _ (.inr (.inr (.inr (by rw[<-h1];exact hj))))
     .rw [h1]at hj;cases hj;exact hn _ hle
section
variable{own:Nat->Nat}{w:World}{c:Nat}{n:CaN}{p:CaP}{a:CaS}
theorem Yh(h:CaAt own w c n p a){vk:Value}{l:List Int}(hk:Rd w 1 vk l.length (ints l))(hl:∀x∈l,0<=x/\x<=2)(hP:a.bP.length+l.length<=65536):
  Calls prog 44 #[ptr p.back,vk] w (zv own w c n p {a with bP:=a.bP++l} (.int .i64 0)):=
 (Ah h.open3 (fun _ h=> .inr h) hk hl hP).mono fun _ _ ⟨he,hd,hu⟩=>⟨he,_,h.turn3 hu hd rfl,h.did3 hu⟩
theorem XO(h:CaAt own w c n p a){vk:Value}{l:List Int}(hk:Rd w 1 vk l.length (ints l))(hl:∀x∈l,0<=x/\x<=2)(hP:a.dP.length+l.length<=65536):
  Calls prog 44 #[ptr p.ssd,vk] w (zv own w c n p {a with dP:=a.dP++l} (.int .i64 0)):=
 (Ah h.kT (fun _ h=> .inr h) hk hl hP).mono fun _ _ ⟨he,hd,hu⟩=>⟨he,_,h.kP hu hd rfl,h.did2 hu⟩
end
end Go.Proofs.YtfhfbpmlnjdfoaaGreatDoor
