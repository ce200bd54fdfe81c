/- Pages: Read of -/
import Derived.Test.YtfhfbpmlnjdfoaaGreatDoorG20
import Derived.Test.YtfhfbpmlnjdfoaaGreatDoorG19
import Derived.Maps.RangeWalk
set_option maxRecDepth 100000
set_option maxHeartbeats 4000000
namespace Go.Proofs.YtfhfbpmlnjdfoaaGreatDoor
open Go Go.RowKit Go.Shelf Tryz
attribute [local go_sem] qYh
section
variable{F:Fence}{n:Nat}{P:Program}{ops:Array Oper}{rest:List Oper}{op:Oper}{a:Act}{w:World}{Q:Exit->Act->World->Prop}
theorem Ya(hgd:op.guard=none)(ts te:TypeId)(p:Operand)(ho:op.op=.buildSlice ts 1 #[(0,p)])(cs:List Value)(hp:a.eval p=.agg cs.toArray)
  (hrun:(Instr.buildSlice ts 1 #[(0,.agg cs.toArray)]).run P w=.ok (.slice (some ⟨w.heap.size,0,none⟩) 1 1) (w.alloc (.cells cs.toArray te)))
  (h:wpListIn F n P ops Q rest (a.put op.dst (.slice (some ⟨w.heap.size,0,none⟩) 1 1)) (w.alloc (.cells cs.toArray te))):wpListIn F n P ops Q (op::rest) a w:=by
 refine wpListIn_plain hgd fun K hK'=>?_;unfold Oper.wpIn;refine⟨by simp[Oper.about,ho],?_⟩;rw[Oper.semAt_plain F _ _ jI];simp only[execOp,ho,qzp,qzm,qzo,hp,qYm,hrun,qYl];exact hK' _ _ h
theorem Yb(hgd:op.guard=none)(s x:Operand)(t:TypeId)(hop:op.op=Op.call {callee:=Callee.builtin Builtin.append,args:= #[s,x],argTypes:= #[t,t]})(v x':Value)(hs:a.eval s=v)(hx:a.eval x=x')(v':Value)(w':World)
  (hrun:(Builtin.append_ #[t,t] op.type #[v,x']).run P w=.ok v' w') (h:wpListIn F n P ops Q rest (a.put op.dst v') w'):wpListIn F n P ops Q (op::rest) a w:=by
 refine wpListIn_plain hgd fun K hK'=>?_;unfold Oper.wpIn;refine⟨?_,?_⟩
 .simp [Oper.about,hop,resolve,Target.leads,Sem.run_pure]
 .rw [Oper.semAt_plain F _ _ (by rw[hop];intro c hc';cases hc')];simp[execOp,hop,resolve,invoke,builtin,hs,hx,hrun,Result.andThen];exact hK' _ _ h
end
theorem zas(m:Nat)(hm:m<=4096):∃Z:Array Value,Z.size=m*64/\∀w:World,(Instr.makeSlice 41 (.int .i64 0) (.int .i64 (m:Int))).run prog w=.ok (.slice (some ⟨w.heap.size,0,none⟩) 0 m) (w.alloc (.cells Z 54)):=by
 obtain⟨i0,z,hi,hz,hs,hb2,hb3⟩:=xp;refine⟨madeCells z.cells (m*64),by simp[size_madeCells],fun w=>?_⟩;have:=run_make (P:=prog) w 41 54 i0 z underlying41 hi hz .i64 .i64 0 m oM oM (by rw[hb3];omega) oM;rw[this];simp only[qxu,hb2];rfl
def secsOf(F:List Bk)(O:List (Nat×Bk))(base m:Nat):List Bk:=(List.range m).map fun i=>curB F O (base+i)
theorem xF(F:List Bk)(O:List (Nat×Bk))(base m:Nat):(secsOf F O base m).length=m:=by simp[secsOf]
def zcD(S:Nat->Prop)(w:World)(b:Nat)(F:List Bk)(O:List (Nat×Bk))(l:List Bk)(e:Ending)(w':World):Prop:=
 ∃v,e=.returned (.tuple #[.int .i64 ((if readOk l then readSeq l else 0:Nat):Int),v,.int .i64 (if readOk l then 0 else 14)])/\Sl w' 37 4 v (if readOk l then readEs l else[]).length ((if readOk l then readEs l else[]).flatMap entC)/\From w.heap.size v/\Dv (fun j=>S j/\∀g,v.ownBlock=some g->g≠j) w' b F O []/\Upd S w w'
def PrI(T D:Nat->Prop)(w5:World)(b lb rb:Nat)(F:List Bk)(O:List (Nat×Bk))(base:Nat){m:Nat}(pre:List {i:Nat//i<m})(W:World):Prop:=
 Upd T w5 W/\∃v S1,W.heap[lb]?=some (.cells #[v] 41 (0,0))/\Sl W 54 64 v pre.length (rowC (pre.map fun x=>curB F O (base+x.1)))/\(∀g,v.ownBlock=some g->g=rb\/w5.heap.size<=g)/\
  Dv S1 W b F O []/\(∀j,S1 j->D j)/\(∀j,S1 j->∃cs t z,W.heap[j]?=some (.cells cs t z))/\∀g,v.ownBlock=some g->¬S1 g
theorem zcE{S:Nat->Prop}{w:World}{b:Nat}{F:List Bk}{O:List (Nat×Bk)}(hd:Dv S w b F O [])(hn:∀j,w.heap.size<=j->S j)(base m:Nat)(hm1:1<=m)(hbm:base+m<=F.length)(hN:Nib w)(hgS:¬S 0):
  Calls prog 35 #[.pointer (some ⟨b,0,none⟩),.int .i64 (base:Int),.int .i64 (m:Int)] w (zcD S w b F O (secsOf F O base m)):=by
 have hfl:=hd.good.fl;obtain⟨Z,hZ,hmk⟩:=zas m oM;obtain⟨w1,hw1⟩:=qqe ((((w.alloc (.cells #[.pointer (some ⟨b,0,none⟩)] 46)).alloc (.cells #[.int .i64 0] 3)).alloc (.cells #[.slice none 0 0] 22)).alloc (.cells #[.int .i64 0] 28));have hu1:Upd (fun _=>False) w w1:=by rw[hw1];exact((((uur _ w).alloc _).alloc _).alloc _).alloc _
 obtain⟨e0,e1,e2,e3,z1,-⟩:=xC w (.cells #[.pointer (some ⟨b,0,none⟩)] 46) (.cells #[.int .i64 0] 3) (.cells #[.slice none 0 0] 22) (.cells #[.int .i64 0] 28);rw[<-hw1]at e0 e1 e2 e3 z1;obtain⟨w2,hw2⟩:=qqe ((w1.alloc (.cells Z 54)).alloc (.cells #[.slice (some ⟨w1.heap.size,0,none⟩) 0 m] 41));have hu2:Upd (fun _=>False) w1 w2:=by rw[hw2];exact((uur _ w1).alloc _).alloc _
 have z2:w2.heap.size=w1.heap.size+2:=by rw[hw2];simp
 have e4:w2.heap[w1.heap.size]?=some (.cells Z 54 (0,0)):=by rw[hw2];exact(qxk _ _ _ oe).trans (zc w1 _ rfl)
 have e5:w2.heap[w1.heap.size+1]?=some (.cells #[.slice (some ⟨w1.heap.size,0,none⟩) 0 m] 41 (0,0)):=by rw[hw2];exact zc _ _ oe
 have hd1:=hd.new hu1;have HW1:=qqh hw1;have HW2:=qqh hw2;have H:=Y15 hd hn hN hgS hu1 hu2 z1 z2 e4 e5 hZ e0 e1 e2 e3;clear hd hn hN hgS hu1 hu2 e4 e5 hw1 hw2 e1 e2 e3 z2 e0;refine(callsIn_wide (n:=3)).1 ?_;refine callsIn_of_wp_marks func35 rfl trivial ?_ rfl;simp only[ntmps35,qXm,qze,qzh,Nat.reduceAdd,Nat.reduceSub,qxi,qxj,qXg,qxz,qzz,qya];refine wpIn_wide.2 ?_;go_wp2_with fail
 rw[<-HW1.o];refine(Qo hd1 base m hm1 hbm).mono ?_;rintro e w' ⟨rfl,rfl⟩;go_wp2_with fail
 have hmn:=hmk;have hz1:=H.o.2.2.2.2.2.2.1;obtain⟨A,hA⟩:=qqe (w.heap.size);have HA:=qqh hA;have hW2':=HW2.o;rw[hz1]at hW2';rw[<-hW2',<-hA];refine(tL (base:Int) (m:Int) w2).mono ?_;rintro e w5 ⟨rfl,hw5⟩;obtain⟨hd,hn,hN,hgS,hu1,hu2,z1',z2,e4,e5,hZ',e0,e1,e2,e3⟩:=H.o;have hu5:Upd (fun _=>False) w2 w5:=by rw[hw5];exact((uur _ w2).alloc _).alloc _
 have hz5:w5.heap.size=A+8:=by rw[hw5];simp;omega
 have hz2:w2.heap.size=A+6:=oM;have hcb:w5.cell? ⟨A+6,0,none⟩=some (.int .i64 (base:Int)):=by
  rw[hw5,<-hz2];exact(za ((qxk _ _ _ oe).trans (zc w2 _ rfl)) 0)
 have hcm:w5.cell? ⟨A+7,0,none⟩=some (.int .i64 (m:Int)):=by
  rw[hw5,show A+7=w2.heap.size+1 by omega];exact(za (zc _ _ oe) 0)
 have hU:Upd (fun _=>False) w w5:=(hu1.trans hu2).trans hu5;obtain⟨T,hT⟩:∃T:Nat->Prop,T=fun j=>(S j/\j<A)\/(A+4<=j/\j<A+6)\/A+8<=j:=⟨_,rfl⟩
 obtain⟨D,hD⟩:∃D:Nat->Prop,D=fun j=>(S j/\j<A)\/A+8<=j:=⟨_,rfl⟩
 have hDT:∀j,D j->T j:=fun j h=>by rw[hD]at h;rw[hT];exact h.imp id .inr
 have hD5:∀j,A<=j->j<A+8->¬D j:=fun j h1 h2 h=>by rw[hD]at h;rcases h with h|h<;>omega
 have hDn:∀j,A+8<=j->D j:=fun j h=>by rw[hD];exact .inr h
 have hTn:∀j,A+8<=j->T j:=fun j hj=>by rw[hT];exact .inr (.inr hj)
 have hTo:∀j,A<=j->j<A+4\/(A+6<=j/\j<A+8)->¬T j:=fun j h1 h2 h=>by rw[hT]at h;rcases h with h|h|h<;>omega
 have hT4:T (A+4):=by rw[hT];exact .inr (.inl oM)
 have hT5:T (A+5):=by rw[hT];exact .inr (.inl oM)
 have hd5:Dv D w5 b F O []:=((hd.kH (T:=fun j=>S j/\j<A) (fun j h1 h2=>⟨h1,oM⟩)).new hU).wide (fun j h=>by rw[hD];exact .inl h);obtain⟨S1,k1,k2,k3⟩:=hd5.exact;rw[z1']at e4 e5;rw[<-hA]at e0 e1 e2 e3 e4 e5;have g0:=(hu2.trans hu5).j6 e0;have g1:=(hu2.trans hu5).j6 e1;have g2:=(hu2.trans hu5).j6 e2;have g3:=(hu2.trans hu5).j6 e3;have g4:=hu5.j6 e4;have g5:=hu5.j6 e5;have hsl0:Sl w5 54 64 (.slice (some ⟨A+4,0,none⟩) 0 m) 0 []:=⟨rfl,.inr ⟨A+4,0,m,Z,rfl,g4,oM,by unfold maxLen;omega,by rw[hZ];omega,fun j u h=>by cases h⟩⟩
 have H5:=Y15 hd5 hTn hTo g0 g1 g2 g3 hT hU hT4 hT5 hD hDT hD5 hDn;have HI:Hid (PrI T D w5 b (A+5) (A+4) F O base ([]:List {i:Nat//i<m}) w5):=⟨uur _ _,_,S1,g5,hsl0,fun g hg=>by cases hg;exact .inl rfl,k1,k2,k3,fun g hg hs=>by cases hg;exact hD5 (A+4) oM oM (k2 _ hs)⟩
 rw[hz2];clear hd hn hN hgS hu1 hu2 e4 e5 hZ' e0 e1 e2 e3 hu5 g0 g1 g2 g3 g4 g5 hsl0 hd5 hU hT hD k1 k2 k3 hW2' hw5 z2 hz2 hmk hmn hA z1 z1' hz1;go_wp2_with fail
 refine(wpIn_wide (n:=3)).1 ?_
 refine' wpIn_rangeFunc_ownF rfl oM (gf:=171) (lb:= #[.pointer (some ⟨A+7,0,none⟩),.pointer (some ⟨A+6,0,none⟩)]) rfl trivial (enters_of func171 kR rfl)
  (sK _ oM T (A+7) (A+6) base m w5 oM oM oM oM (hTo _ oM (.inr oM)) (hTo _ oM (.inr oM)) hcm hcb) uR (fun W l o o' hl=>wN (M:=A+8) hTn W l o o' oM) (qxl _ _) (fun _=>rfl)
  (PrI T D w5 b (A+5) (A+4) F O base)
  (fun _ _ _=>False)
  (fun pre X Y row hs hg hr=>by
   obtain⟨hu,v,S1,hv,hs,hf,hd,k2,k3,k4⟩:=hs;have hkc:∀{j:Nat} {cs:Array Value} {t:TypeId} {z:Nat×Nat},X.heap[j]?=some (Obj.cells cs t z)->Y.heap[j]?=some (Obj.cells cs t z):=fun h=>(grownBy_keeps_cells hg (fun r e=>(hr r e).2) h rfl).trans h;exact⟨xt hu hg (fun r e=>hTn r (by have:=(hr r e).1;omega)),v,S1,hkc hv,
    hs.keep (Upd.kB (S:=fun j=>row=some j) hg (fun g e _=>e)) (fun g hgv e=>by
     obtain⟨o,ho,hc⟩:=(hr g e).2;obtain⟨cs,t,z,hcs⟩:=hs.cellsAt hgv;rw[hcs]at ho;cases ho;cases hc),hf,hd.grown hg (fun r e=>(hr r e).2),k2,fun j hj=>by obtain⟨cs,t,z,h⟩:=k3 j hj;exact⟨cs,t,z,hkc h⟩,k4⟩)
  (fun _ _ _ _ _ hs _ _=>hs)
  HI.o
  _ ?assign ?body ?done ?stop
 case assign=>
  intro l x W K hK
  gi_wp2
  exact hK
 case stop=>
  rintro D c pre W _ _ h _;exact h.elim
 case body=>
  rintro l pre ⟨i,hi⟩ W ⟨hu,v,S1,hcell,hsl,hf,h0,hs0,hcs0,hv1⟩ hlt;obtain⟨-,-,-,g0,-,-,-,hT,-,hT4,hT5,hD,hDT,hD5,hDn⟩:=H5.o;have hus:=hu.size;have hG0:=(hu.block _ (zf g0) (hTo _ (qXv _) (.inl oM))).trans g0;have c0:W.cell? ⟨A,0,none⟩=some (.pointer (some ⟨b,0,none⟩)):=za hG0 0;have hrd:=vT (S:=fun j=>S1 j\/W.heap.size<=j) (h0.wide (fun _ h=> .inl h)) (fun _ h=> .inr h) (base+i) oM;have HR:=qqh hrd;have hl0:=zf hG0;have hl5:=zf hcell;have HB:=Y14 hu hcell hsl hf h0 hs0 hcs0 hv1 hus hT5 hDT hD5 hDn hT4;clear g0 hT hT4 hDn hG0 hrd hu hcell hsl hf h0 hs0 hcs0 hv1 hT5 hD hDT hD5 hus
  gi_wp2_with fail
  refine⟨trivial,?_⟩;rw[show((base:Int)+(i:Int))=((base+i:Nat):Int) by simp];refine(CallsIn.inRound l (callsIn_wide.2 HR.o)).mono ?_;rintro e W2 ⟨y,cd,rfl,hy,hcd,hyl,hd2,hu2⟩;have hcd0:cd=0:=by rw[hcd];rfl
  have hyc:y=curB F O (base+i):=by rw[hy];rfl
  subst hcd0;obtain⟨hu,hcell,hsl,hf,h0,hs0,hcs0,hv1,hus,hT5,hDT,hD5,hDn,hT4⟩:=HB.o;obtain⟨S2,d2,s2,k2⟩:=hd2.exact;have hs2:=hu2.size;have n5:¬(S1 (A+5)\/W.heap.size<=A+5):=fun h=>by
   rcases h with h|h
   .exact hD5 _ oM oM (hs0 _ h)
   .omega
  have hcell2:=(hu2.block (A+5) hl5 n5).trans hcell;have hsl2:=hsl.keep hu2 (fun g hg h=>by
   rcases h with h|h
   .exact hv1 g hg h
   .have:=hsl.lt hg;omega)
  obtain⟨W4,hW4⟩:=qqe ((W2.alloc (.cells (bkC y).toArray 54)).alloc (.cells (bkC y).toArray 54));have hu4:Upd (fun _=>False) W2 W4:=by rw[hW4];exact((uur _ W2).alloc _).alloc _
  have hz4:W4.heap.size=W2.heap.size+2:=by rw[hW4];simp
  have g4:W4.heap[W2.heap.size+1]?=some (.cells (bkC y).toArray 54 (0,0)):=by rw[hW4];exact zc _ _ oe
  have hcell4:=hu4.j6 hcell2;have hsl4:=hsl2.keep hu4 (fun _ _ h=>h);obtain⟨ib,zb,hib,hzb,hzs,hisz,hiby⟩:=xp;have hpl:pre.length<=4096:=oM;obtain⟨v',w',hrun,hs',hu',hbf⟩:=yl (P:=prog) (m:=1) (x':=.slice (some ⟨W2.heap.size+1,0,none⟩) 1 1) (news:=bkC y) 41 41 ib zb 64 underlying41 hib hzb hisz hiby hzs de hsl4
   ⟨by rw[zo,hyl],de,_,_,rfl,(fun h=>by cases h),fun b hb j u hj=>by cases hb;rw[qxa,za g4];simpa using hj⟩ (zx y) (by simp only[maxLen];omega) oM
  obtain⟨ao',cc',hv'⟩:=hs'.rd.j7;subst hv';have hv5:∀g,v.ownBlock=some g->g≠A+5:=fun g hg e=>by
   have:=hf g hg;omega
  have hc':=(hu'.block (A+5) (zf hcell4) (fun h=>hv5 _ h rfl)).trans hcell4;obtain⟨w7,hw7⟩:=qqe (w'.setCell ⟨A+5,0,none⟩ (.slice ao' (pre.length+1) cc'));have hus7:Upd (fun j=>j=A+5) w' w7:=by rw[hw7];exact zj _ _ _ _
  have hc7:w7.heap[A+5]?=some (.cells #[.slice ao' (pre.length+1) cc'] 41 (0,0)):=by rw[hw7];exact zi hc' 0 _
  have cc2:=za hcell2 0;have cc4:=za hc' 0;have ff4:=zg hc' 0;have hlt2:=zf hcell2;have hyc64:(bkC y).length=64:=by rw[zo,hyl]
  have hrow:=Ws (.agg (bkC y).toArray) (by simpa[Value.cells]using hyc64) (W2.alloc (.cells (bkC y).toArray 54));have hy64:=zw y hyl;have rA:(W2.alloc (.cells (bkC y).toArray 54)).rangeAt W2.heap.size 0 (bkC y):=zh (zc W2 _ rfl);have hbf4:∀g,(Value.slice ao' (pre.length+1) cc').ownBlock=some g->(v.ownBlock=some g\/W4.heap.size<=g):=fun g hg=>by
   rcases hbf with e|⟨g2,e,hge⟩
   .rw [e]at hg;exact .inl hg
   .rw [e]at hg;cases hg;exact .inr hge
  have hTW:Upd T W w7:=by
   refine(((hu2.mono (fun j _ h=>?_)).trans (hu4.mono fE)).trans (hu'.mono (fun j _ h=>?_))).trans (hus7.mono (fun j _ h=>h▸hT5))
   .rcases h with h|h
    .exact hDT _ (hs0 _ h)
    .exact hTn _ oM
   .rcases hf j h with rfl|h
    .exact hT4
    .exact hTn _ oM
  have hS2v:∀j,S2 j->v.ownBlock≠some j:=fun j hj e=>by
   rcases s2 j hj with h|h
   .exact hv1 j e h
   .have:=hsl.lt e;omega
  have hS25:∀j,S2 j->j≠A+5:=fun j hj e=>by
   rcases s2 j hj with h|h
   .exact hD5 _ oM oM (hs0 _ (e▸h))
   .omega
  have hPOST:KeepsOthers W w7/\Upd T W w7/\PrI T D w5 b (A+5) (A+4) F O base (pre++[(⟨i,hi⟩:{i:Nat//i<m})]) w7:=by
   refine⟨?_,hTW,hu.trans hTW,_,S2,hc7,?_,fun g hg=>?_,?_,fun j hj=>?_,fun j hj=>?_,fun g hg hs=>?_⟩
   .have e1:KeepsOthers W W2:=zD hu2 (fun j hj hl=>by
     rcases hj with hj|hj
     .exact hcs0 j hj
     .omega)
    have e2:KeepsOthers W2 W4:=⟨oM,fun k o hk ho=>hu4.j6 hk⟩
    exact((e1.trans e2).trans (zD hu' (fun j hj _=>hsl4.cellsAt hj))).trans (zD hus7 (fun j hj _=>⟨_,_,_,hj▸hc'⟩))
   .rw [qzd,qzl];show Sl w7 _ _ _ _ (rowC (_++[curB F O (base+i)]));rw[tc,<-hyc];exact hs'.keep hus7 (fun g hg e=>by
     rcases hbf4 g hg with h|h
     .exact hv5 g h e
     .omega)
   .rcases hbf4 g hg with h|h
    .exact hf g h
    .right;omega
   .exact ((d2.keep hu4 (fun _ _ h=>h)).keep hu' (fun j hj h=>hS2v j hj h)).keep hus7 (fun j hj e=>hS25 j hj e)
   .rcases s2 j hj with h|h
    .exact hs0 j h
    .exact hDn j oM
   .obtain ⟨cs,t,z,hc⟩:=k2 j hj;have q1:=hu4.j6 hc;have q2:=(hu'.block j (zf q1) (fun h=>hS2v j hj h)).trans q1;exact⟨cs,t,z,(hus7.block j (zf q2) (fun e=>hS25 j hj e)).trans q2⟩
   .rcases hbf4 g hg with h|h
    .exact hS2v g hs h
    .obtain ⟨cs,t,z,hc⟩:=k2 g hs;have:=zf hc;omega
  have HP:=qqh hPOST;have HW7:=qqh hw7;rw[hW4]at hrun;have HRun:=qqh hrun;clear hPOST hTW hS2v hS25 hw7 hrun hW4 hu4 hz4 g4 hcell4 hsl4 hs' hu' hbf hbf4 hv5 hus7 hc7 d2 s2 k2 hs2 n5 hcell2 hsl2 hu hcell hsl hf h0 hs0 hcs0 hv1 hus hT5 hDT hD5 hDn hT4 hy hcd hyc hd2 hu2 hc'
  gi_wp2_with (first
   |(refine xA rfl _ _ _ rfl _ _ (bkC y) rfl rfl (by rw[hyc64];rfl) hy64 (zx y) ?_)
   |(refine yM rfl 54 _ rfl _ _ rfl _ _ rA underlying54 rfl hy64 ?_)
   |(refine Ya rfl 41 54 _ rfl (bkC y) rfl hrow ?_)
   |(gi_at_builtin;refine Stop.i ?_)
   |fail)
  refine Yb rfl _ _ 41 rfl v (.slice (some ⟨W2.heap.size+1,0,none⟩) 1 1) ?a1 ?a2 (.slice ao' (pre.length+1) cc') w' ?a3 ?a4
  case a1=>rfl
  case a2=>rfl
  case a3=>
   dsimp only
   with_reducible exact HRun.out
  case a4=>
   clear rA hrow HRun
   gi_wp2
   rw[<-HW7.o];exact HP.o
 case done=>
  rintro Dl ys W hD hys ⟨hu,v,S1,hcell,hsl,hf,h0,hs0,hcs0,hv1⟩ hK;obtain⟨-,-,-,g0,g1,g2,g3,hT,hU,hT4,hT5,hD',hDT,hD5,hDn⟩:=H5.o;have hlen:ys.length=m:=by have:=congrArg List.length hys;simpa using this
  have hsec:ys.map (fun x=>curB F O (base+x.1))=secsOf F O base m:=by
   unfold secsOf;rw[<-hys,qzn];rfl
  rw[hlen,hsec]at hsl;obtain⟨ao,cc,rfl⟩:=hsl.rd.j7;have clb:=za hcell 0;have hlb:=zf hcell;have hnl:Nib W:=H.o.2.2.1.keep (S:=fun j=>T j) ((hU.mono fE).trans hu) (fun h=>by
   rw[hT]at h;have:=H.o.2.2.1.lt;have hA:=HA.o;rcases h with h|h|h
   .exact H.o.2.2.2.1 h.1
   .omega
   .omega)
  have h64:All64 (secsOf F O base m):=fun x hx=>by
   obtain⟨i,-,rfl⟩:=qzv.1 hx;exact qv h0.good _
  have hsl':=xF F O base m;have HE:=qqh (RO (w:=W) (v:=.slice ao m cc) (l:=secsOf F O base m) (by rw[hsl'];exact hsl.rd) h64 oM oM hnl);have hA:=HA.o;have hgg:∀(j:Nat) (o:Obj),A<=j->j<A+4->w5.heap[j]?=some o->W.heap[j]?=some o:=fun j o h1 h2 h=>(hu.block j (zf h) (hTo _ h1 (.inl h2))).trans h;have q1:=hgg _ _ oM oM g1;have q2:=hgg _ _ oM oM g2;have q3:=hgg _ _ oM oM g3;have HV:=Y13 hu hsl hf h0 hs0 hcs0 hK hU hT hD' q1 q2 q3;generalize secsOf F O base m=l at*;clear g0 g1 g2 g3 hT hU hT4 hT5 hD' hDT hD5 hDn hu hcell hsl hf h0 hs0 hcs0 hv1 hK hnl h64 hsec hys hgg q1 q2 q3 hA
  gi_wp2_with fail
  go_wp2_with fail
  refine HE.o.mono ?_;rintro e W2 ⟨v2,rfl,hs2,hf2,hb2⟩;obtain⟨hu,hsl,hf,h0,hs0,hcs0,hK,hU,hT,hD',q1,q2,q3⟩:=HV.o;have hu2:=qqb hb2;have p1:=hu2.j6 q1;have p2:=hu2.j6 q2;have p3:=hu2.j6 q3;have hK2:=hu2.j6 hK;obtain⟨ao2,cc2,rfl⟩:=hs2.rd.j7;have hA:=HA.o;have hWA:A+8<=W.heap.size:=by have:=hu.size;omega
  have hn:=H.o.2.1;have hfin:∀(x y z:Value),∃W3,W3=(((W2.setCell ⟨A+1,0,none⟩ x).setCell ⟨A+1+1,0,none⟩ y).setCell ⟨A+1+1+1,0,none⟩ z).putObj Dl (.deferred none)/\
    (((W2.setCell ⟨A+1,0,none⟩ x).setCell ⟨A+1+1,0,none⟩ y).setCell ⟨A+1+1+1,0,none⟩ z).heap[Dl]?=some (.deferred (some []))/\W3.cell? ⟨A+1,0,none⟩=some x/\W3.cell? ⟨A+1+1,0,none⟩=some y/\W3.cell? ⟨A+1+1+1,0,none⟩=some z/\Dv (fun j=>S j/\j<W.heap.size) W3 b F O []/\Upd S w W3/\(∀u n xs,Sl W2 37 4 u n xs->From W.heap.size u->Sl W3 37 4 u n xs):=by
   intro x y z;have u1:=zj W2 (A+1) 0 x;have u2:=zj (W2.setCell ⟨A+1,0,none⟩ x) (A+1+1) 0 y;have u3:=zj ((W2.setCell ⟨A+1,0,none⟩ x).setCell ⟨A+1+1,0,none⟩ y) (A+1+1+1) 0 z;have s1:=zi p1 0 x;have s2:=zi ((u1.block _ (zf p2) oM).trans p2) 0 y;have s3:=zi ((u2.block _ (by simpa using zf p3) oM).trans ((u1.block _ (zf p3) oM).trans p3)) 0 z;have k1:=(u1.block _ (zf hK2) oM).trans hK2;have k2:=(u2.block _ (zf k1) oM).trans k1;have k3:=(u3.block _ (zf k2) oM).trans k2;have u4:=uL (((W2.setCell ⟨A+1,0,none⟩ x).setCell ⟨A+1+1,0,none⟩ y).setCell ⟨A+1+1+1,0,none⟩ z) Dl (.deferred none);have hUU:Upd (fun j=>j=A+1\/j=A+1+1\/j=A+1+1+1\/j=Dl) W2 _:=(((u1.mono (fun _ _ h=> .inl h)).trans (u2.mono (fun _ _ h=> .inr (.inl h)))).trans (u3.mono (fun _ _ h=> .inr (.inr (.inl h))))).trans (u4.mono (fun _ _ h=> .inr (.inr (.inr h))));refine⟨_,rfl,k3,?_,?_,?_,?_,?_,?_⟩
   .have s1':=(u2.block _ (zf s1) oM).trans s1;have s1'':=(u3.block _ (zf s1') oM).trans s1';exact(u4.cellAt (zf s1'') oM).trans (za s1'' 0)
   .have s2':=(u3.block _ (zf s2) oM).trans s2;exact(u4.cellAt (zf s2') oM).trans (za s2' 0)
   .exact (u4.cellAt (zf s3) oM).trans (za s3 0)
   .have d1:=(h0.keep hu2 (fun _ _ h=>h)).keep hUU (fun j hj h=>by
     obtain⟨cs,t,zz,hc⟩:=hcs0 j hj;rcases h with h|h|h|h
     .exact hD5 j oM oM (hs0 j hj)
     .exact hD5 j oM oM (hs0 j hj)
     .exact hD5 j oM oM (hs0 j hj)
     .rw [h,hK]at hc;cases hc)
    exact d1.wide (fun j hj=>by
     have:=hs0 j hj;obtain⟨cs,t,zz,hc⟩:=hcs0 j hj;rw[hD']at this;refine⟨?_,zf hc⟩;rcases this with h|h
     .exact h.1
     .exact hn j oM)
   .have hX:Upd (fun j=>T j\/j=A+1\/j=A+1+1\/j=A+1+1+1\/j=Dl) w5 _:=((hu.mono (fun _ _ h=> .inl h)).trans (hu2.mono fE)).trans (hUU.mono (fun _ _ h=> .inr h));refine(hU.mono fE).new hX (fun i hi hs=>?_);rcases hs with hs|hs|hs|hs|hs
    .rw [hT]at hs;rcases hs with hs|hs|hs
     .exact hs.1
     .omega
     .omega
    .omega
    .omega
    .omega
    .omega
   .intro u n xs h1 h2;exact h1.keep hUU (fun g hg h=>by
     have:=h2 g hg;rcases h with h|h|h|h
     .omega
     .omega
     .omega
     .obtain ⟨cs,t,zz,hc⟩:=h1.cellsAt hg;rw[h,hK2]at hc;cases hc)
  have HF:=Y4 hfin hs2 hf2 hWA;have f1:=zg p1 0;have f2:=zg p2 0;have f3:=zg p3 0;have d1:=za p1 0;have d2:=za p2 0;have d3:=za p3 0;have l3:=zf p3;have HP3:=Y3 p1 p2 p3;clear hfin hs2 hf2 hWA hu hsl hf h0 hs0 hcs0 hK hU hT hD' q1 q2 q3 hu2 p1 p2 p3 hK2 hA hn hb2;have hAw:w.heap.size<=W.heap.size:=by have:=HA.o;have:=HF.o.2.2.2;omega
  cases hro:readOk l with
  |false=>
   simp only[hro]at HF;rw[if_neg de]at HF⊢;have hO:=qqh hro;clear hro;go_wp2_with fail
   obtain⟨W3,hW3,k3,c1,c2,c3,dv,up,sl⟩:=HF.o.1 (.int .i64 0) (.slice none 0 0) (.int .i64 14);refine⟨oe,.inl ⟨_,_,rfl,run_takeDeferred k3,?_⟩⟩;rw[<-hW3];refine⟨.tuple #[.int .i64 0,.slice none 0 0,.int .i64 14],by simp[results,results35,go_sem,c1,c2,c3],.slice none 0 0,by rw[hO.out];rfl,by rw[hO.out];exact Sl.nil _ _ _,From.nil _ _ _,dv.wide (fun j hj=>⟨hj.1,fun g hg=>by cases hg⟩),up⟩
  |true=>
   simp only[hro]at HF⊢
   try simp only[if_true]
   have hO:=qqh hro;clear hro;go_wp2_with fail
   obtain⟨W3,hW3,k3,c1,c2,c3,dv,up,sl⟩:=HF.o.1 (.int .i64 (readSeq l:Nat)) (.slice ao2 (readEs l).length cc2) (.int .i64 0);refine⟨oe,.inl ⟨_,_,rfl,run_takeDeferred k3,?_⟩⟩;rw[<-hW3];refine⟨.tuple #[.int .i64 (readSeq l:Nat),.slice ao2 (readEs l).length cc2,.int .i64 0],by simp[results,results35,go_sem,c1,c2,c3],.slice ao2 (readEs l).length cc2,by rw[hO.out];rfl,by rw[hO.out];exact sl _ _ _ HF.o.2.1 HF.o.2.2.1,HF.o.2.2.1.mono hAw,dv.wide (fun j hj=>⟨hj.1,fun g hg=>by have:=HF.o.2.2.1 g hg;omega⟩),up⟩
end Go.Proofs.YtfhfbpmlnjdfoaaGreatDoor
namespace Go.Proofs.YtfhfbpmlnjdfoaaGreatDoor
open Go Go.RowKit Tryz
def nwS(F:List Bk)(O:List (Nat×Bk))(base m:Nat):Nat->Bool×Nat×Nat×List Ent
 |0=>(false,0,0,[])
 |k+1=>if readOk (secsOf F O (base+k*m) m)&&(!(nwS F O base m k).1||decide ((nwS F O base m k).2.2.1<readSeq (secsOf F O (base+k*m) m)))then(true,k,readSeq (secsOf F O (base+k*m) m),readEs (secsOf F O (base+k*m) m))else nwS F O base m k
theorem RP{F:List Bk}{O:List (Nat×Bk)}{base m:Nat}:∀{k:Nat},(nwS F O base m k).1=false->nwS F O base m k=(false,0,0,[])
 |0,_=>rfl
 |k+1,h=>by
  rw[nwS]at h⊢;split at h
  .cases h
  .next hc=>rw[if_neg hc];exact RP h
theorem zau{S:Nat->Prop}{w:World}{b:Nat}{F:List Bk}{O:List (Nat×Bk)}{P:List Int}(h:Dv S w b F O P)(base m:Nat)(h1:1<=m)(h2:base+2*m<=F.length):
  Calls prog 97 #[.pointer (some ⟨b,0,none⟩),.int .i64 (base:Int),.int .i64 (m:Int),.int .i64 2] w fun e w'=>e=.returned (.bool true)/\w=w':=by
 have hfl:=h.good.fl;have b1:¬((base:Int)>(F.length:Int)):=oM;have b2:(m:Int)<=((F.length:Int)-(base:Int)).tdiv 2:=by
  rw[Int.tdiv_eq_ediv_of_nonneg oM];omega
 have b3:¬((m:Int)<1):=oM;have b4:¬((base:Int)<0):=oM;have b5:0<=((F.length:Int)-(base:Int)):=oM;have q1:decide ((F.length:Int)<(base:Int))=false:=by simp;omega
 go_enter func97,ntmps97
 go_wp2_with (first
  |(go_at_call 47;refine(wJ h).mono ?_;rintro e w' ⟨rfl,rfl⟩)
  |fail)
 go_ret
 refine⟨?_,rfl⟩;simp;omega
def NwOut(S:Nat->Prop)(w:World)(b:Nat)(F:List Bk)(O:List (Nat×Bk))(r:Bool×Nat×Nat×List Ent)(e:Ending)(w':World):Prop:=
 ∃v,e=.returned (.tuple #[.int .i64 (r.2.1:Nat),.int .i64 (r.2.2.1:Nat),v,.int .i64 (if r.1 then 0 else 14)])/\Sl w' 37 4 v r.2.2.2.length (r.2.2.2.flatMap entC)/\From w.heap.size v/\Dv (fun j=>S j/\∀g,v.ownBlock=some g->g≠j) w' b F O []/\Upd S w w'
theorem El{S:Nat->Prop}{w:World}{b:Nat}{F:List Bk}{O:List (Nat×Bk)}(hd:Dv S w b F O [])(hn:∀j,w.heap.size<=j->S j)(base m:Nat)(hm1:1<=m)(hbm:base+2*m<=F.length)(hN:Nib w)(hgS:¬S 0):
  Calls prog 69 #[.pointer (some ⟨b,0,none⟩),.int .i64 (base:Int),.int .i64 (m:Int)] w (NwOut S w b F O (nwS F O base m 2)):=by
 have hfl:=hd.good.fl;have HT:=qqh (zau hd base m hm1 hbm);have H:=Y4 hd hn hN hgS;clear hd hn hN hgS;go_enter func69,ntmps69
 go_wp2_with fail
 refine HT.o.mono ?_;rintro e w' ⟨rfl,rfl⟩;go_wp2_with fail
 go_loopg[6,7,8,10,22] 2 (fun gk s6 s7 s8 s10 s22 wr=>∃k:Nat,∃f q z E,k+gk=2/\s22=.int .i64 (k:Int)/\(f,q,z,E)=nwS F O base m k/\s10=.bool f/\s6=.int .i64 (q:Nat)/\s7=.int .i64 (z:Nat)/\Sl wr 37 4 s8 E.length (E.flatMap entC)/\From w.heap.size s8/\Dv (fun j=>S j/\∀g,s8.ownBlock=some g->g≠j) wr b F O []/\Upd S w wr)
 case atStart=>exact⟨0,false,0,0,[],oM,rfl,rfl,rfl,rfl,rfl,Sl.nil _ _ _,From.nil _ _ _,H.o.1.kH (fun j h1 h2=>⟨h1,fun g hg=>by cases hg⟩),uur _ _⟩
 case round=>
  obtain⟨k,f,q,z,E,hk,rfl,hS,rfl,rfl,rfl,hsl,hfr,hd,hu⟩:=hrel;have hnl:Nib wr:=H.o.2.2.1.keep hu H.o.2.2.2;by_cases hlt:k<2
  .have k1:(k:Int)<2:=oM;have hkm:k*m<=1*m:=qYb m oM;have hu8:∀g,u8.ownBlock=some g->g<wr.heap.size:=fun g hg=>hsl.lt hg;have HR:=qqh (zcE (S:=fun j=>S j/\∀g,u8.ownBlock=some g->g≠j) hd (fun j hj=>⟨H.o.2.1 j (by have:=hu.size;omega),fun g hg=>by have:=hu8 g hg;omega⟩) (base+k*m) m hm1 oM hnl (fun h=>H.o.2.2.2 h.1));rw[show((base+k*m:Nat):Int)=(base:Int)+(k:Int)*(m:Int) by simp]at HR;have hS1:nwS F O base m (k+1)=if readOk (secsOf F O (base+k*m) m)&&(!f||decide (z<readSeq (secsOf F O (base+k*m) m)))then(true,k,readSeq (secsOf F O (base+k*m) m),readEs (secsOf F O (base+k*m) m))else(f,q,z,E):=by
    rw[nwS,<-hS]
   have HH:=Y6 hsl hfr hd hu hk hS1;have b1:(0:Int)<=(k:Int)*(m:Int):=by rw[<-Int.natCast_mul];omega
   have b2:(base:Int)+(k:Int)*(m:Int)<=4096:=by rw[<-Int.natCast_mul];omega
   have b3:(k:Int)*(m:Int)<=4096:=by rw[<-Int.natCast_mul];omega
   clear hsl hfr hd hu hnl hS hS1;go_wp2_with fail
   refine HR.o.mono ?_;rintro e w2 ⟨v2,rfl,hs2,hf2,hd2,hu2⟩;generalize secsOf F O (base+k*m) m=l at*;clear HR;cases hro:readOk l with
   |false=>
    have hO:=qqh hro;rw[hro]at HH hs2;clear hro;go_wp2_with fail
    go_roundg (gk-1)
    case measure=>have:=HH.o.2.2.2.2.1;omega
    case rel=>
     obtain⟨hsl,hfr,hd,hu,hk,hS1⟩:=HH.o;exact⟨k+1,f,q,z,E,oM,by go_num,by rw[hS1,if_neg oe],rfl,rfl,rfl,hsl.keep hu2 (fun g hg h=>h.2 g hg rfl),hfr,hd2.wide (fun j hj=>hj.1),hu.trans (hu2.mono (fun _ _ h=>h.1))⟩
   |true=>
    simp only[hro,if_true]at HH hs2⊢;clear hro;cases f with
    |false=>
     go_wp2_with fail
     go_roundg (gk-1)
     case measure=>have:=HH.o.2.2.2.2.1;omega
     case rel=>
      obtain⟨hsl,hfr,hd,hu,hk,hS1⟩:=HH.o;exact⟨k+1,true,k,readSeq l,readEs l,oM,by go_num,by rw[hS1,if_pos oe],rfl,rfl,rfl,hs2,hf2.mono hu.size,hd2.wide (fun j hj=>⟨hj.1.1,hj.2⟩),hu.trans (hu2.mono (fun _ _ h=>h.1))⟩
    |true=>
     by_cases hz:z<readSeq l
     .have q1:(z:Int)<(readSeq l:Int):=oM;go_wp2_with fail
      go_roundg (gk-1)
      case measure=>have:=HH.o.2.2.2.2.1;omega
      case rel=>
       obtain⟨hsl,hfr,hd,hu,hk,hS1⟩:=HH.o;exact⟨k+1,true,k,readSeq l,readEs l,oM,by go_num,by rw[hS1,if_pos (by simp[hz])],rfl,rfl,rfl,hs2,hf2.mono hu.size,hd2.wide (fun j hj=>⟨hj.1.1,hj.2⟩),hu.trans (hu2.mono (fun _ _ h=>h.1))⟩
     .have q1:¬(z:Int)<(readSeq l:Int):=oM;go_wp2_with fail
      go_roundg (gk-1)
      case measure=>have:=HH.o.2.2.2.2.1;omega
      case rel=>
       obtain⟨hsl,hfr,hd,hu,hk,hS1⟩:=HH.o;exact⟨k+1,true,q,z,E,oM,by go_num,by rw[hS1,if_neg (by simp[hz])],rfl,rfl,rfl,hsl.keep hu2 (fun g hg h=>h.2 g hg rfl),hfr,hd2.wide (fun j hj=>hj.1),hu.trans (hu2.mono (fun _ _ h=>h.1))⟩
  .obtain rfl:k=2:=oM;have k1:¬(((2:Nat):Int)<2):=de;have hz:NwOut S w b F O (f,q,z,E) (.returned (.tuple #[.int .i64 (q:Nat),.int .i64 (z:Nat),u8,.int .i64 (if f then 0 else 14)])) wr:=⟨u8,rfl,hsl,hfr,hd,hu⟩
   rw[hS]at hz;cases f with
   |false=>
    have hq:=RP (by rw[<-hS]);have hz:NwOut S w b F O (nwS F O base m 2) (.returned (.tuple #[.int .i64 0,.int .i64 0,.slice none 0 0,.int .i64 14])) wr:=by
     rw[hq];exact⟨.slice none 0 0,rfl,Sl.nil _ _ _,From.nil _ _ _,hd.wide (fun j hj=>⟨hj.1,fun g hg=>by cases hg⟩),hu⟩
    have HZ:=qqh hz;clear hz hsl hfr hd hu hnl hS hq;go_wp2_with fail
    exact qYw (v:=.tuple #[.int .i64 0,.int .i64 0,.slice none 0 0,.int .i64 14]) (by simp[results,results69,go_sem]) rfl HZ.o
   |true=>
    have HZ:=qqh hz;clear hz hsl hfr hd hu hnl hS;go_wp2_with fail
    exact qYw (v:=.tuple #[.int .i64 (q:Nat),.int .i64 (z:Nat),u8,.int .i64 0]) (by simp[results,results69,go_sem]) rfl HZ.o
theorem ve{α:Type}{enc:α->List Value}{m:Nat}(hl:∀x,(enc x).length=m){w:World}{g o:Nat}{L:List α}(h:∀j u,(L.flatMap enc)[j]?=some u->w.cell? ⟨g,o+j,none⟩=some u){k:Nat}(hk:k<L.length):w.rangeAt g (o+k*m) (enc L[k]):=by
 intro j v hj;have hj':j<m:=by rw[<-hl L[k]];exact(qyp.1 hj).1
 rw[qXr];refine h _ v ?_;have:∀(L:List α) (k:Nat) (hk:k<L.length),(L.flatMap enc)[k*m+j]?=(enc L[k])[j]?:=by
  intro L
  induction L with
  |nil=>intro k hk;simp at hk
  |cons x L ih=>
   intro k hk;rw[qyg];cases k with
   |zero=>rw[qYg,qYe,qyi (by rw[hl];exact hj')];rfl
   |succ k=>
    have e:(k+1)*m+j=m+(k*m+j):=by rw[Nat.succ_mul];omega
    rw[e,qyj (by rw[hl];omega),hl,Nat.add_sub_cancel_left];exact ih k (by simpa using hk)
 rw[this L k hk];exact hj
open Go Go.RowKit Go.Maps Tryz
theorem Yc{x y:Int}(e:Lit.int .i64 x=Lit.int .i64 y):x=y:=by injection e
section
variable{α:Type}
open Classical in
noncomputable def decR (enc:α->Value) (v:Value):Option (DataW α×List MemPlace):=if h:∃e,v=enc e then some (.held (Classical.choose h),[])else none
variable{enc:α->Value}
theorem uN(hi:∀x y,enc x=enc y->x=y)(e:α):decR enc (enc e)=some (.held e,[]):=by
 have h:∃e',enc e=enc e':=⟨e,rfl⟩
 unfold decR;rw[dif_pos h,<-hi _ _ (Classical.choose_spec h)]
theorem uO{v:Value}{y:DataW α×List MemPlace}(h:decR enc v=some y):∃e,v=enc e/\y=(.held e,[]):=by
 unfold decR at h;split at h
 .rename_i hx
  cases h;exact⟨_,Classical.choose_spec hx,rfl⟩
 .cases h
def WO(D:DataW α)(f:Int->Option α):Prop:=∀s:Int,Maps.has D (.int .i64 s)=(f s).isSome/\∀c,f s=some c->∀z,D.atKey (.int .i64 s) z=.held c
variable(enc)
def MapG(w:World)(mb N:Nat)(f:Int->Option α):Prop:=∃D:DataW α,w.ownsMap prog 3 (decR enc) mb N D/\WO D f
def Yd(w:World)(mb r N:Nat)(f:Int->Option α)(left:Int->Bool)(cnt:Nat):Prop:=
 ∃(D:DataW α) (lf:Lit->Bool),w.ranges prog 3 (decR enc) mb r N D lf cnt/\WO D f/\∀s:Int,lf (.int .i64 s)=left s
variable{enc}
variable{w:World}{mb N:Nat}{f:Int->Option α}
theorem MapG.lt(h:MapG enc w mb N f):mb<w.heap.size:=by obtain⟨D,h,_⟩:=h;exact h.lt
theorem MapG.keep{w':World}(h:MapG enc w mb N f){S:Nat->Prop}(hu:Upd S w w')(hs:¬S mb):MapG enc w' mb N f:=by
 obtain⟨D,⟨es,clock,hb,r⟩,hf⟩:=h;exact⟨D,⟨es,clock,(hu.block _ (zf hb) hs).trans hb,r⟩,hf⟩
theorem MapG.mono{N':Nat}(h:MapG enc w mb N f)(hn:N<=N'):MapG enc w mb N' f:=by obtain⟨D,h,hf⟩:=h;exact⟨D,h.mono hn,hf⟩
theorem MapG.made(w:World):MapG enc (w.alloc (.map #[] 0)) w.heap.size 0 (fun _=>none):=
 ⟨.map [],World.ownsMap_made w _ _ _,fun s=>⟨rfl,fun c h=>by cases h⟩⟩
theorem MapG.look(h:MapG enc w mb N f)(hi:∀x y,enc x=enc y->x=y){t e:TypeId}(ht:prog.underlying t=some (.map 3 e)){z0:α}(hz:(zeroValue e).run prog w=.ok (enc z0) w){x:Int}(h1: -9223372036854775808<=x)(h2:x<9223372036854775808):
  (Instr.lookup t (.map (some mb)) (.int .i64 x) true).run prog w=.ok (.tuple #[enc ((f x).getD z0),.bool (f x).isSome]) w:=by
 obtain⟨D,ho,hf⟩:=h;obtain⟨v,ps,hr,hv⟩:=ho.look_ok yC ht hz (uN hi z0) (qc h1 h2);obtain⟨c,rfl,hc⟩:=uO hv;simp only[qYk]at hc;rw[hr,(hf x).1];have:c=(f x).getD z0:=by
  cases hx:f x with
  |none=>
   have h0:=(hf x).1;rw[hx]at h0;have:=atKey_of_not_has (D:=D) h0 (.held z0);rw[this]at hc;exact(DataW.held.inj hc.1).symm
  |some c'=>
   have:=(hf x).2 c' hx (.held z0);rw[this]at hc;exact(DataW.held.inj hc.1).symm
 rw[this]
theorem MapG.drop(h:MapG enc w mb N f){t e:TypeId}(ht:prog.underlying t=some (.map 3 e)){x:Int}(h1: -9223372036854775808<=x)(h2:x<9223372036854775808)(ty:TypeId):
  ∃w',(Builtin.delete_ #[t,3] ty #[.map (some mb),.int .i64 x]).run prog w=.ok (.tuple #[]) w'/\MapG enc w' mb N (fun s=>if s=x then none else f s)/\Upd (fun j=>j=mb) w w'/\w'.heap.size=w.heap.size:=by
 obtain⟨D,ho,hf⟩:=h;obtain⟨w',hr,ho',ht'⟩:=ho.drop yC ht (qc h1 h2) ty;refine⟨w',hr,⟨_,ho',fun s=>?_⟩,yD ht',yw ht'⟩;by_cases hs:s=x
 .subst hs;simp[has_del_same]
 .have hne:Lit.int .i64 s≠Lit.int .i64 x:=fun e=>hs (Yc e);simp only[if_neg hs,has_del_other hne];exact⟨(hf s).1,fun c hc z=>by rw[atKey_del_other hne];exact(hf s).2 c hc z⟩
theorem MapG.store(h:MapG enc w mb N f)(hi:∀x y,enc x=enc y->x=y){t e:TypeId}(ht:prog.underlying t=some (.map 3 e)){x:Int}(h1: -9223372036854775808<=x)(h2:x<9223372036854775808)(c:α)(hn:N<maxLen):
  ∃w',(Instr.mapUpdate t (.map (some mb)) (.int .i64 x) (enc c)).run prog w=.ok () w'/\MapG enc w' mb (N+1) (fun s=>if s=x then some c else f s)/\Upd (fun j=>j=mb) w w'/\w'.heap.size=w.heap.size:=by
 obtain⟨D,ho,hf⟩:=h;have hM:=ho.isMap;have hK:∀y:Int,WideAt.IsKeyLit (.int .i64 y):=fun _=>trivial;obtain⟨w',hr,ho',ht'⟩:=ho.store (ps:=[]) (d:=.held c) yC ht hn (qc h1 h2) (uN hi c);refine⟨w',hr,⟨_,ho',fun s=>?_⟩,yD ht',yw ht'⟩;by_cases hs:s=x
 .subst hs;simp only[if_pos];exact⟨by rw[has_put_same hM (hK _)];rfl,fun c' hc' z=>by obtain rfl:=qYj hc';exact atKey_put_same hM (hK _) _ _⟩
 .have hne:Lit.int .i64 s≠Lit.int .i64 x:=fun e=>hs (Yc e);simp only[if_neg hs,has_put_other hne];exact⟨(hf s).1,fun c hc z=>by rw[atKey_put_other hne];exact(hf s).2 c hc z⟩
theorem MapG.look1(h:MapG enc w mb N f)(hi:∀x y,enc x=enc y->x=y){t e:TypeId}(ht:prog.underlying t=some (.map 3 e)){z0:α}(hz:(zeroValue e).run prog w=.ok (enc z0) w){x:Int}(h1: -9223372036854775808<=x)(h2:x<9223372036854775808):
  (Instr.lookup t (.map (some mb)) (.int .i64 x) false).run prog w=.ok (enc ((f x).getD z0)) w:=by
 obtain⟨D,ho,hf⟩:=h;obtain⟨v,ps,hr,hv⟩:=ho.lookup yC ht hz (uN hi z0) (qc h1 h2);obtain⟨c,rfl,hc⟩:=uO hv;simp only[qYk]at hc;rw[hr];have:c=(f x).getD z0:=by
  cases hx:f x with
  |none=>
   have h0:=(hf x).1;rw[hx]at h0;have:=atKey_of_not_has (D:=D) h0 (.held z0);rw[this]at hc;exact(DataW.held.inj hc.1).symm
  |some c'=>
   have:=(hf x).2 c' hx (.held z0);rw[this]at hc;exact(DataW.held.inj hc.1).symm
 rw[this]
variable(enc)in
def MapC(w:World)(mb N:Nat)(f:Int->Option α)(c:Nat):Prop:=∃D:DataW α,w.ownsMap prog 3 (decR enc) mb N D/\WO D f/\Maps.size D=c
theorem MapC.g{c:Nat}(h:MapC enc w mb N f c):MapG enc w mb N f:=by obtain⟨D,h1,h2,-⟩:=h;exact⟨D,h1,h2⟩
theorem MapC.keep{c:Nat}{w':World}(h:MapC enc w mb N f c){S:Nat->Prop}(hu:Upd S w w')(hs:¬S mb):MapC enc w' mb N f c:=by
 obtain⟨D,⟨es,clock,hb,r⟩,hf,hc⟩:=h;exact⟨D,⟨es,clock,(hu.block _ (zf hb) hs).trans hb,r⟩,hf,hc⟩
theorem MapC.made(w:World):MapC enc (w.alloc (.map #[] 0)) w.heap.size 0 (fun _=>none) 0:=
 ⟨.map [],World.ownsMap_made w _ _ _,fun s=>⟨rfl,fun c h=>by cases h⟩,rfl⟩
theorem MapC.len{c:Nat}(h:MapC enc w mb N f c){t e:TypeId}(ht:prog.underlying t=some (.map 3 e))(ty:TypeId):(Builtin.len_ #[t] ty #[.map (some mb)]).run prog w=.ok (.int .i64 (c:Int)) w:=by
 obtain⟨D,h,-,rfl⟩:=h;exact h.len ht ty
theorem MapC.store{c0:Nat}(h:MapC enc w mb N f c0)(hi:∀x y,enc x=enc y->x=y){t e:TypeId}(ht:prog.underlying t=some (.map 3 e)){x:Int}(h1: -9223372036854775808<=x)(h2:x<9223372036854775808)(c:α)(hn:N<maxLen):
  ∃w',(Instr.mapUpdate t (.map (some mb)) (.int .i64 x) (enc c)).run prog w=.ok () w'/\MapC enc w' mb (N+1) (fun s=>if s=x then some c else f s) (if(f x).isSome then c0 else c0+1)/\Upd (fun j=>j=mb) w w'/\w'.heap.size=w.heap.size:=by
 obtain⟨D,ho,hf,hc0⟩:=h;have hM:=ho.isMap;have hK:∀y:Int,WideAt.IsKeyLit (.int .i64 y):=fun _=>trivial;obtain⟨w',hr,ho',ht'⟩:=ho.store (ps:=[]) (d:=.held c) yC ht hn (qc h1 h2) (uN hi c);refine⟨w',hr,⟨_,ho',fun s=>?_,?_⟩,yD ht',yw ht'⟩
 .by_cases hs:s=x
  .subst hs;simp only[if_pos];exact⟨by rw[has_put_same hM (hK _)];rfl,fun c' hc' z=>by obtain rfl:=qYj hc';exact atKey_put_same hM (hK _) _ _⟩
  .have hne:Lit.int .i64 s≠Lit.int .i64 x:=fun e=>hs (Yc e);simp only[if_neg hs,has_put_other hne];exact⟨(hf s).1,fun c hc z=>by rw[atKey_put_other hne];exact(hf s).2 c hc z⟩
 .rw [size_put (ho.tidy yC),(hf x).1,hc0]
theorem Yd.lt{r:Nat}{left:Int->Bool}{cnt:Nat}(h:Yd enc w mb r N f left cnt):mb<w.heap.size/\r<w.heap.size:=by
 obtain⟨D,lf,h,-,-⟩:=h;exact⟨h.owns.lt,h.lt⟩
theorem Yd.keep{r:Nat}{left:Int->Bool}{cnt:Nat}{w':World}(h:Yd enc w mb r N f left cnt){S:Nat->Prop}(hu:Upd S w w')(h1:¬S mb)(h2:¬S r):Yd enc w' mb r N f left cnt:=by
 obtain⟨l1,l2⟩:=h.lt;obtain⟨D,lf,⟨es,clock,since,seen,c0,hb,F,hs,hD,hr,rest⟩,hf,hl⟩:=h;exact⟨D,lf,⟨es,clock,since,seen,c0,(hu.block mb l1 h1).trans hb,F,hs,hD,(hu.block r l2 h2).trans hr,rest⟩,hf,hl⟩
end
section
variable{α:Type}{enc:α->Value}{w:World}{ops:Array Oper}{rest:List Oper}{o:Oper}{a:Act}{Q:Exit->Act->World->Prop}{mb N:Nat}{f:Int->Option α}
theorem rC(hg:o.guard=none)(m:Operand)(t:TypeId)(hop:o.op=Op.range t m){e:TypeId}(ht:prog.underlying t=some (.map 3 e))
  (hm:a.eval m=.map (some mb)) (h:MapG enc w mb N f)
  (hK:∀w',(∃cnt,cnt<=N/\Yd enc w' mb w.heap.size N f (fun s=>(f s).isSome) cnt)->Upd (fun _=>False) w w'->w'.heap.size=w.heap.size+1->wpList prog ops Q rest (a.put o.dst (.pointer (some ⟨w.heap.size,0,none⟩))) w'):
  wpList prog ops Q (o::rest) a w:=by
 obtain⟨D,ho,hf⟩:=h;exact wpList_range_own w hg m t hop 3 e yC ht (decR enc) mb N D hm ho (fun w' h1 h2 h3=>hK w' ⟨_,ho.size_le,D,_,h1,hf,fun s=>(hf s).1⟩ (Upd.kB h2 (fun g hg=>by cases hg)) h3)
theorem sE(hg:o.guard=none)(it:Operand)(hop:o.op=Op.next it false){r cnt:Nat}{left:Int->Bool}
  (hit:a.eval it=.pointer (some ⟨r,0,none⟩)) (h:Yd enc w mb r N f left cnt)
  (hDone:(∀s,left s=false)->wpList prog ops Q rest (a.put o.dst (.tuple #[.bool false])) w)
  (hMore:∀(x:Int) (c:α) (w':World),left x=true->f x=some c->(∃cnt',cnt'<cnt/\Yd enc w' mb r N f (fun z=>left z&&!decide (z=x)) cnt')->Upd (fun j=>j=r) w w'->w'.heap.size=w.heap.size->
   (Instr.entry (.pointer (some ⟨r,0,none⟩))).run prog w'=.ok (.tuple #[.int .i64 x,enc c]) w'->wpList prog ops Q rest (a.put o.dst (.tuple #[.bool true,.int .i64 x,enc c])) w'):
  wpList prog ops Q (o::rest) a w:=by
 obtain⟨D,lf,h,hf,hl⟩:=h;refine wpList_next_ranges w hg it hop 3 yC (decR enc) (Value.int .i64) enc (fun key kl hk=>?_) (fun v y hv=>?_) mb r N D lf cnt hit h (fun _ h0=>hDone (fun s=>by rw[<-hl,h0])) (fun x c kl y w' cnt' hkey hlk hv hat hrg hlt hgr hsz hen=>?_)
 .obtain ⟨x,hx,-⟩:=Maps.keyOf_int_inv underlying3 hk;exact⟨x,hx⟩
 .obtain ⟨e,he,-⟩:=uO hv;exact⟨e,he⟩
 .obtain ⟨x',ex,rfl,-⟩:=Maps.keyOf_int_inv underlying3 hkey;cases ex;obtain⟨c',ec,rfl⟩:=uO hv;have hfx:f x=some c':=by
   have h1:=has_true_of_atKey hat;rw[(hf x).1]at h1;obtain⟨c2,hc2⟩:=Option.isSome_iff_exists.1 h1;have h2:=(hf x).2 c2 hc2 (.held c2);rw[hat]at h2;rw[hc2,DataW.held.inj h2]
  rw[ec]at hen⊢;refine hMore x c' w' (by rw[<-hl];exact hlk) hfx ⟨cnt',hlt,D,_,hrg,hf,fun s=>?_⟩ (Upd.kB hgr (fun g hg _=>(qYj hg).symm)) hsz hen;show(lf (.int .i64 s)&&!(Lit.int .i64 s).sameKey (.int .i64 x))=_;rw[hl];by_cases hs:s=x
  .subst hs;rw[WideAt.sameKey_self (show WideAt.IsKeyLit (.int .i64 s)from trivial),show(fun z=>left z&&!decide (z=s)) s=(left s&&!decide (s=s))from rfl,qYy rfl]
  .rw [sameKey_ne (fun e=>hs (Yc e)),show(fun z=>left z&&!decide (z=x)) s=(left s&&!decide (s=x))from rfl,decide_eq_false hs]
end
end Go.Proofs.YtfhfbpmlnjdfoaaGreatDoor
namespace Go.Proofs.YtfhfbpmlnjdfoaaGreatDoor
open Go Go.RowKit Tryz
structure EI where
 b:Int
 s:Int
 d:Bool
 x:Int
def EI.cs(e:EI):List Value:=[.int .i64 e.b,.int .i64 e.s,.bool e.d,.int .i64 e.x]
def EI.enc(e:EI):Value:=.agg e.cs.toArray
theorem EI.enc_inj(x y:EI)(h:x.enc=y.enc):x=y:=by
 obtain⟨a,b,c,d⟩:=x;obtain⟨a',b',c',d'⟩:=y;simp only[EI.enc,EI.cs,Value.agg.injEq]at h;obtain⟨rfl,rfl,rfl,rfl⟩:=h;rfl
theorem EI.one(e:EI):∀v∈e.cs,v.oneCell'=true:=by
 intro v hv;simp only[EI.cs,qzr,qXd,qZb]at hv;rcases hv with rfl|rfl|rfl|rfl<;>rfl
def EI.zero:EI:=⟨0,0,false,0⟩
def Ja(x:Int):Prop:= -9223372036854775808<=x/\x<9223372036854775808
def apPut(f:Int->Option EI)(e:EI):Int->Option EI:=fun s=>if s=e.b then some e else f s
def apM(l:List EI):Int->Option EI:=l.foldl apPut (fun _=>none)
theorem RQ(l:List EI)(e:EI):apM (l++[e])=apPut (apM l) e:=by simp[apM,List.foldl_append]
theorem RR(l:List EI){k:Nat}(hk:k<l.length):apM (l.take (k+1))=apPut (apM (l.take k)) l[k]:=by
 rw[qXq hk,RQ]
def AtB(f:Int->Option EI):Prop:=∀s e,f s=some e->e.b=s
theorem RS(l:List EI):∀f,AtB f->AtB (l.foldl apPut f)/\∀s,((l.foldl apPut f) s).isSome=true↔s∈l.map EI.b\/(f s).isSome=true:=by
 induction l with
 |nil=>intro f h;exact⟨h,fun s=>oe⟩
 |cons e l ih=>
  intro f h;have h':AtB (apPut f e):=by
   intro s e' he;unfold apPut at he;split at he
   .rename_i hs;cases he;exact hs.symm
   .exact h s e' he
  refine⟨(ih _ h').1,fun s=>?_⟩;rw[List.foldl_cons,(ih _ h').2 s,qzm,qzr];unfold apPut;by_cases hs:s=e.b
  .simp [hs]
  .simp [hs]
theorem zav(l:List EI):AtB (apM l):=(RS l _ (fun s e h=>by cases h)).1
theorem Xv(l:List EI)(s:Int):(apM l s).isSome=true↔s∈l.map EI.b:=by
 have:=(RS l (fun _=>none) (fun s e h=>by cases h)).2 s;simpa[apM]using this
theorem WP{l:List EI}{k:Nat}(hk:k<l.length)(hn:((l.take k).map EI.b).Nodup)(h:(apM (l.take k) l[k].b).isSome=false):((l.take (k+1)).map EI.b).Nodup:=by
 rw[qXq hk,qzl,qXa];refine⟨hn,oe,fun a ha b hb e=>?_⟩;simp only[qzm,qzo,qzy]at hb;subst hb;rw[e]at ha;have:=(Xv _ _).2 ha;rw[h]at this;cases this
theorem TB{l:List EI}{k:Nat}(hk:k<l.length)(h:(apM (l.take k) l[k].b).isSome=true):¬(l.map EI.b).Nodup:=by
 intro hn;have h1:=(Xv _ _).1 h;rw[<-qXo k l,qzl,qXa]at hn;exact hn.2.2 _ h1 _ (List.mem_map_of_mem (by rw[qyb hk];exact qzt)) rfl
def recE(r:List Int):EI:=⟨r.getD 3 0,r.getD 4 0,r.getD 5 0==1,r.getD 6 0⟩
def apR(f:Int->Option EI)(r:List Int):Int->Option EI:=fun s=>if s=r.getD 3 0 then(if r.getD 2 0=0 then some (recE r)else none)else f s
def apRs(f:Int->Option EI)(rs:List (List Int)):Int->Option EI:=rs.foldl apR f
theorem Ze(f:Int->Option EI)(rs:List (List Int)){k:Nat}(hk:k<rs.length):apRs f (rs.take (k+1))=apR (apRs f (rs.take k)) rs[k]:=by
 rw[qXq hk];unfold apRs;rw[List.foldl_append];rfl
theorem Em(rs:List (List Int)):∀f,AtB f->AtB (apRs f rs):=by
 induction rs with
 |nil=>intro f h;exact h
 |cons r rs ih=>
  intro f h;refine ih _ (fun s e he=>?_);unfold apR at he;split at he
  .rename_i hs
   split at he
   .cases he;exact hs.symm
   .cases he
  .exact h s e he
theorem En{p:EI->Prop}(l:List EI):∀f,(∀s e,f s=some e->p e)->(∀e∈l,p e)->∀s e,(l.foldl apPut f) s=some e->p e:=by
 induction l with
 |nil=>intro f h _;exact h
 |cons x l ih=>
  intro f h hl;refine ih _ (fun s e he=>?_) (fun e he=>hl e (qzs _ he));unfold apPut at he;split at he
  .cases he;exact hl _ qzt
  .exact h s e he
theorem RT{p:EI->Prop}{l:List EI}{rs:List (List Int)}(hl:∀e∈l,p e)(hr:∀r∈rs,p (recE r)):∀s e,apRs (apM l) rs s=some e->p e:=by
 have:∀(rs:List (List Int)) f,(∀s e,f s=some e->p e)->(∀r∈rs,p (recE r))->∀s e,apRs f rs s=some e->p e:=by
  intro rs
  induction rs with
  |nil=>intro f h _;exact h
  |cons r rs ih=>
   intro f h hr;refine ih _ (fun s e he=>?_) (fun r hr'=>hr r (qzs _ hr'));unfold apR at he;split at he
   .split at he
    .cases he;exact hr _ qzt
    .cases he
   .exact h s e he
 exact this rs _ (En l _ (fun s e h=>by cases h) hl) hr
def Lists(f:Int->Option EI)(L:List EI):Prop:=(L.map EI.b).Nodup/\∀e,e∈L↔f e.b=some e
def cntS(L:List EI)(s:Int):Nat:=L.countP (fun e=>e.s==s)
def takenF(L:List EI):Int->Option Int:=fun s=>if cntS L s=0 then none else some (cntS L s:Int)
theorem Xw(L:List EI)(e:EI):takenF (L++[e])=fun s=>if s=e.s then some ((cntS L e.s:Int)+1)else takenF L s:=by
 funext s
 unfold takenF cntS;rw[List.countP_append];by_cases h:s=e.s
 .subst h;simp
 .have h':(e.s==s)=false:=by simp;exact fun e=>h e.symm
  simp[h,h']
theorem Xx(L:List EI)(s:Int):cntS L s=0↔s∉L.map EI.s:=by
 unfold cntS;rw[List.countP_eq_zero];simp only[qzv,not_exists,not_and,beq_iff_eq]
theorem Eo(L:List EI)(s:Int):cntS L s<=L.length:=List.countP_le_length
theorem Xy(L:List EI)(s:Int):(takenF L s).getD 0=(cntS L s:Int):=by
 unfold takenF;split
 .rename_i h;rw[h];rfl
 .rfl
theorem tV(L:List EI)(s:Int):(takenF L s).isSome=true↔s∈L.map EI.s:=by
 unfold takenF;by_cases h:cntS L s=0
 .rw [if_pos h];exact⟨fun h'=>(by cases h'),fun h'=>absurd h' ((Xx L s).1 h)⟩
 .rw [if_neg h];exact⟨fun _=>Classical.byContradiction fun h'=>h ((Xx L s).2 h'),fun _=>rfl⟩
theorem WQ{F:Int->Option EI}{L:List EI}{left:Int->Bool}{x:Int}{en:EI}(hF:F x=some en)(heb:en.b=x)(hlx:left x=true)(hN:(L.map EI.b).Nodup)(hM:∀e,e∈L↔F e.b=some e/\left e.b=false):
  ((L++[en]).map EI.b).Nodup/\∀e,e∈L++[en]↔F e.b=some e/\(left e.b&&!decide (e.b=x))=false:=by
 refine⟨?_,fun e=>?_⟩
 .rw [qzl,qXa];refine⟨hN,oe,fun a ha b hb hab=>?_⟩;simp only[qzm,qzo,qzy]at hb;obtain⟨e,he,rfl⟩:=qzv.1 ha;have:=((hM e).1 he).2;rw[hab,hb,heb,hlx]at this;cases this
 .rw [qzq,qzy,hM e];by_cases h:e.b=x
  .rw [qYy h,h];constructor
   .rintro (⟨-,h2⟩|rfl)
    .rw [hlx]at h2;cases h2
    .exact ⟨hF,oe⟩
   .rintro ⟨h1,-⟩;rw[hF]at h1;exact .inr (qYj h1).symm
  .rw [decide_eq_false h];constructor
   .rintro (h2|rfl)
    .simpa using h2
    .exact absurd heb h
   .intro h2;exact .inl (by simpa using h2)
theorem RU{L:List EI}(en:EI){c:Nat}(h1:c<=L.length)(h2:c=L.length↔(L.map EI.s).Nodup):
  (if(takenF L en.s).isSome=true then c else c+1)<=(L++[en]).length/\((if(takenF L en.s).isSome=true then c else c+1)=(L++[en]).length↔((L++[en]).map EI.s).Nodup):=by
 rw[qzd,qzl,qXa];simp only[qze,qzh];by_cases h:(takenF L en.s).isSome=true
 .rw [if_pos h];refine⟨oM,fun e=>oM,fun e=>?_⟩;exact absurd rfl (e.2.2 _ ((tV L en.s).1 h) en.s oe)
 .rw [if_neg h];refine⟨oM,fun e=>⟨h2.1 oM,oe,fun a ha b hb hab=>?_⟩,fun e=>by have:=h2.2 e.1;omega⟩;simp only[qzm,qzo,qzy]at hb;rw[hab,hb]at ha;exact h ((tV L en.s).2 ha)
theorem TC{L L':List EI}(hp:L'.Perm L)(hn:(L.map EI.b).Nodup)(hs:L'.Pairwise (fun x y=>x.b<=y.b)):L'.Pairwise (fun x y=>x.b<y.b):=by
 have h1:(L'.map EI.b).Nodup:=(hp.map EI.b).nodup_iff.2 hn;have h2:L'.Pairwise (fun x y=>x.b≠y.b):=qXf.1 h1;exact(hs.and h2).imp (fun h=>by have:=h.1;have:=h.2;omega)
theorem WR{F:Int->Option EI}{L L':List EI}(h:Lists F L)(hp:L'.Perm L):Lists F L':=⟨(hp.map EI.b).nodup_iff.2 h.1,fun e=>(hp.mem_iff).trans (h.2 e)⟩
end Go.Proofs.YtfhfbpmlnjdfoaaGreatDoor
