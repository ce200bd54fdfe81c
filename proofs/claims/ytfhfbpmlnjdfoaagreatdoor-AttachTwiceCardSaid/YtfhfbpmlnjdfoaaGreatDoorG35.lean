/- lavaboref14.Pa -/
import Derived.Test.YtfhfbpmlnjdfoaaGreatDoorG21
set_option maxRecDepth 100000
set_option maxHeartbeats 2000000
namespace Go.Proofs.YtfhfbpmlnjdfoaaGreatDoor
open Go Go.RowKit Tryz
def PsEl(w:World)(M:Nat)(v:Value):Prop:=∃L:List Int,1<=L.length/\L.length<=M/\(∀x∈L,0<=x/\x<=255)/\Sl w 3 1 v L.length (ints L)
theorem PsEl.keep{w w':World}{M:Nat}{v:Value}(h:PsEl w M v){S:Nat->Prop}(hu:Upd S w w')(hs:∀g,v.ownBlock=some g->¬S g):PsEl w' M v:=by
 obtain⟨L,h1,h2,h0,h3⟩:=h;exact⟨L,h1,h2,h0,h3.keep hu hs⟩
structure Pst(B:Nat->Prop)(w:World)(p N M:Nat)(vo:Value)(xs:List Value):Prop where
 str:w.heap[p]?=some (.cells #[vo] 177 (0,0))
 o:Sl w 87 1 vo N xs
 els:∀x∈xs,PsEl w M x
 bp:B p
 bo:∀g,vo.ownBlock=some g->B g/\g≠p
 bx:∀x∈xs,∀g,x.ownBlock=some g->B g/\g≠p/\vo.ownBlock≠some g
 dis:xs.Pairwise Dis
theorem Pst.keep{B S:Nat->Prop}{w w':World}{p N M:Nat}{vo:Value}{xs:List Value}(h:Pst B w p N M vo xs)(hu:Upd S w w')(hS:∀j,B j->¬S j):Pst B w' p N M vo xs:=
 {h with str:=(hu.block p (zf h.str) (hS _ h.bp)).trans h.str,o:=h.o.keep hu (fun g hg=>hS g (h.bo g hg).1),els:=fun x hx=>(h.els x hx).keep hu (fun g hg=>hS g (h.bx x hx g hg).1)}
theorem Pst.len{B:Nat->Prop}{w:World}{p N M:Nat}{vo:Value}{xs:List Value}(h:Pst B w p N M vo xs):xs.length=N:=by have:=h.o.len;omega
theorem AZ:(prog.info? 87).map (fun i=>(i.zero,i.size,i.bytes))=some (some (.slice none 0 0),1,24):=by kernel_rfl
theorem Sa:(prog.info? 3).map (fun i=>(i.zero,i.size,i.bytes))=some (some (.int .i64 0),1,8):=by kernel_rfl
theorem VU(w:World)(x:Int)(hx:0<=x/\x<=255)(M:Nat)(hM:1<=M):PsEl (w.alloc (.cells #[.int .i64 x] 3)) M (.slice (some ⟨w.heap.size,0,none⟩) 1 1):=
 ⟨[x],qXv _,hM,fun y hy=>by rw[qzy.1 hy];exact hx,rfl,.inr ⟨w.heap.size,0,1,#[.int .i64 x],rfl,zc w _ rfl,qXv _,by unfold maxLen;omega,by simp,fun j u h=>by rw[qYe];simpa[ints]using h⟩⟩
theorem XA{ops:Array Oper}{rest:List Oper}{op:Oper}{a:Act}{w:World}{Q:Exit->Act->World->Prop}(hgd:op.guard=none)(s x:Operand)(t:TypeId)(hop:op.op=Op.call {callee:=Callee.builtin Builtin.append,args:= #[s,x],argTypes:= #[t,t]})(v x':Value)(hs:a.eval s=v)(hx:a.eval x=x')(v':Value)(w':World)
  (hrun:(Builtin.append_ #[t,t] op.type #[v,x']).run prog w=.ok v' w') (h:wpList prog ops Q rest (a.put op.dst v') w'):wpList prog ops Q (op::rest) a w:=by
 refine qZh hgd fun K hK'=>?_;unfold Oper.wp;simp[execOp,hop,resolve,invoke,builtin,hs,hx,hrun,Result.andThen];exact hK' _ _ h
theorem Sb(k:Nat)(hk:k<=100)(w:World):Calls prog 31 #[.int .i64 (k:Int)] w fun e w'=>∃p vo xs,e=.returned (.pointer (some ⟨p,0,none⟩))/\Pst (fun j=>w.heap.size<=j) w' p k 1 vo xs/\Below w.heap.size w w':=by
 go_enter func31,ntmps31
 go_wp2_with fail
 go_loopg[4] k (fun gk s4 wr=>∃(i:Nat) (vo:Value) (xs:List Value),i+gk=k/\s4=.int .i64 (i:Int)/\Pst (fun j=>w.heap.size<=j) wr w.heap.size i 1 vo xs/\Below w.heap.size w wr)
 case atStart=>
  refine⟨0,.slice none 0 0,[],by omega,rfl,⟨zc w _ rfl,Sl.nil _ _ _,fun x hx=>(by cases hx),qXv _,fun g hg=>(by cases hg),fun x hx=>(by cases hx),List.Pairwise.nil⟩,(qxl _ w).alloc (qXv _) _⟩
 case round=>
  obtain⟨i,vo,xs,hi,rfl,hP,hb⟩:=hrel;obtain⟨ao,cap,rfl⟩:=hP.o.rd.jd;have c0:=za hP.str 0;have f0:=zg hP.str 0;by_cases hlt:i<k
  .have k1:(i:Int)<(k:Int):=by omega
   obtain⟨w1,hw1⟩:=qqe (wr.alloc (.cells #[.int .i64 0] 3));obtain⟨x,hx⟩:∃x:Value,x=.slice (some ⟨wr.heap.size,0,none⟩) 1 1:=⟨_,rfl⟩
   have hx1:x.oneCell'=true:=by rw[hx];rfl
   obtain⟨w2,hw2⟩:=qqe (w1.alloc (.cells [x].toArray 87));have u1:=qqu hw1;have u2:=qqu hw2;have z1:w1.heap.size=wr.heap.size+1:=by rw[hw1];simp
   have z2:w2.heap.size=wr.heap.size+2:=by rw[hw2];simp[z1]
   have hP2:=hP.keep (u1.trans u2) (fun _ _ h=>h);have hel:PsEl w1 1 x:=by rw[hw1,hx];exact VU wr 0 (by decide) 1 (qXv _)
   have hrd:Rd w2 1 (.slice (some ⟨w1.heap.size,0,none⟩) 1 1) 1 [x]:=by rw[hw2];exact Rd.fresh w1 [x] 87 1 rfl (by unfold maxLen;omega)
   obtain⟨ii,hii,hz0,hz1,hz2⟩:=qZa AZ;obtain⟨v',w3,hrun,hs3,hu3,hbf⟩:=yl 175 175 ii (.slice none 0 0) 24 underlying175 hii hz0 hz1 hz2 rfl (by decide) hP2.o hrd (fun u hu=>by rw[qzy.1 hu];exact hx1) (by unfold maxLen;omega) (by omega);obtain⟨ao3,cap3,hv3⟩:=hs3.rd.jd;subst hv3;have sp:=zf hP.str;have g3:=(hu3.block w.heap.size (zf hP2.str) (fun h=>(hP.bo _ h).2 rfl)).trans hP2.str;have k3:=za g3 0;have f3:=zg g3 0;rw[z1]at hrun;rw[hw2,hw1,hx]at hrun;have H:=Y9 hP hb hs3 hu3 hbf hel (u1.trans u2) hP2 g3;have HX:=qqh hx;have H2:=qqh u2;clear hP hb hs3 hu3 hbf hel u1 u2 hP2 g3 hrd hii hz0 hz1 hz2 hw1 hw2 hx;go_wp2_with (first
    |(refine XA rfl _ _ 175 rfl _ _ rfl rfl _ _ hrun ?_)
    |fail)
   go_roundg (gk-1)
   case measure=>omega
   case rel=>
    obtain⟨hP,hb,hs3,hu3,hbf,hel,u12,hP2,g3⟩:=H.o;have hus:=zj w3 w.heap.size 0 (.slice ao3 (i+1) cap3);have hvo:∀g,(Value.slice ao3 (i+1) cap3).ownBlock=some g->((Value.slice ao i cap).ownBlock=some g/\w.heap.size<=g/\g≠w.heap.size/\g<wr.heap.size)\/w2.heap.size<=g:=fun g hg=>by
     rcases hbf with e|⟨g',e,hg'⟩
     .rw [e]at hg;exact .inl ⟨hg,(hP.bo g hg).1,(hP.bo g hg).2,hP.o.lt hg⟩
     .rw [hg]at e;cases e;exact .inr hg'
    have hxo:∀y∈xs,∀g,y.ownBlock=some g->g<wr.heap.size:=fun y hy g hg=>by
     obtain⟨L,-,-,-,hs⟩:=hP.els y hy;exact hs.lt hg
    have hxn:∀g,x.ownBlock=some g->g=wr.heap.size:=fun g hg=>by rw[HX.o]at hg;simp[Value.ownBlock]at hg;exact hg.symm
    refine⟨i+1,.slice ao3 (i+1) cap3,xs++[x],by omega,by go_num,⟨?_,hs3.keep hus (fun g hg e=>?_),fun y hy=>?_,qXv _,fun g hg=>?_,fun y hy g hg=>?_,?_⟩,?_⟩
    .have:=zi g3 0 (.slice ao3 (i+1) cap3);simpa using this
    .rcases hvo g hg with h|h<;>omega
    .rcases qzq.1 hy with hy|hy
     .exact ((hP2.els y hy).keep hu3 (fun g hg e=>(hP.bx y hy g hg).2.2 e)).keep hus (fun g hg e=>(hP.bx y hy g hg).2.1 e)
     .rw [qzy.1 hy];refine((hel.keep H2.o (fun _ _ h=>h)).keep hu3 (fun g hg e=>?_)).keep hus (fun g hg e=>?_)
      .have:=hxn g hg;have:=hP.o.lt e;omega
      .have:=hxn g hg;omega
    .rcases hvo g hg with h|h
     .exact ⟨h.2.1,h.2.2.1⟩
     .exact ⟨by show w.heap.size<=g;omega,by omega⟩
    .rcases qzq.1 hy with hy|hy
     .refine ⟨(hP.bx y hy g hg).1,(hP.bx y hy g hg).2.1,fun e=>?_⟩;rcases hvo g e with h|h
      .exact (hP.bx y hy g hg).2.2 h.1
      .have:=hxo y hy g hg;omega
     .rw [qzy.1 hy]at hg;have h1:=hxn g hg;refine⟨by show w.heap.size<=g;omega,by omega,fun e=>?_⟩;rcases hvo g e with h|h<;>omega
    .refine List.pairwise_append.2 ⟨hP.dis,List.pairwise_singleton _ _,fun y hy y' hy' g h1 h2=>?_⟩;rw[qzy.1 hy']at h2;have:=hxn g h2;have:=hxo y hy g h1;omega
    .exact zl (zl (zl hb u12 (qXv _) (fun k h=>h.elim)) hu3 (qXv _) (fun k h=>(hP.bo k h).1)) hus (qXv _) (fun k h=>by rw[h];exact qXv _)
  .have k1:¬((i:Int)<(k:Int)):=by omega
   obtain rfl:i=k:=by omega
   have H:=Y2 hP hb;clear hP hb c0 f0;go_wp2
   go_ret
   exact⟨w.heap.size,rfl,⟨_,xs,H.o.1⟩,H.o.2⟩
theorem Pst.look{B:Nat->Prop}{w:World}{p N M:Nat}{vo:Value}{xs:List Value}(h:Pst B w p N M vo xs){i:Nat}(hi:i<N):
  ∃g off cap b o m c x,vo=.slice (some ⟨g,off,none⟩) N cap/\w.cell? ⟨g,off+i,none⟩=some (.slice (some ⟨b,o,none⟩) (m+1) c)/\w.cell? ⟨b,o+m,none⟩=some (.int .i64 x)/\(m+1<=M/\0<=x/\x<=255)/\xs[i]?=some (.slice (some ⟨b,o,none⟩) (m+1) c):=by
 obtain⟨g,off,cap,cur,rfl,hg,-,hc⟩:=h.o.at (by omega);have hx:i<xs.length:=by rw[h.len];exact hi
 obtain⟨L,h1,h2,hb0,hs⟩:=h.els _ (qyz hx);obtain⟨b,o,c,cur2,e2,hb,-,hc2⟩:=hs.at (by omega);obtain⟨m,hm⟩:∃m,L.length=m+1:=⟨L.length-1,by omega⟩
 have hx2:xs[i]?=some (.slice (some ⟨b,o,none⟩) (m+1) c):=by rw[qyn hx,e2,hm]
 refine⟨g,off,cap,b,o,m,c,L[m]'(by omega),rfl,?_,?_,⟨by omega,hb0 _ (qyz _)⟩,hx2⟩
 .rw [za hg];exact hc i _ hx2
 .rw [za hb];refine hc2 m _ ?_;simp[ints,List.getElem?_eq_getElem (show m<L.length by omega)]
theorem rC{B:Nat->Prop}{w:World}{p N M:Nat}{vo:Value}{xs:List Value}(h:Pst B w p N M vo xs)(hM:M<=100000){i:Nat}(hi:i<N):Calls prog 88 #[.pointer (some ⟨p,0,none⟩),.int .i64 (i:Int)] w fun e w'=>∃x:Int,(0<=x/\x<=255)/\e=.returned (.int .i64 x)/\Upd (fun _=>False) w w':=by
 obtain⟨g,off,cap,b,o,m,c,x,rfl,c1,c2,⟨hm,hx⟩,-⟩:=h.look hi;have c0:=za h.str 0;have hNm:=h.o.le;simp only[qyv,qyl]at c0;have k1:(i:Int)<(N:Int):=by omega
 have i0:(0:Int)<=(i:Int):=by omega
 have hw:IntKind.i64.wrap (m:Int)=(m:Int):=qxv _ (by omega);clear h;go_enter func88,ntmps88
 go_wp2_with fail
 refine qZj (S:=fun W=>W.cell? ⟨p,0,none⟩=some (.slice (some ⟨g,off,none⟩) N cap)/\W.cell? ⟨g,off+i,none⟩=some (.slice (some ⟨b,o,none⟩) (m+1) c)/\W.cell? ⟨b,o+m,none⟩=some (.int .i64 x)) (by kernel_rfl) (⟨by rw[qYo];exact c0,by rw[qYo];exact c1,by rw[qYo];exact c2⟩) (fun hHeld=>?_);refine Wl.i [0,1,2,3,4,5,6,7,8,9,10,11,12,13,14] ?_;iterate 15 refine Wl.t hHeld ?_
 refine Wl.o ?_;refine qZf (i:=15) (v:=.int .i64 (m:Int)) rfl (by kernel_rfl) (by kernel_rfl) (by kernel_rfl) (fun _ _ _ h=>h) (Or.inl ⟨by rfl,?_⟩) hHeld ?_
 .intro W hSw;go_simp
 simp only[qzc,qyw,qyx,Act.put,qXi,qXl,qXk];have k2:(m:Int)<(m:Int)+1:=by omega
 have m0:(0:Int)<=(m:Int):=by omega
 refine Wl.i [16,17] ?_;iterate 2 refine Wl.t hHeld ?_
 refine Wl.o ?_;refine Wl.r 18 (fun K hK=>?_);go_simp
 refine hK.o _ _ hHeld (fun _=>?_);clear hK K;refine Wl.d ?_;go_wp2
 go_ret
 exact⟨x,hx,rfl,(uur _ w).drew⟩
theorem Pst.apart{B:Nat->Prop}{w:World}{p N M:Nat}{vo:Value}{xs:List Value}(h:Pst B w p N M vo xs){i j:Nat}(hi:i<xs.length)(hj:j<xs.length)(hne:i≠j):Dis xs[i] xs[j]:=by
 have hd:=qXe.1 h.dis;rcases Nat.lt_or_gt_of_ne hne with hlt|hlt
 .exact hd i j hi hj hlt
 .exact (hd j i hj hi hlt).symm
theorem Pst.put{B:Nat->Prop}{w w3:World}{p N M M' g off cap i:Nat}{xs:List Value}{v':Value}(h:Pst B w p N M (.slice (some ⟨g,off,none⟩) N cap) xs)(hi:i<xs.length)(hMM:M<=M')(hu:Upd (ownS xs[i]) w w3)(hel:PsEl w3 M' v')(hbf:blockFrom w xs[i] v'):
  Pst (fun j=>B j\/w.heap.size<=j) (w3.setCell ⟨g,off+i,none⟩ v') p N M' (.slice (some ⟨g,off,none⟩) N cap) (xs.set i v')/\Upd (fun j=>B j\/w.heap.size<=j) w (w3.setCell ⟨g,off+i,none⟩ v'):=by
 obtain⟨hl,⟨e,-⟩|⟨g',off',cap',cur,e,hg,hnc,hcm,hs,hc⟩⟩:=h.o
 .cases e
 cases e;have hiN:i<N:=by have:=h.len;omega
 have hxi:=qyz hi;have hus:=zj w3 g (off+i) v';have hgo:B g/\g≠p:=h.bo g rfl;have hgx:∀j (hj:j<xs.length),∀b,xs[j].ownBlock=some b->B b/\b≠p/\b≠g/\b<w.heap.size:=fun j hj b hb=>by
  obtain⟨h1,h2,h3⟩:=h.bx _ (qyz hj) b hb;obtain⟨L,-,-,-,hs⟩:=h.els _ (qyz hj);exact⟨h1,h2,fun e=>h3 (by rw[e];rfl),hs.lt hb⟩
 have hgl:=zf hg;have hpl:=zf h.str;have hv':∀b,v'.ownBlock=some b->(xs[i].ownBlock=some b/\B b/\b≠p/\b≠g)\/w.heap.size<=b:=fun b hb=>by
  rcases hbf with e|⟨g',e,hg'⟩
  .rw [e]at hb;obtain⟨h1,h2,h3,-⟩:=hgx i hi b hb;exact .inl ⟨hb,h1,h2,h3⟩
  .rw [hb]at e;cases e;exact .inr hg'
 have hg3:=(hu.block g hgl (fun e=>(hgx i hi g e).2.2.1 rfl)).trans hg;have h4:=zi hg3 (off+i) v';have hset:∀j (hj:j<(xs.set i v').length),(j=i/\(xs.set i v')[j]=v')\/(j≠i/\∃hj':j<xs.length,(xs.set i v')[j]=xs[j]):=fun j hj=>by
  have hj':j<xs.length:=by simpa using hj
  by_cases hji:j=i
  .subst hji;exact .inl ⟨rfl,by simp⟩
  .exact .inr ⟨hji,hj',by rw[qzb,if_neg (fun e=>hji e.symm)]⟩
 refine⟨⟨?_,⟨by simpa using hl,.inr ⟨g,off,cap,cur.setIfInBounds (off+i) v',rfl,h4,hnc,hcm,by simpa using hs,fun j u hj=>?_⟩⟩,fun y hy=>?_,.inl h.bp,fun b hb=>?_,fun y hy b hb=>?_,?_⟩,?_⟩
 .exact (hus.block p (qXy hpl hu.size) (fun e=>hgo.2 e.symm)).trans ((hu.block p hpl (fun e=>(hgx i hi p e).2.1 rfl)).trans h.str)
 .rw [qyt]at hj;by_cases hji:i=j
  .subst hji;rw[if_pos rfl,if_pos hi]at hj;rw[Array.getElem?_setIfInBounds_self,if_pos (by omega)];exact hj
  .rw [if_neg hji]at hj;rw[qxg (by omega)];exact hc j u hj
 .obtain ⟨j,hj,rfl⟩:=qza hy;rcases hset j hj with⟨hji,e⟩|⟨hji,hj',e⟩
  .rw [e];refine hel.keep hus (fun b hb e=>?_);subst e;rcases hv' b hb with h1|h1
   .exact h1.2.2.2 rfl
   .omega
  .rw [e];obtain⟨L,l1,l2,l0,hsl⟩:=h.els _ (qyz hj');have hk:PsEl w M' xs[j]:=⟨L,l1,qXx l2 hMM,l0,hsl⟩
   exact(hk.keep hu (fun b hb e=>h.apart hj' hi hji b hb e)).keep hus (fun b hb e=>(hgx j hj' b hb).2.2.1 e)
 .cases hb;exact⟨.inl hgo.1,hgo.2⟩
 .obtain ⟨j,hj,rfl⟩:=qza hy;rcases hset j hj with⟨hji,e⟩|⟨hji,hj',e⟩
  .rw [e]at hb;rcases hv' b hb with h1|h1
   .exact ⟨.inl h1.2.1,h1.2.2.1,fun e=>h1.2.2.2 (by cases e;rfl)⟩
   .exact ⟨.inr h1,by omega,fun e=>by have e2:some g=some b:=e;cases e2;omega⟩
  .rw [e]at hb;obtain⟨h1,h2,h3,-⟩:=hgx j hj' b hb;exact⟨.inl h1,h2,fun e=>h3 (by cases e;rfl)⟩
 .refine qXe.2 fun a c ha hc hac b h1 h2=>?_;rcases hset a ha with⟨ha1,e1⟩|⟨ha1,ha',e1⟩<;>rcases hset c hc with⟨hc1,e2⟩|⟨hc1,hc',e2⟩
  .omega
  .rw [e1]at h1;rw[e2]at h2;rcases hv' b h1 with h3|h3
   .exact h.apart hi hc' (fun e=>hc1 e.symm) b h3.1 h2
   .have:=(hgx c hc' b h2).2.2.2;omega
  .rw [e1]at h1;rw[e2]at h2;rcases hv' b h2 with h3|h3
   .exact h.apart hi ha' (fun e=>ha1 e.symm) b h3.1 h1
   .have:=(hgx a ha' b h1).2.2.2;omega
  .rw [e1]at h1;rw[e2]at h2;exact h.apart ha' hc' (by omega) b h1 h2
 .refine (hu.mono (fun j hj e=> .inl (hgx i hi j e).1)).trans (hus.mono (fun j hj e=>?_));subst e;exact .inl hgo.1
def Sc(B:Nat->Prop)(w:World)(p N M:Nat)(v:Value)(e:Ending)(w':World):Prop:=
 e=.returned v/\∃vo xs,Pst (fun j=>B j\/w.heap.size<=j) w' p N M vo xs/\Upd (fun j=>B j\/w.heap.size<=j) w w'
theorem Pst.wide{B B':Nat->Prop}{w:World}{p N M:Nat}{vo:Value}{xs:List Value}(h:Pst B w p N M vo xs)(hB:∀j,B j->B' j):Pst B' w p N M vo xs:=
 {h with bp:=hB _ h.bp,bo:=fun g hg=>⟨hB g (h.bo g hg).1,(h.bo g hg).2⟩,bx:=fun x hx g hg=>⟨hB g (h.bx x hx g hg).1,(h.bx x hx g hg).2⟩}
theorem rD{B:Nat->Prop}{w:World}{p N M:Nat}{vo:Value}{xs:List Value}(h:Pst B w p N M vo xs)(hM:M<=100000){i:Nat}(hi:i<N)(f:Int)(hf:0<=f/\f<=255):
  Calls prog 92 #[.pointer (some ⟨p,0,none⟩),.int .i64 (i:Int),.int .i64 f] w (Sc B w p N (M+1) (.tuple #[])):=by
 obtain⟨g,off,cap,b,o,m,c,x,rfl,c1,c2,⟨hm,-⟩,hx⟩:=h.look hi;have c0:=za h.str 0;have hNm:=h.o.le;simp only[qyv,qyl]at c0;have k1:(i:Int)<(N:Int):=by omega
 have i0:(0:Int)<=(i:Int):=by omega
 have hix:i<xs.length:=by rw[h.len];exact hi
 obtain⟨w1,hw1⟩:=qqe (w.drew.alloc (.cells [Value.int .i64 f].toArray 3));have u1:Upd (fun _=>False) w w1:=by rw[hw1];exact((uur _ w).drew).alloc _
 have h1:=h.keep u1 (fun _ _ h=>h);obtain⟨L,l1,l2,l0,hs⟩:=h1.els _ (qyz hix);have hxe:xs[i]=.slice (some ⟨b,o,none⟩) (m+1) c:=by rw[qyn hix]at hx;exact qYj hx
 have hrd:Rd w1 1 (.slice (some ⟨w.drew.heap.size,0,none⟩) 1 1) 1 [Value.int .i64 f]:=by rw[hw1];exact Rd.fresh w.drew [Value.int .i64 f] 3 1 rfl (by unfold maxLen;omega)
 obtain⟨ii,hii,hz0,hz1,hz2⟩:=qZa Sa;obtain⟨v',w3,hrun,hs3,hu3,hbf⟩:=yl 87 87 ii (.int .i64 0) 8 underlying87 hii hz0 hz1 hz2 rfl (by decide) hs hrd (fun u hu=>by rw[qzy.1 hu];rfl) (by unfold maxLen;omega) (by omega);have hel:PsEl w3 (M+1) v':=by
  refine⟨L++[f],by simp,by simp;omega,fun y hy=>by rcases qzq.1 hy with hy|hy;exact l0 y hy;rw[qzy.1 hy];exact hf,?_⟩;have e:(L++[f]).length=L.length+1:=by simp
  rw[e,show ints (L++[f])=ints L++[Value.int .i64 f] by simp[ints]];exact hs3
 obtain⟨hP,hU⟩:=h1.put hix (qXw M) hu3 hel hbf;have hLm:L.length=m+1:=by obtain⟨ao,cc,e⟩:=hs.rd.jd;rw[hxe]at e;injection e with _ e2 _;exact e2.symm
 obtain⟨ao3,cap3,hv3⟩:=hs3.rd.jd;have hpn:p≠g:=fun e=>(h.bo g rfl).2 e.symm;rw[hxe]at hrun hu3;have d0:w1.cell? ⟨p,0,none⟩=some (.slice (some ⟨g,off,none⟩) N cap):=u1.ja c0 (fun h=>h);have d1:w1.cell? ⟨g,off+i,none⟩=some (.slice (some ⟨b,o,none⟩) (m+1) c):=u1.ja c1 (fun h=>h);have e0:w3.cell? ⟨p,0,none⟩=some (.slice (some ⟨g,off,none⟩) N cap):=hu3.ja d0 (fun e=>(h.bx _ (qyz hix) p (by rw[hxe];exact e)).2.1 rfl);have e1:w3.cell? ⟨g,off+i,none⟩=some (.slice (some ⟨b,o,none⟩) (m+1) c):=hu3.ja d1 (fun e=>(h.bx _ (qyz hix) g (by rw[hxe];exact e)).2.2 rfl);have z1:w.drew.heap.size=w.heap.size:=rfl;have HR:=Y4 hP hU u1 hw1;have f0:(w3.setCell ⟨g,off+i,none⟩ v').cell? ⟨p,0,none⟩=some (.slice (some ⟨g,off,none⟩) N cap):=zt e0 (fun e=>hpn e.symm);have fz:=(show w3.frozen? ⟨g,off+i,none⟩=false by
  obtain⟨hl,⟨e,-⟩|⟨g',off',cap',cur,e,hg,-⟩⟩:=h1.o
  .cases e
  .cases e;exact zg ((hu3.block g (zf hg) (fun e=>(h.bx _ (qyz hix) g (by rw[hxe];exact e)).2.2 rfl)).trans hg) _)
 subst hv3;rw[hLm]at f0 HR hrun;clear hP hU u1 h1 hs hs3 hu3 hbf hel hrd hii hz0 hz1 hz2 h hx hxe l1 l2 hm hpn hLm hw1;go_enter func92,ntmps92
 refine qZj (S:=fun W=>W.cell? ⟨p,0,none⟩=some (.slice (some ⟨g,off,none⟩) N cap)) (by kernel_rfl) (by rw[qYo];exact c0) (fun hHeld=>?_);refine Wl.i [0,1,2,3,4,5,6,7,8,9,10,12] ?_;iterate 12 refine Wl.t hHeld ?_
 refine Wl.o ?_;have c1d:w.drew.cell? ⟨g,off+i,none⟩=some (.slice (some ⟨b,o,none⟩) (m+1) c):=by rw[qYo];exact c1
 refine qZe (rs:=[11,13]) (by kernel_rfl) (by simp) ?_;refine qxb rfl (fun K hK=>?_) (qxb rfl (fun K hK=>?_) qxc)
 .go_simp
  refine hK.o _ _ hHeld (fun _=>?_);clear hK K;refine Wl.r 13 (fun K hK=>?_);go_simp
  show K _ (w.drew.alloc (.cells [Value.int .i64 f].toArray 3));rw[<-HR.o.2.2.2];refine hK.o _ _ d0 (fun _=>?_);clear hK K;refine Wl.r 14 (fun K hK=>?_);refine zI rfl _ _ _ rfl rfl rfl hrun ?_;refine hK.o _ _ e0 (fun _=>?_);clear hK K;refine Wl.i [15] (Wl.t e0 (Wl.o ?_));refine Wl.r 16 (fun K hK=>?_);go_simp
  refine hK.o _ _ f0 (fun _=>?_);clear hK K;refine Wl.d ?_;refine qYw (qZc rfl _ _ _) rfl ?_;obtain⟨hP,hU,u1,-⟩:=HR.o;have hw:∀j,(B j\/w1.heap.size<=j)->(B j\/w.heap.size<=j):=fun j hj=>hj.imp (fun h=>h) (fun h=>qXx u1.size h);exact⟨rfl,_,_,hP.wide hw,(u1.mono (fun _ _ h=>h.elim)).trans (hU.mono (fun j _ h=>hw j h))⟩
 .go_simp
  show K _ (w.drew.alloc (.cells [Value.int .i64 f].toArray 3));rw[<-HR.o.2.2.2];refine hK.o _ _ d0 (fun _=>?_);clear hK K;refine Wl.r 11 (fun K hK=>?_);go_simp
  refine hK.o _ _ d0 (fun _=>?_);clear hK K;refine Wl.r 14 (fun K hK=>?_);refine zI rfl _ _ _ rfl rfl rfl hrun ?_;refine hK.o _ _ e0 (fun _=>?_);clear hK K;refine Wl.i [15] (Wl.t e0 (Wl.o ?_));refine Wl.r 16 (fun K hK=>?_);go_simp
  refine hK.o _ _ f0 (fun _=>?_);clear hK K;refine Wl.d ?_;refine qYw (qZc rfl _ _ _) rfl ?_;obtain⟨hP,hU,u1,-⟩:=HR.o;have hw:∀j,(B j\/w1.heap.size<=j)->(B j\/w.heap.size<=j):=fun j hj=>hj.imp (fun h=>h) (fun h=>qXx u1.size h);exact⟨rfl,_,_,hP.wide hw,(u1.mono (fun _ _ h=>h.elim)).trans (hU.mono (fun j _ h=>hw j h))⟩
theorem Pst.app{B:Nat->Prop}{w:World}{p N M:Nat}{vo:Value}{xs:List Value}(h:Pst B w p N M vo xs)(hM:M<=100000){i:Nat}(hi:i<N)(news:List Int)(hn:news.length<=100)(hb:∀x∈news,0<=x/\x<=255):
  ∃g off cap b o m c ao3 cap3 w3,vo=.slice (some ⟨g,off,none⟩) N cap/\w.cell? ⟨p,0,none⟩=some (.slice (some ⟨g,off,none⟩) N cap)/\w.cell? ⟨g,off+i,none⟩=some (.slice (some ⟨b,o,none⟩) (m+1) c)/\
   (Builtin.append_ #[87,87] 87 #[.slice (some ⟨b,o,none⟩) (m+1) c,.slice (some ⟨w.drew.heap.size,0,none⟩) news.length news.length]).run prog (w.drew.alloc (.cells (ints news).toArray 3))=.ok (.slice ao3 (m+1+news.length) cap3) w3/\
   w3.cell? ⟨p,0,none⟩=some (.slice (some ⟨g,off,none⟩) N cap)/\w3.cell? ⟨g,off+i,none⟩=some (.slice (some ⟨b,o,none⟩) (m+1) c)/\w3.frozen? ⟨g,off+i,none⟩=false/\p≠g/\
   ∃xs',Pst (fun j=>B j\/w.heap.size<=j) (w3.setCell ⟨g,off+i,none⟩ (.slice ao3 (m+1+news.length) cap3)) p N (M+news.length) vo xs'/\Upd (fun j=>B j\/w.heap.size<=j) w (w3.setCell ⟨g,off+i,none⟩ (.slice ao3 (m+1+news.length) cap3)):=by
 obtain⟨g,off,cap,b,o,m,c,x,rfl,c1,c2,⟨hm,-⟩,hx⟩:=h.look hi;have c0:=za h.str 0;simp only[qyv,qyl]at c0;have hix:i<xs.length:=by rw[h.len];exact hi
 obtain⟨w1,hw1⟩:=qqe (w.drew.alloc (.cells (ints news).toArray 3));have u1:Upd (fun _=>False) w w1:=by rw[hw1];exact((uur _ w).drew).alloc _
 have h1:=h.keep u1 (fun _ _ h=>h);obtain⟨L,l1,l2,l0,hs⟩:=h1.els _ (qyz hix);have hxe:xs[i]=.slice (some ⟨b,o,none⟩) (m+1) c:=by rw[qyn hix]at hx;exact qYj hx
 have hrd:Rd w1 1 (.slice (some ⟨w.drew.heap.size,0,none⟩) news.length news.length) news.length (ints news):=by rw[hw1];exact Rd.fresh w.drew (ints news) 3 news.length (by simp[ints]) (by unfold maxLen;omega)
 obtain⟨ii,hii,hz0,hz1,hz2⟩:=qZa Sa;obtain⟨v',w3,hrun,hs3,hu3,hbf⟩:=yl 87 87 ii (.int .i64 0) 8 underlying87 hii hz0 hz1 hz2 rfl (by decide) hs hrd (fun u hu=>by simp only[ints,qzv]at hu;obtain⟨a,-,rfl⟩:=hu;rfl) (by unfold maxLen;omega) (by omega);have hel:PsEl w3 (M+news.length) v':=by
  refine⟨L++news,by simp;omega,by simp;omega,fun y hy=>by rcases qzq.1 hy with hy|hy;exact l0 y hy;exact hb y hy,?_⟩;have e:(L++news).length=L.length+news.length:=by simp
  rw[e,show ints (L++news)=ints L++ints news by simp[ints]];exact hs3
 obtain⟨hP,hU⟩:=h1.put hix (qXu M news.length) hu3 hel hbf;have hLm:L.length=m+1:=by obtain⟨ao,cc,e⟩:=hs.rd.jd;rw[hxe]at e;injection e with _ e2 _;exact e2.symm
 obtain⟨ao3,cap3,hv3⟩:=hs3.rd.jd;subst hv3;rw[hLm]at hrun hP hU;rw[hxe]at hrun hu3;have hw:∀j,(B j\/w1.heap.size<=j)->(B j\/w.heap.size<=j):=fun j hj=>hj.imp (fun h=>h) (fun h=>qXx u1.size h);refine⟨g,off,cap,b,o,m,c,ao3,cap3,w3,rfl,c0,c1,by rw[<-hw1];exact hrun,?_,?_,?_,fun e=>(h.bo g rfl).2 e.symm,_,hP.wide hw,(u1.mono (fun _ _ h=>h.elim)).trans (hU.mono (fun j _ h=>hw j h))⟩
 .exact hu3.ja (u1.ja c0 (fun h=>h)) (fun e=>(h.bx _ (qyz hix) p (by rw[hxe];exact e)).2.1 rfl)
 .exact hu3.ja (u1.ja c1 (fun h=>h)) (fun e=>(h.bx _ (qyz hix) g (by rw[hxe];exact e)).2.2 rfl)
 .obtain ⟨hl,⟨e,-⟩|⟨g',off',cap',cur,e,hg,-⟩⟩:=h1.o
  .cases e
  .cases e;exact zg ((hu3.block g (zf hg) (fun e=>(h.bx _ (qyz hix) g (by rw[hxe];exact e)).2.2 rfl)).trans hg) _
theorem rE{B:Nat->Prop}{w:World}{p N M:Nat}{vo:Value}{xs:List Value}(h:Pst B w p N M vo xs)(hM:M<=100000){i:Nat}(hi:i<N)(f:Int)(hf:0<=f/\f<=255):
  Calls prog 93 #[.pointer (some ⟨p,0,none⟩),.int .i64 (i:Int),.int .i64 f] w (Sc B w p N (M+2) (.tuple #[])):=by
 have HN:=Y2 (rC h hM hi) h;have hNm:=h.o.le;have k1:(i:Int)<(N:Int):=by omega
 have i0:(0:Int)<=(i:Int):=by omega
 clear h;go_enter func93,ntmps93
 go_wp2_with fail
 refine HN.o.1.mono ?_;rintro e w0 ⟨y,hy,rfl,hu0⟩;obtain⟨g,off,cap,b,o,m,c,ao3,cap3,w3,rfl,c0,c1,hrun,e0,e1,fz,hpg,xs',hP,hU⟩:=(HN.o.2.keep hu0 (fun _ _ h=>h)).app hM hi [f,y] (by simp) (fun x hx=>by simp only[qzr,qXd,qZb]at hx;rcases hx with rfl|rfl;exact hf;exact hy);obtain⟨w1,hw1⟩:=qqe (w0.drew.alloc (.cells [Value.int .i64 f,Value.int .i64 y].toArray 3));have hrun':(Builtin.append_ #[87,87] 87 #[.slice (some ⟨b,o,none⟩) (m+1) c,.slice (some ⟨w0.drew.heap.size,0,none⟩) 2 2]).run prog w1=.ok (.slice ao3 (m+1+2) cap3) w3:=by rw[hw1];exact hrun
 have d0:w1.cell? ⟨p,0,none⟩=some (.slice (some ⟨g,off,none⟩) N cap):=by rw[hw1];exact zm (by rw[qYo];exact c0) _
 have d1:w1.cell? ⟨g,off+i,none⟩=some (.slice (some ⟨b,o,none⟩) (m+1) c):=by rw[hw1];exact zm (by rw[qYo];exact c1) _
 have f0:(w3.setCell ⟨g,off+i,none⟩ (.slice ao3 (m+1+2) cap3)).cell? ⟨p,0,none⟩=some (.slice (some ⟨g,off,none⟩) N cap):=zt e0 (fun e=>hpg e.symm);have c1d:w0.drew.cell? ⟨g,off+i,none⟩=some (.slice (some ⟨b,o,none⟩) (m+1) c):=by rw[qYo];exact c1
 have HR:=Y4 hP hU hu0 hw1;clear hP hU hu0 hw1 hrun hpg HN;go_wp2_with fail
 refine qZj (S:=fun W=>W.cell? ⟨p,0,none⟩=some (.slice (some ⟨g,off,none⟩) N cap)) (by kernel_rfl) (by rw[qYo];exact c0) (fun hHeld=>?_);refine Wl.i [0,1,2,3,4,5,6,7,8,9,10,12,13] ?_;iterate 13 refine Wl.t hHeld ?_
 refine Wl.o ?_;refine qZe (rs:=[11,14]) (by kernel_rfl) (by simp) ?_;refine qxb rfl (fun K hK=>?_) (qxb rfl (fun K hK=>?_) qxc)
 .go_simp
  refine hK.o _ _ hHeld (fun _=>?_);clear hK K;refine Wl.r 14 (fun K hK=>?_);go_simp
  show K _ (w0.drew.alloc (.cells [Value.int .i64 f,Value.int .i64 y].toArray 3));rw[<-HR.o.2.2.2];refine hK.o _ _ d0 (fun _=>?_);clear hK K;refine Wl.r 15 (fun K hK=>?_);refine zI rfl _ _ _ rfl rfl rfl hrun' ?_;refine hK.o _ _ e0 (fun _=>?_);clear hK K;refine Wl.i [16] (Wl.t e0 (Wl.o ?_));refine Wl.r 17 (fun K hK=>?_);go_simp
  refine hK.o _ _ f0 (fun _=>?_);clear hK K;refine Wl.d ?_;refine qYw (qZc rfl _ _ _) rfl ?_;obtain⟨hP,hU,u0,-⟩:=HR.o;have hw:∀j,(B j\/w0.heap.size<=j)->(B j\/w.heap.size<=j):=fun j hj=>hj.imp (fun h=>h) (fun h=>qXx u0.size h);exact⟨rfl,_,_,hP.wide hw,(u0.mono (fun _ _ h=>h.elim)).trans (hU.mono (fun j _ h=>hw j h))⟩
 .go_simp
  show K _ (w0.drew.alloc (.cells [Value.int .i64 f,Value.int .i64 y].toArray 3));rw[<-HR.o.2.2.2];refine hK.o _ _ d0 (fun _=>?_);clear hK K;refine Wl.r 11 (fun K hK=>?_);go_simp
  refine hK.o _ _ d0 (fun _=>?_);clear hK K;refine Wl.r 15 (fun K hK=>?_);refine zI rfl _ _ _ rfl rfl rfl hrun' ?_;refine hK.o _ _ e0 (fun _=>?_);clear hK K;refine Wl.i [16] (Wl.t e0 (Wl.o ?_));refine Wl.r 17 (fun K hK=>?_);go_simp
  refine hK.o _ _ f0 (fun _=>?_);clear hK K;refine Wl.d ?_;refine qYw (qZc rfl _ _ _) rfl ?_;obtain⟨hP,hU,u0,-⟩:=HR.o;have hw:∀j,(B j\/w0.heap.size<=j)->(B j\/w.heap.size<=j):=fun j hj=>hj.imp (fun h=>h) (fun h=>qXx u0.size h);exact⟨rfl,_,_,hP.wide hw,(u0.mono (fun _ _ h=>h.elim)).trans (hU.mono (fun j _ h=>hw j h))⟩
theorem tN{B:Nat->Prop}{w:World}{p N M:Nat}{vo:Value}{xs:List Value}(h:Pst B w p N M vo xs)(hM:M<=100000)(hM1:1<=M):
  Calls prog 94 #[.pointer (some ⟨p,0,none⟩)] w (Sc B w p N M (.tuple #[])):=by
 have HN:=qqh h;have hNm:=h.o.le;obtain⟨ao,cap,rfl⟩:=h.o.rd.jd;clear h;go_enter func94,ntmps94
 go_wp2_with fail
 go_loopg[2] N (fun gk s2 wr=>∃(i:Nat) (xs':List Value),i+gk=N/\s2=.int .i64 (i:Int)/\Pst (fun j=>B j\/w.heap.size<=j) wr p N M (.slice ao N cap) xs'/\Upd (fun j=>B j\/w.heap.size<=j) w wr)
 case atStart=>exact⟨0,xs,by omega,rfl,HN.o.wide (fun j h=> .inl h),uur _ _⟩
 case round=>
  obtain⟨i,xs',hi,rfl,hP,hU⟩:=hrel;have c0:=za hP.str 0;simp only[qyv,qyl]at c0;by_cases hlt:i<N
  .have k1:(i:Int)<(N:Int):=by omega
   have i0:(0:Int)<=(i:Int):=by omega
   obtain⟨g,off,cap',b,o,m,c,x,e,c1,-,-,hx⟩:=hP.look hlt;cases e;have HP:=Y2 hP hU;have hix:i<xs'.length:=by rw[hP.len];exact hlt
   clear hP hU;go_wp2_with fail
   refine qZj (S:=fun W=>W.cell? ⟨p,0,none⟩=some (.slice (some ⟨g,off,none⟩) N cap)) (by kernel_rfl) (by rw[qYo];exact c0) (fun hHeld=>?_);refine Wl.i [0,1,2,3,4,5,6] ?_;iterate 7 refine Wl.t hHeld ?_
   refine Wl.o ?_;refine Wl.r 7 (fun K hK=>?_);go_simp
   have ud:Upd (fun _=>False) wr wr.drew:=(uur _ wr).drew;refine(rC (HP.o.1.keep ud (fun _ _ h=>h)) hM hlt).mono ?_;rintro e w0 ⟨y,hy,rfl,hu0⟩;obtain⟨w1,hw1⟩:=qqe (w0.alloc (.cells #[.int .i64 y] 3));have u1:=qqu hw1;have U1:=(ud.trans hu0).trans u1;have z1:wr.heap.size<=w0.heap.size:=(ud.trans hu0).size;have d0:=hu0.ja hHeld (fun h=>h);have d1:=u1.ja d0 (fun h=>h);have hP1:=HP.o.1.keep (ud.trans hu0) (fun _ _ h=>h);have hel:PsEl w1 M (.slice (some ⟨w0.heap.size,0,none⟩) 1 1):=by rw[hw1];exact VU w0 y hy M hM1
   obtain⟨hP2,hU2⟩:=hP1.put hix (qXv M) (u1.mono (fun _ _ h=>h.elim)) hel (.inr ⟨w0.heap.size,rfl,qXv _⟩);have hpg:p≠g:=fun e=>(hP1.bo g rfl).2 e.symm;have f0:(w1.setCell ⟨g,off+i,none⟩ (.slice (some ⟨w0.heap.size,0,none⟩) 1 1)).cell? ⟨p,0,none⟩=some (.slice (some ⟨g,off,none⟩) N cap):=zt d1 (fun e=>hpg e.symm);have c1':w1.cell? ⟨g,off+i,none⟩=some (.slice (some ⟨b,o,none⟩) (m+1) c):=U1.ja c1 (fun h=>h);have fz:w1.frozen? ⟨g,off+i,none⟩=false:=by
    obtain⟨hl,⟨e,-⟩|⟨g',off',cap',cur,e,hg,-⟩⟩:=(hP1.keep u1 (fun _ _ h=>h)).o
    .cases e
    .cases e;exact zg hg _
   have H2:=Y4 hP2 hU2 (ud.trans hu0) hw1;refine hK.o _ _ d0 (fun _=>?_);clear hK K hHeld ud hu0 u1 U1 hP1 hel hP2 hU2 hpg hw1;refine Wl.r 8 (fun K hK=>?_);go_simp
   show K _ (w0.alloc (.cells #[.int .i64 y] 3));rw[<-H2.o.2.2.2];refine hK.o _ _ d1 (fun _=>?_);clear hK K;refine Wl.i [9] (Wl.t d1 (Wl.o ?_));refine Wl.r 10 (fun K hK=>?_);go_simp
   refine hK.o _ _ f0 (fun _=>?_);clear hK K;refine Wl.d ?_;clear c0 c1 d0 d1 c1' fz f0;go_wp2_with fail
   go_roundg (gk-1)
   case measure=>omega
   case rel=>
    obtain⟨hP2,hU2,u02,-⟩:=H2.o;have hz:=HP.o.2.size;have ib:(i:Int)<9223372036854775807:=by unfold maxLen at hNm;omega
    have hw:∀j,((B j\/w.heap.size<=j)\/w0.heap.size<=j)->(B j\/w.heap.size<=j):=fun j hj=>hj.elim (fun h=>h) (fun h=> .inr (by omega));have hwr:wrap64 ((i:Int)+1)=(i:Int)+1:=IntWalk.wrap64_in _ (by omega);exact⟨i+1,_,by omega,by rw[hwr];simp,hP2.wide hw,(HP.o.2.trans (u02.mono (fun _ _ h=>h.elim))).trans (hU2.mono (fun j _ h=>hw j h))⟩
  .have k1:¬((i:Int)<(N:Int)):=by omega
   have HE:=Y2 hP hU;clear hP hU;go_wp2_with fail
   refine qYw (qZc rfl _ _ _) rfl ?_;exact⟨rfl,_,_,HE.o.1,HE.o.2⟩
theorem tO{w:World}{v:Value}{n:Nat}{xs:List Value}(h:Rd w 64 v n xs)(hn:n<=65536)(hone:∀u∈xs,u.oneCell'=true):
  Calls prog 111 #[v] w fun e w'=>∃v',e=.returned v'/\Sl w' 54 64 v' n xs/\From w.heap.size v'/\Below w.heap.size w w':=by
 obtain⟨i0,hi,hz0,hz1,hz2⟩:=qZa XO;obtain⟨z0,hz,hzs⟩:∃z,i0.zero=some z/\z.cells.size=64:=⟨_,hz0,by simp[bkV,Value.cells,zB,bkC]⟩
 clear hz0;have H:=qqh h;obtain⟨hl,hm,ao,c,rfl,h0,-⟩:=h;have q34:=fun(w:World) (a:Option Addr) (n c:Nat)=>Lib.run_eql_slice_nil (P:=prog) w 41 54 a n c 0 0 underlying41;cases ao with
 |none=>
  obtain rfl:=h0 rfl;have hx:Hid (xs=[]):=qyd (by simpa using hl);clear hl h0 hm;go_enter func111,ntmps111
  go_wp2
  go_ret
  rw[hx.out];exact⟨_,rfl,Sl.nil _ _ _,From.nil _ _ _,qxl _ _⟩
 |some a=>
  clear h0 hl;have hs0:Sl (w.alloc (.cells #[] 54)) 54 64 (.slice (some ⟨w.heap.size,0,none⟩) 0 0) 0 []:=
   ⟨by simp,.inr ⟨w.heap.size,0,0,#[],rfl,zc _ _ rfl,by simp,by simp[maxLen],by simp,by simp⟩⟩
  have HR:Hid (Rd (w.alloc (.cells #[] 54)) 64 (.slice (some a) n c) n xs):=H.o.keep ((uur (fun _=>False) _).alloc _) (fun _ _ h=>h);go_enter func111,ntmps111
  go_wp2_with (at_builtin;refine zD rfl _ _ 41 rfl i0 z0 64 underlying41 hi hz hz1 hz2 hzs (by decide) rfl hs0 _ n xs rfl HR.o hone (by unfold maxLen;omega) (by omega) ?_)
  intro v' w2 hs2 hu2 hb2;go_wp2
  go_ret
  refine⟨_,rfl,by simpa using hs2,?_,?_⟩
  .exact hb2.ge (by simp) (by intro g hg;simp[Value.ownBlock]at hg;omega)
  .refine zl ((qxl _ _).alloc (qXv _) _) hu2 (qXv _) (by intro k hk;simp[ownS,Value.ownBlock]at hk;omega)
theorem XB{w:World}{v:Value}{n:Nat}{xs:List Value}(h:Rd w 65 v n xs)(hn:n<=65536)(hone:∀u∈xs,u.oneCell'=true):
  Calls prog 112 #[v] w fun e w'=>∃v',e=.returned v'/\Sl w' 131 65 v' n xs/\From w.heap.size v'/\Below w.heap.size w w':=by
 obtain⟨i0,hi,hzz⟩:=qYi.1 TO;simp only[qYk]at hzz;obtain⟨hz0,hz1,hz2⟩:=hzz;obtain⟨z0,hz,hzs⟩:=qYi.1 hz0;clear hz0;have H:=qqh h;obtain⟨hl,hm,ao,c,rfl,h0,-⟩:=h;have q34:=fun(w:World) (a:Option Addr) (n c:Nat)=>Lib.run_eql_slice_nil (P:=prog) w 121 131 a n c 0 0 underlying121;cases ao with
 |none=>
  obtain rfl:=h0 rfl;have hx:Hid (xs=[]):=qyd (by simpa using hl);clear hl h0 hm;go_enter func112,ntmps112
  go_wp2
  go_ret
  rw[hx.out];exact⟨_,rfl,Sl.nil _ _ _,From.nil _ _ _,qxl _ _⟩
 |some a=>
  clear h0 hl;have hs0:Sl (w.alloc (.cells #[] 131)) 131 65 (.slice (some ⟨w.heap.size,0,none⟩) 0 0) 0 []:=
   ⟨by simp,.inr ⟨w.heap.size,0,0,#[],rfl,zc _ _ rfl,by simp,by simp[maxLen],by simp,by simp⟩⟩
  have HR:Hid (Rd (w.alloc (.cells #[] 131)) 65 (.slice (some a) n c) n xs):=H.o.keep ((uur (fun _=>False) _).alloc _) (fun _ _ h=>h);go_enter func112,ntmps112
  go_wp2_with (at_builtin;refine zD rfl _ _ 121 rfl i0 z0 72 underlying121 hi hz hz1 hz2 hzs (by decide) rfl hs0 _ n xs rfl HR.o hone (by unfold maxLen;omega) (by omega) ?_)
  intro v' w2 hs2 hu2 hb2;go_wp2
  go_ret
  refine⟨_,rfl,by simpa using hs2,?_,?_⟩
  .exact hb2.ge (by simp) (by intro g hg;simp[Value.ownBlock]at hg;omega)
  .refine zl ((qxl _ _).alloc (qXv _) _) hu2 (qXv _) (by intro k hk;simp[ownS,Value.ownBlock]at hk;omega)
theorem Sd:(prog.info? 3).map (fun i=>(i.zero.map (·.cells.size),i.size,i.bytes))=some (some 1,1,8):=by kernel_rfl
theorem XC{w:World}{v:Value}{n:Nat}{xs:List Value}(h:Rd w 1 v n xs)(hn:n<=65536)(hone:∀u∈xs,u.oneCell'=true):
  Calls prog 113 #[v] w fun e w'=>∃v',e=.returned v'/\Sl w' 3 1 v' n xs/\From w.heap.size v'/\Below w.heap.size w w':=by
 obtain⟨i0,hi,hzz⟩:=qYi.1 Sd;simp only[qYk]at hzz;obtain⟨hz0,hz1,hz2⟩:=hzz;obtain⟨z0,hz,hzs⟩:=qYi.1 hz0;clear hz0;have H:=qqh h;obtain⟨hl,hm,ao,c,rfl,h0,-⟩:=h;have q34:=fun(w:World) (a:Option Addr) (n c:Nat)=>Lib.run_eql_slice_nil (P:=prog) w 87 3 a n c 0 0 underlying87;cases ao with
 |none=>
  obtain rfl:=h0 rfl;have hx:Hid (xs=[]):=qyd (by simpa using hl);clear hl h0 hm;go_enter func113,ntmps113
  go_wp2
  go_ret
  rw[hx.out];exact⟨_,rfl,Sl.nil _ _ _,From.nil _ _ _,qxl _ _⟩
 |some a=>
  clear h0 hl;have hs0:Sl (w.alloc (.cells #[] 3)) 3 1 (.slice (some ⟨w.heap.size,0,none⟩) 0 0) 0 []:=
   ⟨by simp,.inr ⟨w.heap.size,0,0,#[],rfl,zc _ _ rfl,by simp,by simp[maxLen],by simp,by simp⟩⟩
  have HR:Hid (Rd (w.alloc (.cells #[] 3)) 1 (.slice (some a) n c) n xs):=H.o.keep ((uur (fun _=>False) _).alloc _) (fun _ _ h=>h);go_enter func113,ntmps113
  go_wp2_with (at_builtin;refine zD rfl _ _ 87 rfl i0 z0 8 underlying87 hi hz hz1 hz2 hzs (by decide) rfl hs0 _ n xs rfl HR.o hone (by unfold maxLen;omega) (by omega) ?_)
  intro v' w2 hs2 hu2 hb2;go_wp2
  go_ret
  refine⟨_,rfl,by simpa using hs2,?_,?_⟩
  .exact hb2.ge (by simp) (by intro g hg;simp[Value.ownBlock]at hg;omega)
  .refine zl ((qxl _ _).alloc (qXv _) _) hu2 (qXv _) (by intro k hk;simp[ownS,Value.ownBlock]at hk;omega)
theorem Zc(F:List Bk):∀u∈rowC F,u.oneCell'=true:=by
 intro u hu;simp only[rowC,qzu]at hu;obtain⟨x,-,hx⟩:=hu;exact zv x u hx
theorem Se(O:List (Nat×Bk)):∀u∈opC O,u.oneCell'=true:=by
 intro u hu;simp only[opC,qzu,qzr]at hu;obtain⟨x,-,rfl|hx⟩:=hu
 .rfl
 .exact zv _ u hx
theorem Zd(P:List Int):∀u∈ints P,u.oneCell'=true:=by
 intro u hu;simp only[ints,qzv]at hu;obtain⟨x,-,rfl⟩:=hu;rfl
def Ei(w:World)(F:List Bk)(O:List (Nat×Bk))(P:List Int)(e:Ending)(w':World):Prop:=
 ∃b,e=.returned (.pointer (some ⟨b,0,none⟩))/\Dv (fun j=>w.heap.size<=j) w' b F O P/\Below w.heap.size w w'
theorem EK{S:Nat->Prop}{w:World}{b:Nat}{F:List Bk}{O:List (Nat×Bk)}{P:List Int}(h:Dv S w b F O P):
  Calls prog 43 #[.pointer (some ⟨b,0,none⟩)] w (Ei w F O P):=by
 obtain⟨vf,vo,vp,h,-⟩:=h;obtain⟨c0,c1,c2⟩:=h.c;have hbl:b<w.heap.size:=zf h.str;have H:=qqh h;clear h;go_enter func43,ntmps43
 go_wp2
 refine qZj (S:=fun W=>W.cell? ⟨b,0,none⟩=some vf/\W.cell? ⟨b,1,none⟩=some vo/\W.cell? ⟨b,2,none⟩=some vp) (by kernel_rfl) (by(simp only[qYo]);exact⟨c0,c1,c2⟩) (fun hHeld=>?_);refine Wl.i [0,1,2,3,5,6,7,8,10,11,12,13] ?_;iterate 12 refine Wl.t hHeld ?_
 refine Wl.o ?_;have hud:Upd (fun _=>False) w w.drew:=(uur _ w).drew;refine Wl.r 4 (fun K hK=>?_);go_simp
 refine(tO (H.o.fs.rd.keep hud (fun _ _ h=>h)) (by have:=H.o.good.fl;omega) (Zc F)).mono ?_;rintro e w1 ⟨v1,rfl,s1,f1,b1⟩;obtain⟨a1,k1,rfl⟩:=s1.rd.jd;refine hK.o _ _ ((have hU:=uuo (S:=fun _=>False) b1;⟨hU.ja hHeld.1 (fun h=>h),hU.ja hHeld.2.1 (fun h=>h),hU.ja hHeld.2.2 (fun h=>h)⟩)) (fun hH1=>?_);clear hK K;have hu1:=uuo (S:=fun _=>False) b1;refine Wl.r 9 (fun K hK=>?_);go_simp
 refine(XB ((H.o.os.rd.keep hud (fun _ _ h=>h)).keep hu1 (fun _ _ h=>h)) H.o.good.ol (Se O)).mono ?_;rintro e w2 ⟨v2,rfl,s2,f2,b2⟩;obtain⟨a2,k2,rfl⟩:=s2.rd.jd;refine hK.o _ _ ((have hU:=uuo (S:=fun _=>False) b2;⟨hU.ja hH1.1 (fun h=>h),hU.ja hH1.2.1 (fun h=>h),hU.ja hH1.2.2 (fun h=>h)⟩)) (fun hH2=>?_);clear hK K;have hu2:=uuo (S:=fun _=>False) b2;refine Wl.r 14 (fun K hK=>?_);go_simp
 refine(XC (((H.o.ps.rd.keep hud (fun _ _ h=>h)).keep hu1 (fun _ _ h=>h)).keep hu2 (fun _ _ h=>h)) H.o.good.pl (Zd P)).mono ?_;rintro e w3 ⟨v3,rfl,s3,f3,b3⟩;obtain⟨a3,k3,rfl⟩:=s3.rd.jd;refine hK.o _ _ ((have hU:=uuo (S:=fun _=>False) b3;⟨hU.ja hH2.1 (fun h=>h),hU.ja hH2.2.1 (fun h=>h),hU.ja hH2.2.2 (fun h=>h)⟩)) (fun hH3=>?_);clear hK K;have hu3:=uuo (S:=fun _=>False) b3;have z1:=b1.size;have z2:=b2.size;have z3:=b3.size;have zd:w.drew.heap.size=w.heap.size:=rfl;have t3:Sl w3 54 64 (.slice a1 F.length k1) F.length (rowC F):=(s1.keep hu2 (fun _ _ h=>h)).keep hu3 (fun _ _ h=>h);have t2:Sl w3 131 65 (.slice a2 O.length k2) O.length (opC O):=s2.keep hu3 (fun _ _ h=>h);have l1:=fun(g:Nat) (e:(Value.slice a1 F.length k1).ownBlock=some g)=>s1.lt e;have l2:=fun(g:Nat) (e:(Value.slice a2 O.length k2).ownBlock=some g)=>s2.lt e;have l3:=fun(g:Nat) (e:(Value.slice a3 P.length k3).ownBlock=some g)=>s3.lt e;have HS:=Y12 t3 t2 s3 f1 f2 f3 l1 l2 l3 b1 b2 b3;clear t3 t2 s3 f1 f2 f3 l1 l2 l3 b1 b2 b3 s1 s2 hu1 hu2 hu3;refine Wl.i [15] (Wl.t hH3 (Wl.o ?_));refine Wl.r 16 (fun K hK=>?_);go_simp
 show K _ (w3.alloc (.cells #[(.slice a1 F.length k1),(.slice a2 O.length k2),(.slice a3 P.length k3)] 123));refine hK.o _ _ (⟨zm hH3.1 _,zm hH3.2.1 _,zm hH3.2.2 _⟩) (fun hH4=>?_);clear hK K;refine Wl.r 17 (fun K hK=>?_);go_simp
 refine hK.o _ _ (hH4) (fun _=>?_);clear hK K;refine Wl.d ?_;clear hHeld hH1 hH2 hH3 hH4 c0 c1 c2 hud;go_wp2
 go_ret
 obtain⟨t1,t2,t3,f1,f2,f3,l1,l2,l3,b1,b2,b3⟩:=HS.o;have hA:Upd (fun _=>False) w3 (w3.alloc (.cells #[(.slice a1 F.length k1),(.slice a2 O.length k2),(.slice a3 P.length k3)] 123)):=(uur _ _).alloc _;refine⟨w3.heap.size,rfl,⟨(.slice a1 F.length k1),(.slice a2 O.length k2),(.slice a3 P.length k3),⟨zc _ _ rfl,t1.keep hA (fun _ _ h=>h),t2.keep hA (fun _ _ h=>h),t3.keep hA (fun _ _ h=>h),H.o.good,fun e=>?_,fun e=>?_,fun e=>?_,fun g p q=>?_,fun g p q=>?_,fun g p q=>?_⟩,fun j hj=>?_⟩,?_⟩
 .have:=l1 _ e;omega
 .have:=l2 _ e;omega
 .have:=l3 _ e;omega
 .have:=l1 g p;have:=f2 g q;omega
 .have:=l1 g p;have:=f3 g q;omega
 .have:=l2 g p;have:=f3 g q;omega
 .rcases hj with rfl|hj|hj|hj
  .show w.heap.size<=w3.heap.size;omega
  .have:=f1 j hj;show w.heap.size<=j;omega
  .have:=f2 j hj;show w.heap.size<=j;omega
  .have:=f3 j hj;show w.heap.size<=j;omega
 .exact (yy ((b1.trans (b2.mono z1)).trans (b3.mono (by omega)))).alloc (by omega) _
theorem EL{S:Nat->Prop}{w:World}{b:Nat}{F:List Bk}{O:List (Nat×Bk)}{P:List Int}(h:Dv S w b F O P)(hn:∀j,w.heap.size<=j->S j){vk:Value}{l:List Int}(hk:Rd w 1 vk l.length (ints l))
  (hl:∀x∈l,0<=x/\x<=2) (hP:P.length+l.length<=65536):
  Calls prog 44 #[.pointer (some ⟨b,0,none⟩),vk] w fun e w'=>e=.returned (.int .i64 0)/\Dv S w' b F O (P++l)/\Upd S w w':=by
 obtain⟨vf,vo,vp,h,hS⟩:=h;obtain⟨-,-,c2⟩:=h.c;have z2:=h.fz 2;obtain⟨ap,cp,rfl⟩:=h.ps.rd.jd;obtain⟨ak,ck,rfl⟩:=hk.jd;obtain⟨i0,hi,hzz⟩:=qYi.1 Sd;simp only[qYk]at hzz;obtain⟨hz0,hz1,hz2⟩:=hzz;obtain⟨z0,hz,hzs⟩:=qYi.1 hz0;clear hz0;have H:=Y6 h hS hn hk hl hP;have HI:=Y5 hi hz1 hz2 hz hzs;have hll:l.length<=65536:=by omega
 clear h hS hn hk hl hP hi hz1 hz2 hz hzs;go_enter func44,ntmps44
 go_wp2
 go_loopw[11] (fun i wr=>∃k:Nat,k<=l.length/\i=.int .i64 k/\wr=w) (fun i _=>l.length-(intOf i).toNat)
 case atStart=>exact⟨0,qYf _,rfl,rfl⟩
 case round=>
  obtain⟨k,hk,rfl,rfl⟩:=hrel;by_cases hlt:k<l.length
  .obtain ⟨blk,ofk,cpk,e1,-,hck⟩:=H.o.2.2.2.1.at (by omega);cases e1;have hb:=hck k (.int .i64 l[k]) (by simp[ints,List.getElem?_eq_getElem hlt]);have hx:=H.o.2.2.2.2.1 l[k] (qyz hlt);generalize l[k]=x at hb hx;obtain⟨hx1,hx2⟩:=hx;clear hck c2 z2;go_wp2
   go_roundw
   case rel=>exact⟨k+1,by omega,by go_num,trivial⟩
   case measure=>simp[intOf];omega
  .obtain rfl:k=l.length:=by omega
   have hone:=qqh (Zd l);have hps:=qqh H.o.1.ps;go_wp2_with (first
    |(at_builtin;refine zD rfl _ _ 87 rfl i0 z0 8 underlying87 HI.o.1 HI.o.2.2.2.1 HI.o.2.1 HI.o.2.2.1 HI.o.2.2.2.2 (by decide) rfl hps.out _ l.length (ints l) rfl H.o.2.2.2.1 hone.out (by unfold maxLen;have:=H.o.2.2.2.2.2;omega) (by have:=H.o.2.2.2.2.2;omega) ?_;intro v' w2 hs2 hu2 hb2;obtain⟨a2,k2,rfl⟩:=hs2.rd.jd;replace hu2:Upd (ownS (.slice ap P.length cp)) wr w2:=hu2;replace hb2:blockFrom wr (.slice ap P.length cp) (.slice a2 (P.length+l.length) k2):=hb2;have g2:=(hu2.block b (zf H.o.1.str) (fun h=>H.o.1.pb h)).trans H.o.1.str;have c3:=za g2 2;have z3:=zg g2 2;have HA:=Y4 hs2 hu2 hb2 g2;clear hs2 hu2 hb2 g2)
    |fail)
   go_ret
   obtain⟨hs2,hu2,hb2,g2⟩:=HA.o;obtain⟨h,hS,hn,hk,hl,hP⟩:=H.o;obtain⟨u,hu⟩:∃u:Value,u=.slice a2 (P.length+l.length) k2:=⟨_,rfl⟩
   rw[<-hu]at hs2 hb2⊢;have hub:u.ownBlock≠some b:=fun e=>by
    rcases hb2 with h1|⟨g,h1,hle⟩
    .exact h.pb (by rw[<-h1];exact e)
    .rw [h1]at e;cases e;have:=zf h.str;omega
   have hu3:Upd (fun j=>j=b) w2 (w2.setCell ⟨b,2,none⟩ u):=zj _ _ _ _;have hU:Upd S wr w2:=hu2.mono (fun j _ hj=>hS j (.inr (.inr (.inr hj))));refine⟨rfl,⟨vf,vo,u,?_,?_⟩,hU.trans (hu3.mono (fun j _ e=>e▸hS b (.inl rfl)))⟩
   .refine ⟨zi g2 2 u,(h.fs.keep hu2 (fun g h1 h2=>h.fp g h1 h2)).jN hu3 h.fb,(h.os.keep hu2 (fun g h1 h2=>h.op g h1 h2)).jN hu3 h.ob,?_,?_,h.fb,h.ob,hub,h.fo,(h.fp.symm.from hb2 (fun g hg=>h.fs.lt hg)).symm,(h.op.symm.from hb2 (fun g hg=>h.os.lt hg)).symm⟩
    .rw [qzd];have e:ints (P++l)=ints P++ints l:=by simp[ints]
     rw[e];exact hs2.jN hu3 hub
    .exact {h.good with pl:=by rw[qzd];exact hP}
   .rintro j (rfl|hj|hj|hj)
    .exact hS _ (.inl rfl)
    .exact hS _ (.inr (.inl hj))
    .exact hS _ (.inr (.inr (.inl hj)))
    .rcases hb2 with h1|⟨g,h1,hle⟩
     .exact hS _ (.inr (.inr (.inr (by rw[<-h1];exact hj))))
     .rw [h1]at hj;cases hj;exact hn _ hle
section
variable{own:Nat->Nat}{w:World}{c:Nat}{n:CaN}{p:CaP}{a:CaS}
theorem Yb(h:CaAt own w c n p a){vk:Value}{l:List Int}(hk:Rd w 1 vk l.length (ints l))(hl:∀x∈l,0<=x/\x<=2)(hP:a.bP.length+l.length<=65536):
  Calls prog 44 #[ptr p.back,vk] w (zu own w c n p {a with bP:=a.bP++l} (.int .i64 0)):=
 (EL h.open3 (fun _ h=> .inr h) hk hl hP).mono fun _ _ ⟨he,hd,hu⟩=>⟨he,_,h.turn3 hu hd rfl,h.did3 hu⟩
theorem XD(h:CaAt own w c n p a){vk:Value}{l:List Int}(hk:Rd w 1 vk l.length (ints l))(hl:∀x∈l,0<=x/\x<=2)(hP:a.dP.length+l.length<=65536):
  Calls prog 44 #[ptr p.ssd,vk] w (zu own w c n p {a with dP:=a.dP++l} (.int .i64 0)):=
 (EL h.jP (fun _ h=> .inr h) hk hl hP).mono fun _ _ ⟨he,hd,hu⟩=>⟨he,_,h.jM hu hd rfl,h.did2 hu⟩
end
end Go.Proofs.YtfhfbpmlnjdfoaaGreatDoor
