/- lavaboref14.Past in memory: of each block what -/
import Derived.Test.YtfhfbpmlnjdfoaaGreatDoorG09
set_option maxRecDepth 100000
set_option maxHeartbeats 1000000
namespace Go.Proofs.YtfhfbpmlnjdfoaaGreatDoor
open Go Go.RowKit
def PsEl(w:World)(M:Nat)(v:Value):Prop:=∃L:List Int,1<=L.length/\L.length<=M/\(∀x∈L,0<=x/\x<=255)/\Sl w 3 1 v L.length (ints L)
theorem PsEl.keep{w w':World}{M:Nat}{v:Value}(h:PsEl w M v){S:Nat->Prop}(hu:Upd S w w')(hs:∀g,v.ownBlock=some g->¬S g):PsEl w' M v:=by
 obtain⟨L,h1,h2,h0,h3⟩:=h;exact⟨L,h1,h2,h0,h3.keep hu hs⟩
structure Pst(B:Nat->Prop)(w:World)(p N M:Nat)(vo:Value)(xs:List Value):Prop where
 str:w.heap[p]?=some (.cells #[vo] 177 (0,0))
 o:Sl w 87 1 vo N xs
 els:∀x∈xs,PsEl w M x
 bp:B p
 bo:∀g,vo.ownBlock=some g->B g/\g≠p
 bx:∀x∈xs,∀g,x.ownBlock=some g->B g/\g≠p/\vo.ownBlock≠some g
 dis:xs.Pairwise Dis
theorem Pst.keep{B S:Nat->Prop}{w w':World}{p N M:Nat}{vo:Value}{xs:List Value}(h:Pst B w p N M vo xs)(hu:Upd S w w')(hS:∀j,B j->¬S j):Pst B w' p N M vo xs:=
 {h with str:=(hu.block p (zd h.str) (hS _ h.bp)).trans h.str,o:=h.o.keep hu (fun g hg=>hS g (h.bo g hg).1),els:=fun x hx=>(h.els x hx).keep hu (fun g hg=>hS g (h.bx x hx g hg).1)}
theorem Pst.len{B:Nat->Prop}{w:World}{p N M:Nat}{vo:Value}{xs:List Value}(h:Pst B w p N M vo xs):xs.length=N:=by have:=h.o.len;omega
theorem Ed:(Tryz.prog.info? 87).map (fun i=>(i.zero,i.size,i.bytes))=some (some (.slice none 0 0),1,24):=by kernel_rfl
theorem Qd:(Tryz.prog.info? 3).map (fun i=>(i.zero,i.size,i.bytes))=some (some (.int .i64 0),1,8):=by kernel_rfl
theorem WO(w:World)(x:Int)(hx:0<=x/\x<=255)(M:Nat)(hM:1<=M):PsEl (w.alloc (.cells #[.int .i64 x] 3)) M (.slice (some ⟨w.heap.size,0,none⟩) 1 1):=
 ⟨[x],qXv _,hM,fun y hy=>by rw[qzy.1 hy];exact hx,rfl,.inr ⟨w.heap.size,0,1,#[.int .i64 x],rfl,zc w _ rfl,qXv _,by unfold maxLen;omega,by simp,fun j u h=>by rw[qYe];simpa[ints]using h⟩⟩
theorem Yu{ops:Array Oper}{rest:List Oper}{op:Oper}{a:Act}{w:World}{Q:Exit->Act->World->Prop}(hgd:op.guard=none)(s x:Operand)(t:TypeId)(hop:op.op=Op.call {callee:=Callee.builtin Builtin.append,args:= #[s,x],argTypes:= #[t,t]})(v x':Value)(hs:a.eval s=v)(hx:a.eval x=x')(v':Value)(w':World)
  (hrun:(Builtin.append_ #[t,t] op.type #[v,x']).run Tryz.prog w=.ok v' w') (h:wpList Tryz.prog ops Q rest (a.put op.dst v') w'):wpList Tryz.prog ops Q (op::rest) a w:=by
 refine qZh hgd fun K hK'=>?_;unfold Oper.wp;simp[execOp,hop,resolve,invoke,builtin,hs,hx,hrun,Result.andThen];exact hK' _ _ h
theorem Qe(k:Nat)(hk:k<=100)(w:World):Calls Tryz.prog 31 #[.int .i64 (k:Int)] w fun e w'=>∃p vo xs,e=.returned (.pointer (some ⟨p,0,none⟩))/\Pst (fun j=>w.heap.size<=j) w' p k 1 vo xs/\Below w.heap.size w w':=by
 go_enter Tryz.func31,Tryz.ntmps31
 go_wp2_with fail
 go_loopg[4] k (fun gk s4 wr=>∃(i:Nat) (vo:Value) (xs:List Value),i+gk=k/\s4=.int .i64 (i:Int)/\Pst (fun j=>w.heap.size<=j) wr w.heap.size i 1 vo xs/\Below w.heap.size w wr)
 case atStart=>
  refine⟨0,.slice none 0 0,[],by omega,rfl,⟨zc w _ rfl,Sl.nil _ _ _,fun x hx=>(by cases hx),qXv _,fun g hg=>(by cases hg),fun x hx=>(by cases hx),List.Pairwise.nil⟩,(qxl _ w).alloc (qXv _) _⟩
 case round=>
  obtain⟨i,vo,xs,hi,rfl,hP,hb⟩:=hrel;obtain⟨ao,cap,rfl⟩:=hP.o.rd.nil_iff;have c0:=za hP.str 0;have f0:=zf hP.str 0;by_cases hlt:i<k
  .have k1:(i:Int)<(k:Int):=by omega
   obtain⟨w1,hw1⟩:=qqe (wr.alloc (.cells #[.int .i64 0] 3));obtain⟨x,hx⟩:∃x:Value,x=.slice (some ⟨wr.heap.size,0,none⟩) 1 1:=⟨_,rfl⟩
   have hx1:x.oneCell'=true:=by rw[hx];rfl
   obtain⟨w2,hw2⟩:=qqe (w1.alloc (.cells [x].toArray 87));have u1:Upd (fun _=>False) wr w1:=by rw[hw1];exact(uur _ wr).alloc _
   have u2:Upd (fun _=>False) w1 w2:=by rw[hw2];exact(uur _ w1).alloc _
   have z1:w1.heap.size=wr.heap.size+1:=by rw[hw1];simp
   have z2:w2.heap.size=wr.heap.size+2:=by rw[hw2];simp[z1]
   have hP2:=hP.keep (u1.trans u2) (fun _ _ h=>h);have hel:PsEl w1 1 x:=by rw[hw1,hx];exact WO wr 0 (by decide) 1 (qXv _)
   have hrd:Rd w2 1 (.slice (some ⟨w1.heap.size,0,none⟩) 1 1) 1 [x]:=by rw[hw2];exact Rd.fresh w1 [x] 87 1 rfl (by unfold maxLen;omega)
   obtain⟨ii,hii,hz0,hz1,hz2⟩:=qZa Ed;obtain⟨v',w3,hrun,hs3,hu3,hbf⟩:=yj 175 175 ii (.slice none 0 0) 24 Tryz.underlying175 hii hz0 hz1 hz2 rfl (by decide) hP2.o hrd (fun u hu=>by rw[qzy.1 hu];exact hx1) (by unfold maxLen;omega) (by omega);obtain⟨ao3,cap3,hv3⟩:=hs3.rd.nil_iff;subst hv3;have sp:=zd hP.str;have g3:=(hu3.block w.heap.size (zd hP2.str) (fun h=>(hP.bo _ h).2 rfl)).trans hP2.str;have k3:=za g3 0;have f3:=zf g3 0;rw[z1]at hrun;rw[hw2,hw1,hx]at hrun;have H:=Y9 hP hb hs3 hu3 hbf hel (u1.trans u2) hP2 g3;have HX:=qqh hx;have H2:=qqh u2;clear hP hb hs3 hu3 hbf hel u1 u2 hP2 g3 hrd hii hz0 hz1 hz2 hw1 hw2 hx;go_wp2_with (first
    |(refine Yu rfl _ _ 175 rfl _ _ rfl rfl _ _ hrun ?_)
    |fail)
   go_roundg (gk-1)
   case measure=>omega
   case rel=>
    obtain⟨hP,hb,hs3,hu3,hbf,hel,u12,hP2,g3⟩:=H.o;have hus:=zi w3 w.heap.size 0 (.slice ao3 (i+1) cap3);have hvo:∀g,(Value.slice ao3 (i+1) cap3).ownBlock=some g->((Value.slice ao i cap).ownBlock=some g/\w.heap.size<=g/\g≠w.heap.size/\g<wr.heap.size)\/w2.heap.size<=g:=fun g hg=>by
     rcases hbf with e|⟨g',e,hg'⟩
     .rw [e]at hg;exact .inl ⟨hg,(hP.bo g hg).1,(hP.bo g hg).2,hP.o.lt hg⟩
     .rw [hg]at e;cases e;exact .inr hg'
    have hxo:∀y∈xs,∀g,y.ownBlock=some g->g<wr.heap.size:=fun y hy g hg=>by
     obtain⟨L,-,-,-,hs⟩:=hP.els y hy;exact hs.lt hg
    have hxn:∀g,x.ownBlock=some g->g=wr.heap.size:=fun g hg=>by rw[HX.o]at hg;simp[Value.ownBlock]at hg;exact hg.symm
    refine⟨i+1,.slice ao3 (i+1) cap3,xs++[x],by omega,by go_num,⟨?_,hs3.keep hus (fun g hg e=>?_),fun y hy=>?_,qXv _,fun g hg=>?_,fun y hy g hg=>?_,?_⟩,?_⟩
    .have:=zh g3 0 (.slice ao3 (i+1) cap3);simpa using this
    .rcases hvo g hg with h|h<;>omega
    .rcases qzq.1 hy with hy|hy
     .exact ((hP2.els y hy).keep hu3 (fun g hg e=>(hP.bx y hy g hg).2.2 e)).keep hus (fun g hg e=>(hP.bx y hy g hg).2.1 e)
     .rw [qzy.1 hy];refine((hel.keep H2.o (fun _ _ h=>h)).keep hu3 (fun g hg e=>?_)).keep hus (fun g hg e=>?_)
      .have:=hxn g hg;have:=hP.o.lt e;omega
      .have:=hxn g hg;omega
    .rcases hvo g hg with h|h
     .exact ⟨h.2.1,h.2.2.1⟩
     .exact ⟨by show w.heap.size<=g;omega,by omega⟩
    .rcases qzq.1 hy with hy|hy
     .refine ⟨(hP.bx y hy g hg).1,(hP.bx y hy g hg).2.1,fun e=>?_⟩;rcases hvo g e with h|h
      .exact (hP.bx y hy g hg).2.2 h.1
      .have:=hxo y hy g hg;omega
     .rw [qzy.1 hy]at hg;have h1:=hxn g hg;refine⟨by show w.heap.size<=g;omega,by omega,fun e=>?_⟩;rcases hvo g e with h|h<;>omega
    .refine List.pairwise_append.2 ⟨hP.dis,List.pairwise_singleton _ _,fun y hy y' hy' g h1 h2=>?_⟩;rw[qzy.1 hy']at h2;have:=hxn g h2;have:=hxo y hy g h1;omega
    .exact zj (zj (zj hb u12 (qXv _) (fun k h=>h.elim)) hu3 (qXv _) (fun k h=>(hP.bo k h).1)) hus (qXv _) (fun k h=>by rw[h];exact qXv _)
  .have k1:¬((i:Int)<(k:Int)):=by omega
   obtain rfl:i=k:=by omega
   have H:=Y2 hP hb;clear hP hb c0 f0;go_wp2
   go_ret
   exact⟨w.heap.size,rfl,⟨_,xs,H.o.1⟩,H.o.2⟩
theorem Pst.look{B:Nat->Prop}{w:World}{p N M:Nat}{vo:Value}{xs:List Value}(h:Pst B w p N M vo xs){i:Nat}(hi:i<N):
  ∃g off cap b o m c x,vo=.slice (some ⟨g,off,none⟩) N cap/\w.cell? ⟨g,off+i,none⟩=some (.slice (some ⟨b,o,none⟩) (m+1) c)/\w.cell? ⟨b,o+m,none⟩=some (.int .i64 x)/\(m+1<=M/\0<=x/\x<=255)/\xs[i]?=some (.slice (some ⟨b,o,none⟩) (m+1) c):=by
 obtain⟨g,off,cap,cur,rfl,hg,-,hc⟩:=h.o.at (by omega);have hx:i<xs.length:=by rw[h.len];exact hi
 obtain⟨L,h1,h2,hb0,hs⟩:=h.els _ (qyz hx);obtain⟨b,o,c,cur2,e2,hb,-,hc2⟩:=hs.at (by omega);obtain⟨m,hm⟩:∃m,L.length=m+1:=⟨L.length-1,by omega⟩
 have hx2:xs[i]?=some (.slice (some ⟨b,o,none⟩) (m+1) c):=by rw[qyn hx,e2,hm]
 refine⟨g,off,cap,b,o,m,c,L[m]'(by omega),rfl,?_,?_,⟨by omega,hb0 _ (qyz _)⟩,hx2⟩
 .rw [za hg];exact hc i _ hx2
 .rw [za hb];refine hc2 m _ ?_;simp[ints,List.getElem?_eq_getElem (show m<L.length by omega)]
theorem qA{B:Nat->Prop}{w:World}{p N M:Nat}{vo:Value}{xs:List Value}(h:Pst B w p N M vo xs)(hM:M<=100000){i:Nat}(hi:i<N):Calls Tryz.prog 88 #[.pointer (some ⟨p,0,none⟩),.int .i64 (i:Int)] w fun e w'=>∃x:Int,(0<=x/\x<=255)/\e=.returned (.int .i64 x)/\Upd (fun _=>False) w w':=by
 obtain⟨g,off,cap,b,o,m,c,x,rfl,c1,c2,⟨hm,hx⟩,-⟩:=h.look hi;have c0:=za h.str 0;have hNm:=h.o.le;simp only[qyv,qyl]at c0;have k1:(i:Int)<(N:Int):=by omega
 have i0:(0:Int)<=(i:Int):=by omega
 have hw:IntKind.i64.wrap (m:Int)=(m:Int):=qxv _ (by omega);clear h;go_enter Tryz.func88,Tryz.ntmps88
 go_wp2_with fail
 refine qZj (S:=fun W=>W.cell? ⟨p,0,none⟩=some (.slice (some ⟨g,off,none⟩) N cap)/\W.cell? ⟨g,off+i,none⟩=some (.slice (some ⟨b,o,none⟩) (m+1) c)/\W.cell? ⟨b,o+m,none⟩=some (.int .i64 x)) (by kernel_rfl) (⟨by rw[qYo];exact c0,by rw[qYo];exact c1,by rw[qYo];exact c2⟩) (fun hHeld=>?_);refine Wl.i [0,1,2,3,4,5,6,7,8,9,10,11,12,13,14] ?_;iterate 15 refine Wl.t hHeld ?_
 refine Wl.o ?_;refine qZf (i:=15) (v:=.int .i64 (m:Int)) rfl (by kernel_rfl) (by kernel_rfl) (by kernel_rfl) (fun _ _ _ h=>h) (Or.inl ⟨by rfl,?_⟩) hHeld ?_
 .intro W hSw;go_simp
 simp only[qzc,qyw,qyx,Act.put,qXi,qXl,qXk];have k2:(m:Int)<(m:Int)+1:=by omega
 have m0:(0:Int)<=(m:Int):=by omega
 refine Wl.i [16,17] ?_;iterate 2 refine Wl.t hHeld ?_
 refine Wl.o ?_;refine Wl.r 18 (fun K hK=>?_);go_simp
 refine hK.o _ _ hHeld (fun _=>?_);clear hK K;refine Wl.d ?_;go_wp2
 go_ret
 exact⟨x,hx,rfl,(uur _ w).drew⟩
theorem Pst.apart{B:Nat->Prop}{w:World}{p N M:Nat}{vo:Value}{xs:List Value}(h:Pst B w p N M vo xs){i j:Nat}(hi:i<xs.length)(hj:j<xs.length)(hne:i≠j):Dis xs[i] xs[j]:=by
 have hd:=qXe.1 h.dis;rcases Nat.lt_or_gt_of_ne hne with hlt|hlt
 .exact hd i j hi hj hlt
 .exact (hd j i hj hi hlt).symm
theorem Pst.put{B:Nat->Prop}{w w3:World}{p N M M' g off cap i:Nat}{xs:List Value}{v':Value}(h:Pst B w p N M (.slice (some ⟨g,off,none⟩) N cap) xs)(hi:i<xs.length)(hMM:M<=M')(hu:Upd (ownS xs[i]) w w3)(hel:PsEl w3 M' v')(hbf:blockFrom w xs[i] v'):
  Pst (fun j=>B j\/w.heap.size<=j) (w3.setCell ⟨g,off+i,none⟩ v') p N M' (.slice (some ⟨g,off,none⟩) N cap) (xs.set i v')/\Upd (fun j=>B j\/w.heap.size<=j) w (w3.setCell ⟨g,off+i,none⟩ v'):=by
 obtain⟨hl,⟨e,-⟩|⟨g',off',cap',cur,e,hg,hnc,hcm,hs,hc⟩⟩:=h.o
 .cases e
 cases e;have hiN:i<N:=by have:=h.len;omega
 have hxi:=qyz hi;have hus:=zi w3 g (off+i) v';have hgo:B g/\g≠p:=h.bo g rfl;have hgx:∀j (hj:j<xs.length),∀b,xs[j].ownBlock=some b->B b/\b≠p/\b≠g/\b<w.heap.size:=fun j hj b hb=>by
  obtain⟨h1,h2,h3⟩:=h.bx _ (qyz hj) b hb;obtain⟨L,-,-,-,hs⟩:=h.els _ (qyz hj);exact⟨h1,h2,fun e=>h3 (by rw[e];rfl),hs.lt hb⟩
 have hgl:=zd hg;have hpl:=zd h.str;have hv':∀b,v'.ownBlock=some b->(xs[i].ownBlock=some b/\B b/\b≠p/\b≠g)\/w.heap.size<=b:=fun b hb=>by
  rcases hbf with e|⟨g',e,hg'⟩
  .rw [e]at hb;obtain⟨h1,h2,h3,-⟩:=hgx i hi b hb;exact .inl ⟨hb,h1,h2,h3⟩
  .rw [hb]at e;cases e;exact .inr hg'
 have hg3:=(hu.block g hgl (fun e=>(hgx i hi g e).2.2.1 rfl)).trans hg;have h4:=zh hg3 (off+i) v';have hset:∀j (hj:j<(xs.set i v').length),(j=i/\(xs.set i v')[j]=v')\/(j≠i/\∃hj':j<xs.length,(xs.set i v')[j]=xs[j]):=fun j hj=>by
  have hj':j<xs.length:=by simpa using hj
  by_cases hji:j=i
  .subst hji;exact .inl ⟨rfl,by simp⟩
  .exact .inr ⟨hji,hj',by rw[qzb,if_neg (fun e=>hji e.symm)]⟩
 refine⟨⟨?_,⟨by simpa using hl,.inr ⟨g,off,cap,cur.setIfInBounds (off+i) v',rfl,h4,hnc,hcm,by simpa using hs,fun j u hj=>?_⟩⟩,fun y hy=>?_,.inl h.bp,fun b hb=>?_,fun y hy b hb=>?_,?_⟩,?_⟩
 .exact (hus.block p (qXy hpl hu.size) (fun e=>hgo.2 e.symm)).trans ((hu.block p hpl (fun e=>(hgx i hi p e).2.1 rfl)).trans h.str)
 .rw [qyt]at hj;by_cases hji:i=j
  .subst hji;rw[if_pos rfl,if_pos hi]at hj;rw[Array.getElem?_setIfInBounds_self,if_pos (by omega)];exact hj
  .rw [if_neg hji]at hj;rw[qxg (by omega)];exact hc j u hj
 .obtain ⟨j,hj,rfl⟩:=qza hy;rcases hset j hj with⟨hji,e⟩|⟨hji,hj',e⟩
  .rw [e];refine hel.keep hus (fun b hb e=>?_);subst e;rcases hv' b hb with h1|h1
   .exact h1.2.2.2 rfl
   .omega
  .rw [e];obtain⟨L,l1,l2,l0,hsl⟩:=h.els _ (qyz hj');have hk:PsEl w M' xs[j]:=⟨L,l1,qXx l2 hMM,l0,hsl⟩
   exact(hk.keep hu (fun b hb e=>h.apart hj' hi hji b hb e)).keep hus (fun b hb e=>(hgx j hj' b hb).2.2.1 e)
 .cases hb;exact⟨.inl hgo.1,hgo.2⟩
 .obtain ⟨j,hj,rfl⟩:=qza hy;rcases hset j hj with⟨hji,e⟩|⟨hji,hj',e⟩
  .rw [e]at hb;rcases hv' b hb with h1|h1
   .exact ⟨.inl h1.2.1,h1.2.2.1,fun e=>h1.2.2.2 (by cases e;rfl)⟩
   .exact ⟨.inr h1,by omega,fun e=>by have e2:some g=some b:=e;cases e2;omega⟩
  .rw [e]at hb;obtain⟨h1,h2,h3,-⟩:=hgx j hj' b hb;exact⟨.inl h1,h2,fun e=>h3 (by cases e;rfl)⟩
 .refine qXe.2 fun a c ha hc hac b h1 h2=>?_;rcases hset a ha with⟨ha1,e1⟩|⟨ha1,ha',e1⟩<;>rcases hset c hc with⟨hc1,e2⟩|⟨hc1,hc',e2⟩
  .omega
  .rw [e1]at h1;rw[e2]at h2;rcases hv' b h1 with h3|h3
   .exact h.apart hi hc' (fun e=>hc1 e.symm) b h3.1 h2
   .have:=(hgx c hc' b h2).2.2.2;omega
  .rw [e1]at h1;rw[e2]at h2;rcases hv' b h2 with h3|h3
   .exact h.apart hi ha' (fun e=>ha1 e.symm) b h3.1 h1
   .have:=(hgx a ha' b h1).2.2.2;omega
  .rw [e1]at h1;rw[e2]at h2;exact h.apart ha' hc' (by omega) b h1 h2
 .refine (hu.mono (fun j hj e=> .inl (hgx i hi j e).1)).trans (hus.mono (fun j hj e=>?_));subst e;exact .inl hgo.1
def Qf(B:Nat->Prop)(w:World)(p N M:Nat)(v:Value)(e:Ending)(w':World):Prop:=
 e=.returned v/\∃vo xs,Pst (fun j=>B j\/w.heap.size<=j) w' p N M vo xs/\Upd (fun j=>B j\/w.heap.size<=j) w w'
theorem Pst.wide{B B':Nat->Prop}{w:World}{p N M:Nat}{vo:Value}{xs:List Value}(h:Pst B w p N M vo xs)(hB:∀j,B j->B' j):Pst B' w p N M vo xs:=
 {h with bp:=hB _ h.bp,bo:=fun g hg=>⟨hB g (h.bo g hg).1,(h.bo g hg).2⟩,bx:=fun x hx g hg=>⟨hB g (h.bx x hx g hg).1,(h.bx x hx g hg).2⟩}
theorem qB{B:Nat->Prop}{w:World}{p N M:Nat}{vo:Value}{xs:List Value}(h:Pst B w p N M vo xs)(hM:M<=100000){i:Nat}(hi:i<N)(f:Int)(hf:0<=f/\f<=255):
  Calls Tryz.prog 92 #[.pointer (some ⟨p,0,none⟩),.int .i64 (i:Int),.int .i64 f] w (Qf B w p N (M+1) (.tuple #[])):=by
 obtain⟨g,off,cap,b,o,m,c,x,rfl,c1,c2,⟨hm,-⟩,hx⟩:=h.look hi;have c0:=za h.str 0;have hNm:=h.o.le;simp only[qyv,qyl]at c0;have k1:(i:Int)<(N:Int):=by omega
 have i0:(0:Int)<=(i:Int):=by omega
 have hix:i<xs.length:=by rw[h.len];exact hi
 obtain⟨w1,hw1⟩:=qqe (w.drew.alloc (.cells [Value.int .i64 f].toArray 3));have u1:Upd (fun _=>False) w w1:=by rw[hw1];exact((uur _ w).drew).alloc _
 have h1:=h.keep u1 (fun _ _ h=>h);obtain⟨L,l1,l2,l0,hs⟩:=h1.els _ (qyz hix);have hxe:xs[i]=.slice (some ⟨b,o,none⟩) (m+1) c:=by rw[qyn hix]at hx;exact qYj hx
 have hrd:Rd w1 1 (.slice (some ⟨w.drew.heap.size,0,none⟩) 1 1) 1 [Value.int .i64 f]:=by rw[hw1];exact Rd.fresh w.drew [Value.int .i64 f] 3 1 rfl (by unfold maxLen;omega)
 obtain⟨ii,hii,hz0,hz1,hz2⟩:=qZa Qd;obtain⟨v',w3,hrun,hs3,hu3,hbf⟩:=yj 87 87 ii (.int .i64 0) 8 Tryz.underlying87 hii hz0 hz1 hz2 rfl (by decide) hs hrd (fun u hu=>by rw[qzy.1 hu];rfl) (by unfold maxLen;omega) (by omega);have hel:PsEl w3 (M+1) v':=by
  refine⟨L++[f],by simp,by simp;omega,fun y hy=>by rcases qzq.1 hy with hy|hy;exact l0 y hy;rw[qzy.1 hy];exact hf,?_⟩;have e:(L++[f]).length=L.length+1:=by simp
  rw[e,show ints (L++[f])=ints L++[Value.int .i64 f] by simp[ints]];exact hs3
 obtain⟨hP,hU⟩:=h1.put hix (qXw M) hu3 hel hbf;have hLm:L.length=m+1:=by obtain⟨ao,cc,e⟩:=hs.rd.nil_iff;rw[hxe]at e;injection e with _ e2 _;exact e2.symm
 obtain⟨ao3,cap3,hv3⟩:=hs3.rd.nil_iff;have hpn:p≠g:=fun e=>(h.bo g rfl).2 e.symm;rw[hxe]at hrun hu3;have d0:w1.cell? ⟨p,0,none⟩=some (.slice (some ⟨g,off,none⟩) N cap):=u1.cellv c0 (fun h=>h);have d1:w1.cell? ⟨g,off+i,none⟩=some (.slice (some ⟨b,o,none⟩) (m+1) c):=u1.cellv c1 (fun h=>h);have e0:w3.cell? ⟨p,0,none⟩=some (.slice (some ⟨g,off,none⟩) N cap):=hu3.cellv d0 (fun e=>(h.bx _ (qyz hix) p (by rw[hxe];exact e)).2.1 rfl);have e1:w3.cell? ⟨g,off+i,none⟩=some (.slice (some ⟨b,o,none⟩) (m+1) c):=hu3.cellv d1 (fun e=>(h.bx _ (qyz hix) g (by rw[hxe];exact e)).2.2 rfl);have z1:w.drew.heap.size=w.heap.size:=rfl;have HR:=Y4 hP hU u1 hw1;have f0:(w3.setCell ⟨g,off+i,none⟩ v').cell? ⟨p,0,none⟩=some (.slice (some ⟨g,off,none⟩) N cap):=zq e0 (fun e=>hpn e.symm);have fz:=(show w3.frozen? ⟨g,off+i,none⟩=false by
  obtain⟨hl,⟨e,-⟩|⟨g',off',cap',cur,e,hg,-⟩⟩:=h1.o
  .cases e
  .cases e;exact zf ((hu3.block g (zd hg) (fun e=>(h.bx _ (qyz hix) g (by rw[hxe];exact e)).2.2 rfl)).trans hg) _)
 subst hv3;rw[hLm]at f0 HR hrun;clear hP hU u1 h1 hs hs3 hu3 hbf hel hrd hii hz0 hz1 hz2 h hx hxe l1 l2 hm hpn hLm hw1;go_enter Tryz.func92,Tryz.ntmps92
 refine qZj (S:=fun W=>W.cell? ⟨p,0,none⟩=some (.slice (some ⟨g,off,none⟩) N cap)) (by kernel_rfl) (by rw[qYo];exact c0) (fun hHeld=>?_);refine Wl.i [0,1,2,3,4,5,6,7,8,9,10,12] ?_;iterate 12 refine Wl.t hHeld ?_
 refine Wl.o ?_;have c1d:w.drew.cell? ⟨g,off+i,none⟩=some (.slice (some ⟨b,o,none⟩) (m+1) c):=by rw[qYo];exact c1
 refine qZe (rs:=[11,13]) (by kernel_rfl) (by simp) ?_;refine qxb rfl (fun K hK=>?_) (qxb rfl (fun K hK=>?_) qxc)
 .go_simp
  refine hK.o _ _ hHeld (fun _=>?_);clear hK K;refine Wl.r 13 (fun K hK=>?_);go_simp
  show K _ (w.drew.alloc (.cells [Value.int .i64 f].toArray 3));rw[<-HR.o.2.2.2];refine hK.o _ _ d0 (fun _=>?_);clear hK K;refine Wl.r 14 (fun K hK=>?_);refine zJ rfl _ _ _ rfl rfl rfl hrun ?_;refine hK.o _ _ e0 (fun _=>?_);clear hK K;refine Wl.i [15] (Wl.t e0 (Wl.o ?_));refine Wl.r 16 (fun K hK=>?_);go_simp
  refine hK.o _ _ f0 (fun _=>?_);clear hK K;refine Wl.d ?_;refine qYw (qZc rfl _ _ _) rfl ?_;obtain⟨hP,hU,u1,-⟩:=HR.o;have hw:∀j,(B j\/w1.heap.size<=j)->(B j\/w.heap.size<=j):=fun j hj=>hj.imp (fun h=>h) (fun h=>qXx u1.size h);exact⟨rfl,_,_,hP.wide hw,(u1.mono (fun _ _ h=>h.elim)).trans (hU.mono (fun j _ h=>hw j h))⟩
 .go_simp
  show K _ (w.drew.alloc (.cells [Value.int .i64 f].toArray 3));rw[<-HR.o.2.2.2];refine hK.o _ _ d0 (fun _=>?_);clear hK K;refine Wl.r 11 (fun K hK=>?_);go_simp
  refine hK.o _ _ d0 (fun _=>?_);clear hK K;refine Wl.r 14 (fun K hK=>?_);refine zJ rfl _ _ _ rfl rfl rfl hrun ?_;refine hK.o _ _ e0 (fun _=>?_);clear hK K;refine Wl.i [15] (Wl.t e0 (Wl.o ?_));refine Wl.r 16 (fun K hK=>?_);go_simp
  refine hK.o _ _ f0 (fun _=>?_);clear hK K;refine Wl.d ?_;refine qYw (qZc rfl _ _ _) rfl ?_;obtain⟨hP,hU,u1,-⟩:=HR.o;have hw:∀j,(B j\/w1.heap.size<=j)->(B j\/w.heap.size<=j):=fun j hj=>hj.imp (fun h=>h) (fun h=>qXx u1.size h);exact⟨rfl,_,_,hP.wide hw,(u1.mono (fun _ _ h=>h.elim)).trans (hU.mono (fun j _ h=>hw j h))⟩
theorem Pst.app{B:Nat->Prop}{w:World}{p N M:Nat}{vo:Value}{xs:List Value}(h:Pst B w p N M vo xs)(hM:M<=100000){i:Nat}(hi:i<N)(news:List Int)(hn:news.length<=100)(hb:∀x∈news,0<=x/\x<=255):
  ∃g off cap b o m c ao3 cap3 w3,vo=.slice (some ⟨g,off,none⟩) N cap/\w.cell? ⟨p,0,none⟩=some (.slice (some ⟨g,off,none⟩) N cap)/\w.cell? ⟨g,off+i,none⟩=some (.slice (some ⟨b,o,none⟩) (m+1) c)/\
   (Builtin.append_ #[87,87] 87 #[.slice (some ⟨b,o,none⟩) (m+1) c,.slice (some ⟨w.drew.heap.size,0,none⟩) news.length news.length]).run Tryz.prog (w.drew.alloc (.cells (ints news).toArray 3))=.ok (.slice ao3 (m+1+news.length) cap3) w3/\
   w3.cell? ⟨p,0,none⟩=some (.slice (some ⟨g,off,none⟩) N cap)/\w3.cell? ⟨g,off+i,none⟩=some (.slice (some ⟨b,o,none⟩) (m+1) c)/\w3.frozen? ⟨g,off+i,none⟩=false/\p≠g/\
   ∃xs',Pst (fun j=>B j\/w.heap.size<=j) (w3.setCell ⟨g,off+i,none⟩ (.slice ao3 (m+1+news.length) cap3)) p N (M+news.length) vo xs'/\Upd (fun j=>B j\/w.heap.size<=j) w (w3.setCell ⟨g,off+i,none⟩ (.slice ao3 (m+1+news.length) cap3)):=by
 obtain⟨g,off,cap,b,o,m,c,x,rfl,c1,c2,⟨hm,-⟩,hx⟩:=h.look hi;have c0:=za h.str 0;simp only[qyv,qyl]at c0;have hix:i<xs.length:=by rw[h.len];exact hi
 obtain⟨w1,hw1⟩:=qqe (w.drew.alloc (.cells (ints news).toArray 3));have u1:Upd (fun _=>False) w w1:=by rw[hw1];exact((uur _ w).drew).alloc _
 have h1:=h.keep u1 (fun _ _ h=>h);obtain⟨L,l1,l2,l0,hs⟩:=h1.els _ (qyz hix);have hxe:xs[i]=.slice (some ⟨b,o,none⟩) (m+1) c:=by rw[qyn hix]at hx;exact qYj hx
 have hrd:Rd w1 1 (.slice (some ⟨w.drew.heap.size,0,none⟩) news.length news.length) news.length (ints news):=by rw[hw1];exact Rd.fresh w.drew (ints news) 3 news.length (by simp[ints]) (by unfold maxLen;omega)
 obtain⟨ii,hii,hz0,hz1,hz2⟩:=qZa Qd;obtain⟨v',w3,hrun,hs3,hu3,hbf⟩:=yj 87 87 ii (.int .i64 0) 8 Tryz.underlying87 hii hz0 hz1 hz2 rfl (by decide) hs hrd (fun u hu=>by simp only[ints,qzv]at hu;obtain⟨a,-,rfl⟩:=hu;rfl) (by unfold maxLen;omega) (by omega);have hel:PsEl w3 (M+news.length) v':=by
  refine⟨L++news,by simp;omega,by simp;omega,fun y hy=>by rcases qzq.1 hy with hy|hy;exact l0 y hy;exact hb y hy,?_⟩;have e:(L++news).length=L.length+news.length:=by simp
  rw[e,show ints (L++news)=ints L++ints news by simp[ints]];exact hs3
 obtain⟨hP,hU⟩:=h1.put hix (qXu M news.length) hu3 hel hbf;have hLm:L.length=m+1:=by obtain⟨ao,cc,e⟩:=hs.rd.nil_iff;rw[hxe]at e;injection e with _ e2 _;exact e2.symm
 obtain⟨ao3,cap3,hv3⟩:=hs3.rd.nil_iff;subst hv3;rw[hLm]at hrun hP hU;rw[hxe]at hrun hu3;have hw:∀j,(B j\/w1.heap.size<=j)->(B j\/w.heap.size<=j):=fun j hj=>hj.imp (fun h=>h) (fun h=>qXx u1.size h);refine⟨g,off,cap,b,o,m,c,ao3,cap3,w3,rfl,c0,c1,by rw[<-hw1];exact hrun,?_,?_,?_,fun e=>(h.bo g rfl).2 e.symm,_,hP.wide hw,(u1.mono (fun _ _ h=>h.elim)).trans (hU.mono (fun j _ h=>hw j h))⟩
 .exact hu3.cellv (u1.cellv c0 (fun h=>h)) (fun e=>(h.bx _ (qyz hix) p (by rw[hxe];exact e)).2.1 rfl)
 .exact hu3.cellv (u1.cellv c1 (fun h=>h)) (fun e=>(h.bx _ (qyz hix) g (by rw[hxe];exact e)).2.2 rfl)
 .obtain ⟨hl,⟨e,-⟩|⟨g',off',cap',cur,e,hg,-⟩⟩:=h1.o
  .cases e
  .cases e;exact zf ((hu3.block g (zd hg) (fun e=>(h.bx _ (qyz hix) g (by rw[hxe];exact e)).2.2 rfl)).trans hg) _
theorem qC{B:Nat->Prop}{w:World}{p N M:Nat}{vo:Value}{xs:List Value}(h:Pst B w p N M vo xs)(hM:M<=100000){i:Nat}(hi:i<N)(f:Int)(hf:0<=f/\f<=255):
  Calls Tryz.prog 93 #[.pointer (some ⟨p,0,none⟩),.int .i64 (i:Int),.int .i64 f] w (Qf B w p N (M+2) (.tuple #[])):=by
 have HN:=Y2 (qA h hM hi) h;have hNm:=h.o.le;have k1:(i:Int)<(N:Int):=by omega
 have i0:(0:Int)<=(i:Int):=by omega
 clear h;go_enter Tryz.func93,Tryz.ntmps93
 go_wp2_with fail
 refine HN.o.1.mono ?_;rintro e w0 ⟨y,hy,rfl,hu0⟩;obtain⟨g,off,cap,b,o,m,c,ao3,cap3,w3,rfl,c0,c1,hrun,e0,e1,fz,hpg,xs',hP,hU⟩:=(HN.o.2.keep hu0 (fun _ _ h=>h)).app hM hi [f,y] (by simp) (fun x hx=>by simp only[qzr,qXd,qZb]at hx;rcases hx with rfl|rfl;exact hf;exact hy);obtain⟨w1,hw1⟩:=qqe (w0.drew.alloc (.cells [Value.int .i64 f,Value.int .i64 y].toArray 3));have hrun':(Builtin.append_ #[87,87] 87 #[.slice (some ⟨b,o,none⟩) (m+1) c,.slice (some ⟨w0.drew.heap.size,0,none⟩) 2 2]).run Tryz.prog w1=.ok (.slice ao3 (m+1+2) cap3) w3:=by rw[hw1];exact hrun
 have d0:w1.cell? ⟨p,0,none⟩=some (.slice (some ⟨g,off,none⟩) N cap):=by rw[hw1];exact zm (by rw[qYo];exact c0) _
 have d1:w1.cell? ⟨g,off+i,none⟩=some (.slice (some ⟨b,o,none⟩) (m+1) c):=by rw[hw1];exact zm (by rw[qYo];exact c1) _
 have f0:(w3.setCell ⟨g,off+i,none⟩ (.slice ao3 (m+1+2) cap3)).cell? ⟨p,0,none⟩=some (.slice (some ⟨g,off,none⟩) N cap):=zq e0 (fun e=>hpg e.symm);have c1d:w0.drew.cell? ⟨g,off+i,none⟩=some (.slice (some ⟨b,o,none⟩) (m+1) c):=by rw[qYo];exact c1
 have HR:=Y4 hP hU hu0 hw1;clear hP hU hu0 hw1 hrun hpg HN;go_wp2_with fail
 refine qZj (S:=fun W=>W.cell? ⟨p,0,none⟩=some (.slice (some ⟨g,off,none⟩) N cap)) (by kernel_rfl) (by rw[qYo];exact c0) (fun hHeld=>?_);refine Wl.i [0,1,2,3,4,5,6,7,8,9,10,12,13] ?_;iterate 13 refine Wl.t hHeld ?_
 refine Wl.o ?_;refine qZe (rs:=[11,14]) (by kernel_rfl) (by simp) ?_;refine qxb rfl (fun K hK=>?_) (qxb rfl (fun K hK=>?_) qxc)
 .go_simp
  refine hK.o _ _ hHeld (fun _=>?_);clear hK K;refine Wl.r 14 (fun K hK=>?_);go_simp
  show K _ (w0.drew.alloc (.cells [Value.int .i64 f,Value.int .i64 y].toArray 3));rw[<-HR.o.2.2.2];refine hK.o _ _ d0 (fun _=>?_);clear hK K;refine Wl.r 15 (fun K hK=>?_);refine zJ rfl _ _ _ rfl rfl rfl hrun' ?_;refine hK.o _ _ e0 (fun _=>?_);clear hK K;refine Wl.i [16] (Wl.t e0 (Wl.o ?_));refine Wl.r 17 (fun K hK=>?_);go_simp
  refine hK.o _ _ f0 (fun _=>?_);clear hK K;refine Wl.d ?_;refine qYw (qZc rfl _ _ _) rfl ?_;obtain⟨hP,hU,u0,-⟩:=HR.o;have hw:∀j,(B j\/w0.heap.size<=j)->(B j\/w.heap.size<=j):=fun j hj=>hj.imp (fun h=>h) (fun h=>qXx u0.size h);exact⟨rfl,_,_,hP.wide hw,(u0.mono (fun _ _ h=>h.elim)).trans (hU.mono (fun j _ h=>hw j h))⟩
 .go_simp
  show K _ (w0.drew.alloc (.cells [Value.int .i64 f,Value.int .i64 y].toArray 3));rw[<-HR.o.2.2.2];refine hK.o _ _ d0 (fun _=>?_);clear hK K;refine Wl.r 11 (fun K hK=>?_);go_simp
  refine hK.o _ _ d0 (fun _=>?_);clear hK K;refine Wl.r 15 (fun K hK=>?_);refine zJ rfl _ _ _ rfl rfl rfl hrun' ?_;refine hK.o _ _ e0 (fun _=>?_);clear hK K;refine Wl.i [16] (Wl.t e0 (Wl.o ?_));refine Wl.r 17 (fun K hK=>?_);go_simp
  refine hK.o _ _ f0 (fun _=>?_);clear hK K;refine Wl.d ?_;refine qYw (qZc rfl _ _ _) rfl ?_;obtain⟨hP,hU,u0,-⟩:=HR.o;have hw:∀j,(B j\/w0.heap.size<=j)->(B j\/w.heap.size<=j):=fun j hj=>hj.imp (fun h=>h) (fun h=>qXx u0.size h);exact⟨rfl,_,_,hP.wide hw,(u0.mono (fun _ _ h=>h.elim)).trans (hU.mono (fun j _ h=>hw j h))⟩
theorem tc{B:Nat->Prop}{w:World}{p N M:Nat}{vo:Value}{xs:List Value}(h:Pst B w p N M vo xs)(hM:M<=100000)(hM1:1<=M):
  Calls Tryz.prog 94 #[.pointer (some ⟨p,0,none⟩)] w (Qf B w p N M (.tuple #[])):=by
 have HN:=qqh h;have hNm:=h.o.le;obtain⟨ao,cap,rfl⟩:=h.o.rd.nil_iff;clear h;go_enter Tryz.func94,Tryz.ntmps94
 go_wp2_with fail
 go_loopg[2] N (fun gk s2 wr=>∃(i:Nat) (xs':List Value),i+gk=N/\s2=.int .i64 (i:Int)/\Pst (fun j=>B j\/w.heap.size<=j) wr p N M (.slice ao N cap) xs'/\Upd (fun j=>B j\/w.heap.size<=j) w wr)
 case atStart=>exact⟨0,xs,by omega,rfl,HN.o.wide (fun j h=> .inl h),uur _ _⟩
 case round=>
  obtain⟨i,xs',hi,rfl,hP,hU⟩:=hrel;have c0:=za hP.str 0;simp only[qyv,qyl]at c0;by_cases hlt:i<N
  .have k1:(i:Int)<(N:Int):=by omega
   have i0:(0:Int)<=(i:Int):=by omega
   obtain⟨g,off,cap',b,o,m,c,x,e,c1,-,-,hx⟩:=hP.look hlt;cases e;have HP:=Y2 hP hU;have hix:i<xs'.length:=by rw[hP.len];exact hlt
   clear hP hU;go_wp2_with fail
   refine qZj (S:=fun W=>W.cell? ⟨p,0,none⟩=some (.slice (some ⟨g,off,none⟩) N cap)) (by kernel_rfl) (by rw[qYo];exact c0) (fun hHeld=>?_);refine Wl.i [0,1,2,3,4,5,6] ?_;iterate 7 refine Wl.t hHeld ?_
   refine Wl.o ?_;refine Wl.r 7 (fun K hK=>?_);go_simp
   have ud:Upd (fun _=>False) wr wr.drew:=(uur _ wr).drew;refine(qA (HP.o.1.keep ud (fun _ _ h=>h)) hM hlt).mono ?_;rintro e w0 ⟨y,hy,rfl,hu0⟩;obtain⟨w1,hw1⟩:=qqe (w0.alloc (.cells #[.int .i64 y] 3));have u1:Upd (fun _=>False) w0 w1:=by rw[hw1];exact(uur _ w0).alloc _
   have U1:=(ud.trans hu0).trans u1;have z1:wr.heap.size<=w0.heap.size:=(ud.trans hu0).size;have d0:=hu0.cellv hHeld (fun h=>h);have d1:=u1.cellv d0 (fun h=>h);have hP1:=HP.o.1.keep (ud.trans hu0) (fun _ _ h=>h);have hel:PsEl w1 M (.slice (some ⟨w0.heap.size,0,none⟩) 1 1):=by rw[hw1];exact WO w0 y hy M hM1
   obtain⟨hP2,hU2⟩:=hP1.put hix (qXv M) (u1.mono (fun _ _ h=>h.elim)) hel (.inr ⟨w0.heap.size,rfl,qXv _⟩);have hpg:p≠g:=fun e=>(hP1.bo g rfl).2 e.symm;have f0:(w1.setCell ⟨g,off+i,none⟩ (.slice (some ⟨w0.heap.size,0,none⟩) 1 1)).cell? ⟨p,0,none⟩=some (.slice (some ⟨g,off,none⟩) N cap):=zq d1 (fun e=>hpg e.symm);have c1':w1.cell? ⟨g,off+i,none⟩=some (.slice (some ⟨b,o,none⟩) (m+1) c):=U1.cellv c1 (fun h=>h);have fz:w1.frozen? ⟨g,off+i,none⟩=false:=by
    obtain⟨hl,⟨e,-⟩|⟨g',off',cap',cur,e,hg,-⟩⟩:=(hP1.keep u1 (fun _ _ h=>h)).o
    .cases e
    .cases e;exact zf hg _
   have H2:=Y4 hP2 hU2 (ud.trans hu0) hw1;refine hK.o _ _ d0 (fun _=>?_);clear hK K hHeld ud hu0 u1 U1 hP1 hel hP2 hU2 hpg hw1;refine Wl.r 8 (fun K hK=>?_);go_simp
   show K _ (w0.alloc (.cells #[.int .i64 y] 3));rw[<-H2.o.2.2.2];refine hK.o _ _ d1 (fun _=>?_);clear hK K;refine Wl.i [9] (Wl.t d1 (Wl.o ?_));refine Wl.r 10 (fun K hK=>?_);go_simp
   refine hK.o _ _ f0 (fun _=>?_);clear hK K;refine Wl.d ?_;clear c0 c1 d0 d1 c1' fz f0;go_wp2_with fail
   go_roundg (gk-1)
   case measure=>omega
   case rel=>
    obtain⟨hP2,hU2,u02,-⟩:=H2.o;have hz:=HP.o.2.size;have ib:(i:Int)<9223372036854775807:=by unfold maxLen at hNm;omega
    have hw:∀j,((B j\/w.heap.size<=j)\/w0.heap.size<=j)->(B j\/w.heap.size<=j):=fun j hj=>hj.elim (fun h=>h) (fun h=> .inr (by omega));have hwr:wrap64 ((i:Int)+1)=(i:Int)+1:=IntWalk.wrap64_in _ (by omega);exact⟨i+1,_,by omega,by rw[hwr];simp,hP2.wide hw,(HP.o.2.trans (u02.mono (fun _ _ h=>h.elim))).trans (hU2.mono (fun j _ h=>hw j h))⟩
  .have k1:¬((i:Int)<(N:Int)):=by omega
   have HE:=Y2 hP hU;clear hP hU;go_wp2_with fail
   refine qYw (qZc rfl _ _ _) rfl ?_;exact⟨rfl,_,_,HE.o.1,HE.o.2⟩
theorem Qg(w:World):(sizeOf 5).run Tryz.prog w=.ok 1 w:=by
 obtain⟨i,hi,hs⟩:=qYi.1 (show(Tryz.prog.info? 5).map (·.size)=some 1 by kernel_rfl);simp[sizeOf,typeInfo,hi,hs]
theorem run_eql_bk(x y:Bk)(hx:x.length=64)(hy:y.length=64)(w:World):(binOp .eql 54 (.agg (bkC x).toArray) (.agg (bkC y).toArray)).run Tryz.prog w=.ok (.bool (x==y)) w:=
 run_eql_bytes w 54 5 64 Tryz.underlying54 Tryz.underlying5 Qg x y hx hy
theorem XK(x y:Bk)(hx:x.length=64)(hy:y.length=64)(w:World):(binOp .neq 54 (.agg (bkC x).toArray) (.agg (bkC y).toArray)).run Tryz.prog w=.ok (.bool (!(x==y))) w:=by
 have e:(Op.equalIn 10000 54 (.agg (bkC x).toArray) (.agg (bkC y).toArray)).run Tryz.prog w=.ok (x==y) w:=run_equalIn_bytes w 9998 54 5 64 Tryz.underlying54 Tryz.underlying5 Qg x y hx hy;rw[run_neq_struct,e];rfl
theorem Ee:(Tryz.prog.info? 3).map (fun i=>(i.zero.map (·.cells.size),i.size,i.bytes))=some (some 1,1,8):=by kernel_rfl
theorem Ui(P:List Int):∀u∈ints P,u.oneCell'=true:=by
 intro u hu;simp only[ints,qzv]at hu;obtain⟨x,-,rfl⟩:=hu;rfl
end Go.Proofs.YtfhfbpmlnjdfoaaGreatDoor
