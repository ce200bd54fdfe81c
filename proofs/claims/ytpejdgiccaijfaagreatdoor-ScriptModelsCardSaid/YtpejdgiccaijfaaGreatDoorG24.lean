/- See GetG2. The -/
import Derived.Test.YtpejdgiccaijfaaGreatDoorG19
set_option maxRecDepth 100000
set_option maxHeartbeats 4000000
namespace Go.Proofs.YtpejdgiccaijfaaGreatDoor
open Go Go.RowKit Tryz
def Sg(n k:Nat)(b:Bk):Bool:=okR b&&(decide (((numsR b).getD 0 0-1)%n=k)&&decide ((numsR b).getD 1 0=((numsR b).getD 0 0-1)/n))
def scL(n k:Nat)(b:Bk):List (List Nat):=if Sg n k b then[numsR b]else[]
def scanTo(F:List Bk)(O:List (Nat×Bk))(base n:Nat):Nat->List (List Nat)
 |0=>[]
 |k+1=>scanTo F O base n k++scL n k (curB F O (base+k))
def recCs(r:List Nat):List Value:=dsR (natsI r)
theorem xY(F:List Bk)(O:List (Nat×Bk))(base n:Nat):∀k,(scanTo F O base n k).length<=k
 |0=>qXo _
 |k+1=>by
  have:=xY F O base n k;rw[scanTo,qyy];unfold scL;split<;>simp<;>omega
theorem rk{b:Bk}(h:okR b=true):1<=(numsR b).getD 0 0/\(numsR b).getD 0 0<=1099511627776/\(numsR b).getD 1 0<=1099511627776/\(numsR b).getD 2 0<=1/\(numsR b).getD 3 0<=4095/\(numsR b).getD 4 0<=1023/\(numsR b).getD 5 0<=1/\(numsR b).getD 6 0<=4294967295:=by
 unfold okR okGet at h;simp only[qxo]at h;have hm:=h.2.2.2;unfold mayR at hm;rw[qxo]at hm;have hl:(natsI (numsR b)).length=7:=by simp[natsI,numsR,zP,QI]
 have hw:=hm.1;have e:∀i (hi:i<(natsI (numsR b)).length),(natsI (numsR b))[i]=((numsR b).getD i 0:Nat):=fun i hi=>by
  simp only[natsI,qyt];rw[qyf,qyj (by simpa[natsI]using hi)];rfl
 have w0:=zE hw (i:=0) de oM;have w1:=zE hw (i:=1) de oM;have w2:=zE hw (i:=2) de oM;have w3:=zE hw (i:=3) de oM;have w4:=zE hw (i:=4) de oM;have w5:=zE hw (i:=5) de oM;have w6:=zE hw (i:=6) de oM;rw[e]at w0 w1 w2 w3 w4 w5 w6;simp only[bndR,qys,qyr]at w0 w1 w2 w3 w4 w5 w6;omega
theorem zaS{b:Bk}(h:okR b=false):¬cdR b=0:=by
 unfold okR at h;unfold cdR xg;rw[h];split
 .next h=>cases h
 .split<;>decide
theorem zaT{b:Bk}(h:okR b=true):cdR b=0:=by
 unfold okR at h;unfold cdR xg;rw[h];rfl
theorem yG(ns:List Nat)(i:Nat):(natsI ns).getD i 0=(ns.getD i 0:Nat):=by
 simp only[natsI,qyf,qym];cases ns[i]?<;>rfl
theorem Ui:∃i z,prog.info? 307=some i/\i.zero=some z/\z.cells.size=7/\i.size=7/\i.bytes=56:=by
 have h:(prog.info? 307).map (fun i=>(i.zero.map (·.cells.size),i.size,i.bytes))=some (some 7,7,56):=kR;obtain⟨i,hi,he⟩:=qYb.1 h;simp only[qYd]at he;obtain⟨z,hz,hz2⟩:=qYb.1 he.1;exact⟨i,z,hi,hz,hz2,he.2.1,he.2.2⟩
def ScI(D:Nat->Prop)(w0:World)(b p4:Nat)(F:List Bk)(O:List (Nat×Bk))(L:List (List Nat))(W:World):Prop:=
 Upd (fun j=>D j\/j=p4) w0 W/\∃v S1,W.heap[p4]?=some (.cells #[v] 215 (0,0))/\Sl W 307 7 v L.length (L.flatMap recCs)/\From w0.heap.size v/\
  Dv S1 W b F O []/\(∀j,S1 j->D j)/\(∀j,S1 j->j<W.heap.size)/\∀g,v.ownBlock=some g->¬S1 g
theorem ScI.new{D:Nat->Prop}{w0 W W':World}{b p4:Nat}{F:List Bk}{O:List (Nat×Bk)}{L:List (List Nat)}(h:ScI D w0 b p4 F O L W)(hu:Upd (fun _=>False) W W'):ScI D w0 b p4 F O L W':=by
 obtain⟨h1,v,S1,h2,h3,h4,h5,h6,h7,h8⟩:=h;exact⟨h1.trans (hu.mono fE),v,S1,hu.jT h2,h3.keep hu (fun _ _ h=>h),h4,h5.keep hu (fun _ _ h=>h),h6,fun j hj=>qXr (h7 j hj) hu.size,h8⟩
theorem zcO{D:Nat->Prop}{w0 W:World}{b p1 p2 p3 p4:Nat}{F:List Bk}{O:List (Nat×Bk)}{base n k:Nat}{L:List (List Nat)}(h:ScI D w0 b p4 F O L W)(hD:∀j,w0.heap.size<=j->D j)(h4:p4<w0.heap.size/\¬D p4)
  (h1:w0.cell? ⟨p1,0,none⟩=some (.pointer (some ⟨b,0,none⟩))/\¬D p1/\p1≠p4) (h2:w0.cell? ⟨p2,0,none⟩=some (.int .i64 (n:Int))/\¬D p2/\p2≠p4) (h3:w0.cell? ⟨p3,0,none⟩=some (.int .i64 (base:Int))/\¬D p3/\p3≠p4)
  (hk:k<n) (hn:n<=1024) (hbn:base+n<=F.length) (hL:L.length<=1024) (hN:Nib w0) (hND:¬D 0/\0≠p4):
  Calls prog 203 #[.int .i64 ((base:Int)+(k:Int)),.pointer (some ⟨p1,0,none⟩),.pointer (some ⟨p2,0,none⟩),.pointer (some ⟨p3,0,none⟩),.pointer (some ⟨p4,0,none⟩)] W fun e W'=>
   e=.returned (.int .i64 0)/\ScI D w0 b p4 F O (L++scL n k (curB F O (base+k))) W':=by
 obtain⟨hu,v,S1,hcell,hsl,hf,hd,hs1,hs2,hs3⟩:=h;have hfl:=hd.good.fl;have c1:W.cell? ⟨p1,0,none⟩=some (.pointer (some ⟨b,0,none⟩)):=hu.jS h1.1 (fun h=>h.elim h1.2.1 h1.2.2);have hNW:Nib W:=hN.keep hu (fun h=>h.elim hND.1 hND.2);have HR:=qqh (vM (S:=fun j=>S1 j\/W.heap.size<=j) (hd.wide (fun _ h=> .inl h)) (fun _ h=> .inr h) (base+k) oM);rw[show((base+k:Nat):Int)=(base:Int)+(k:Int) by simp]at HR;have H:=Y14 hu hcell hsl hf hd hs1 hs2 hs3 hNW hD h4 h1 h2 h3;clear hu hcell hsl hf hd hs1 hs2 hs3 hNW hD h4 h1 h2 h3 hN;go_enter func203,ntmps203
 go_wp2_with fail
 refine HR.o.mono ?_;rintro e W2 ⟨y,cd,rfl,hy,hcd,hyl,hd2,hu2⟩;have hcd0:cd=0:=by rw[hcd];rfl
 have hyc:y=curB F O (base+k):=by rw[hy];rfl
 subst hcd0;obtain⟨W3,hW3⟩:=qqe (W2.alloc (.cells (bkC y).toArray 60));have hu3:=qqu hW3;have g3:=qqg hW3;have r3:=zg g3;obtain⟨q,hq⟩:=qqe (W2.heap.size);rw[<-hq]at r3;have hy64:(bkC y).length=64:=by rw[zm,hyl]
 have hsz:=zq y hyl;have hw3:W.heap.size<=W3.heap.size:=qXq hu2.size hu3.size;have hNib3:Nib W3:=(H.o.2.2.2.2.2.2.2.2.1.keep hu2 (fun h=>by
  rcases h with h|h
  .exact hND.1 (H.o.2.2.2.2.2.1 _ h)
  .have:=H.o.2.2.2.2.2.2.2.2.1.lt;omega)).keep hu3 id
 have HG:=qqh (RL hNib3 y hyl);have HW3:=Y2 hW3 hq;have H2:=Y5 hd2 hu2 hu3 hyc hw3;clear hd2 hu2 hu3 hyc hw3 hW3 hq g3 hNib3 hy hcd;go_upto_region 4 with(first
  |(refine zk rfl _ _ _ rfl _ _ (bkC y) rfl rfl (by rw[hy64];rfl) hsz (zu y) ?_)
  |fail)
 rw[<-HW3.o.1,<-HW3.o.2];go_wp2_with (first
  |(refine qYy rfl _ _ rfl _ _ rfl _ _ r3 underlying60 rfl hsz ?_)
  |fail)
 refine HG.o.mono ?_;rintro e W4 ⟨⟨rs,hr1,hr2,rfl⟩,hb4⟩;have hrl:rs.length=7/\∀v∈rs,v.oneCell'=true:=by
  cases hk:okR y with
  |true=>rw[hr1 hk];exact⟨tW _,wu _⟩
  |false=>rw[hr2 hk];exact⟨rfl,qxv.1 (by simp[tJ,Value.oneCell']:tJ.all (·.oneCell')=true)⟩
 obtain⟨W5,hW5⟩:=qqe (W4.alloc (.cells rs.toArray 307));have hu5:Upd (fun _=>False) W3 W5:=by rw[hW5];exact(uuo hb4).alloc _
 have g5:=qqg hW5;obtain⟨M,hM⟩:=qqe (W4.heap.size);rw[<-hM]at g5;have hz5:W5.heap.size=M+1:=by rw[hW5,hM];simp
 have HW5:=Y3 hW5 hM hrl;obtain⟨hd2,hu2,hu3,hyc,hw3⟩:=H2.o;obtain⟨hu,hcell,hsl,hf,hd,hs1,hs2,hs3,hNW,hD,h4,h1,h2,h3⟩:=H.o;have hU25:Upd (fun _=>False) W2 W5:=hu3.trans hu5;have hlW:=hu.size;have hS4:¬(S1 p4\/W.heap.size<=p4):=fun h=>h.elim (fun h=>h4.2 (hs1 _ h)) (fun h=>oM);have hcell5:=hU25.jT ((hu2.block p4 (zd hcell) hS4).trans hcell);have hsl5:=(hsl.keep hu2 (fun g hg h=>h.elim (hs3 g hg) (fun h=>by have:=hsl.lt hg;omega))).keep hU25 (fun _ _ h=>h);have hU5:Upd (fun j=>D j\/j=p4) w0 W5:=(hu.trans (hu2.mono (fun j _ h=> .inl (h.elim (hs1 j) (fun h=>hD j oM))))).trans (hU25.mono fE);have hd5:∃S2,Dv S2 W5 b F O []/\(∀j,S2 j->D j)/\(∀j,S2 j->j<W5.heap.size/\j≠M)/\∀g,v.ownBlock=some g->¬S2 g:=by
  refine⟨fun j=>(S1 j\/W.heap.size<=j)/\j<W2.heap.size,(hd2.ku (fun j h1 h2=>⟨h1,h2⟩)).keep hU25 (fun _ _ h=>h),fun j hj=>hj.1.elim (hs1 j) (fun h=>hD j oM),fun j hj=>?_,fun g hg hs=>hs.1.elim (hs3 g hg) (fun h=>by have:=hsl.lt hg;omega)⟩;have:=hU25.size;have:=hu3.size;have:=hb4.size;exact⟨oM,oM⟩
 obtain⟨S2,d5,e1,e2,e3⟩:=hd5;have no5:ScI D w0 b p4 F O L W5:=⟨hU5,v,S2,hcell5,hsl5,hf,d5,e1,fun j hj=>(e2 j hj).1,e3⟩
 have l2:W5.cell? ⟨p2,0,none⟩=some (.int .i64 (n:Int)):=hU5.jS h2.1 (fun h=>h.elim h2.2.1 h2.2.2);have l3:W5.cell? ⟨p3,0,none⟩=some (.int .i64 (base:Int)):=hU5.jS h3.1 (fun h=>h.elim h3.2.1 h3.2.2);have l4:=za hcell5 0;have f4:=zf hcell5 0;have lp2:=qYg W5 _ l2;have lp3:=qYg W5 _ l3;have lp4:=zd hcell5;have HB:=Y11 no5 hcell5 hsl5 hU5 d5 e1 e2 e3 hf hlW h4;have hyc':=qqh hyc;clear hd2 hu2 hu3 hyc hw3 hu hcell hsl hf hd hs1 hs2 hs3 hNW hD h4 h1 h2 h3 hU25 hlW hS4 hcell5 hsl5 hU5 d5 e1 e2 e3 no5 hu5 hb4 hW5 hM r3 c1;go_upto_region 5 with(first
  |(refine zk rfl _ _ _ rfl _ _ rs rfl rfl (by rw[HW5.o.2.2.1];rfl) (by rw[HW5.o.2.2.1];exact infoThR) HW5.o.2.2.2 ?_)
  |fail)
 rw[<-HW5.o.1,<-HW5.o.2.1];cases hok:okR y with
 |false=>
  have q1:=zaS hok;have hsc:scL n k (curB F O (base+k))=[]:=by rw[<-hyc'.out];unfold scL Sg;rw[hok];rfl
  have HS:=qqh hsc;generalize cdR y=cdd at*;have q2:(cdd==0)=false:=by simpa using q1
  clear hok hsc hr1 hr2 g5
  go_quiet(fail)
  go_wp2_with fail
  go_ret
  refine⟨rfl,?_⟩;rw[HS.o,qxx];exact HB.o.1.new ((uur (fun _=>False) W5).drewN nq)
 |true=>
  rw[zaT hok];obtain⟨b1,b2,b3,-⟩:=rk hok;rw[hr1 hok]at g5 hrl;have m0:W5.cell? ⟨M,0,none⟩=some (.int .i64 ((numsR y).getD 0 0:Nat)):=by rw[za g5 0];show some (Value.int .i64 ((natsI (numsR y)).getD 0 0))=_;rw[yG]
  have m1:W5.cell? ⟨M,1,none⟩=some (.int .i64 ((numsR y).getD 1 0:Nat)):=by rw[za g5 1];show some (Value.int .i64 ((natsI (numsR y)).getD 1 0))=_;rw[yG]
  have hsc:scL n k (curB F O (base+k))=if decide (((numsR y).getD 0 0-1)%n=k)&&decide ((numsR y).getD 1 0=((numsR y).getD 0 0-1)/n)then[numsR y]else[]:=by rw[<-hyc'.out];unfold scL Sg;rw[hok];rfl
  have HS:=qqh hsc;have rM:=zg g5;have hrr:rs=recCs (numsR y):=hr1 hok;have HRR:=Y2 hrr rM;clear hok hsc hr1 hr2 g5 hrl rM hrr;generalize (numsR y).getD 0 0=a0 at*;generalize (numsR y).getD 1 0=a1 at*;obtain⟨p,rfl⟩:∃p,a0=p+1:=⟨a0-1,oM⟩
  simp only[Nat.add_sub_cancel]at HS;have hp1:(p:Int)<=1099511627776:=oM;have hp2:(0:Int)<=(p:Int):=oM;have hwp:IntKind.i64.wrap (p:Int)=(p:Int):=qxu _ oM;have hwk:IntKind.i64.wrap (k:Int)=(k:Int):=qxu _ oM;have hk1:(k:Int)<=1024:=oM;have hk2:(0:Int)<=(k:Int):=oM;have hn0:¬n=0:=oM;have hw2:IntKind.i64.wrap ((base:Int)+(k:Int)-(base:Int))=(k:Int):=by
   rw[show(base:Int)+(k:Int)-(base:Int)=(k:Int) by omega];exact qxu _ oM
  have ht:(p:Int).tmod (n:Int)=((p%n:Nat):Int):=(Int.ofNat_tmod p n).symm;have hd:(p:Int).tdiv (n:Int)=((p/n:Nat):Int):=by rw[Int.tdiv_eq_ediv_of_nonneg oM,<-Int.natCast_ediv]
  have hdl:p/n<=p:=Nat.div_le_self _ _;generalize p%n=pm at*;generalize p/n=pd at*;have hd2:IntKind.i64.wrap (pd:Int)=(pd:Int):=qxu _ oM;clear hdl;by_cases hc0:pm=k
  .subst hc0;have q1:((pm:Nat):Int)==(pm:Int):=oe;by_cases hc1:a1=pd
   .subst hc1;rw[qYr rfl,qYr rfl]at HS;replace HS:Hid (scL n pm (curB F O (base+pm))=[numsR y]):=HS
    go_quiet(fail)
    clear hw2 ht hd hd2;have hud:=(uur (fun _=>False) W5).drewN nq;generalize W5.drewN nq=W6 at*;obtain⟨no5,hcell5,hsl5,hU5,d5,e1,e2,e3,hf,hlW,h4⟩:=HB.o;have g6:=hud.jT hcell5;have c6:=za g6 0;have f6:=zf g6 0;have lt6:=zd g6;have r5:W5.rangeAt M 0 rs:=by rw[HRR.o.1];exact HRR.o.2
    have r6:=hud.range r5 id;clear r5;have hsl6:=hsl5.keep hud (fun _ _ h=>h);have hrl:rs.length=7:=HW5.o.2.2.1;have hr1:=HW5.o.2.2.2;have hri:(prog.info? 307).map (·.size)=some rs.length:=by rw[hrl];exact infoThR
    obtain⟨ir,zr,hir,hzr,hz7,hi7,hi56⟩:=Ui;have HI:=Y5 hir hzr hz7 hi7 hi56;have HF:=Y5 hsl6 hrl hr1 hri r6;have HUD:=Y2 hud g6;have hm1:Hid (L.length+1<=maxLen):=by show _<=_;unfold maxLen;omega
    have hm2:Hid ((L.length+1)*56<=140737488355328):=by show _<=_;omega
    clear no5 hcell5 hsl5 hU5 d5 e1 e2 e3 hf hlW h4 g6 hsl6 hrl hr1 hri r6 hud l2 l3 l4 f4 m0 m1 hir hzr hz7 hi7 hi56 q1;go_wp2_with (first
     |(refine qYy rfl 307 _ rfl _ _ rfl _ _ HF.o.2.2.2.2 underlying307 rfl HF.o.2.2.2.1 ?_)
     |(refine ym rfl 215 307 _ rfl 7 de underlying215 ⟨ir,zr,HI.o.1,HI.o.2.1,HI.o.2.2.1,HI.o.2.2.2.1⟩ de rs rfl HF.o.2.1 ?_)
     |(at_builtin;refine zG rfl _ _ 215 rfl ir zr 56 underlying215 HI.o.1 HI.o.2.1 HI.o.2.2.2.1 HI.o.2.2.2.2 HI.o.2.2.1 de rfl HF.o.1 rs rfl HF.o.2.1 HF.o.2.2.1 hm1.out hm2.out ?_;intro v' w7 hs7 hu7 hb7;obtain⟨ao',cc',rfl⟩:=hs7.rd.jU;refine Stop.i ?_)
     |fail)
    obtain⟨no5,hcell5,hsl5,hU5,d5,e1,e2,e3,hf,hlW,h4⟩:=HB.o;obtain⟨hud,g6⟩:=HUD.o;have hv4:v.ownBlock≠some p4:=fun e=>by
     have:=hf p4 e;omega
    have g7:=(hu7.block p4 lt6 (fun h=>hv4 h)).trans g6;have hcs:=zh g7 0 (.slice ao' (L.length+1) cc');have hus:=zi w7 p4 0 (.slice ao' (L.length+1) cc');have c7:=za g7 0;have f7:=zf g7 0;obtain⟨w8,hw8⟩:=qqe (w7.setCell ⟨p4,0,none⟩ (.slice ao' (L.length+1) cc'));rw[<-hw8]at hcs hus;have hb7':∀g,(Value.slice ao' (L.length+1) cc').ownBlock=some g->v.ownBlock=some g\/W6.heap.size<=g:=fun g hg=>by
     rcases hb7 with e|⟨g2,e,hge⟩
     .rw [e]at hg;exact .inl hg
     .rw [e]at hg;cases hg;exact .inr hge
    have hDn:=H.o.2.2.2.2.2.2.2.2.2.1;have h65:=hud.size;have hFIN:ScI D w0 b p4 F O (L++[numsR y]) w8:=by
     have hfv:From w0.heap.size (.slice ao' (L.length+1) cc'):=fun g hg=>by
      rcases hb7' g hg with h|h
      .exact hf g h
      .have:=hU5.size;omega
     refine⟨((hU5.trans (hud.mono fE)).trans (hu7.mono (fun j _ h=> .inl (hDn j (hf j h))))).trans (hus.mono (fun j _ h=> .inr h)),_,S2,hcs,?_,hfv,?_,e1,fun j hj=>?_,fun g hg hs=>?_⟩
     .rw [qyy,qyd,qye,List.flatMap_nil,qxx,<-HRR.o.1];exact hs7.keep hus (fun g hg e=>by
       have:=hfv g hg;omega)
     .exact ((d5.keep hud (fun _ _ h=>h)).keep hu7 (fun j hj h=>e3 j h hj)).keep hus (fun j hj e=>h4.2 (e▸e1 j hj))
     .have:=(e2 j hj).1;have:=hu7.size;have:=hus.size;omega
     .rcases hb7' g hg with h|h
      .exact e3 g h hs
      .have:=(e2 g hs).1;omega
    have HFN:=qqh hFIN;have HW8:=qqh hw8;clear no5 hcell5 hsl5 hU5 d5 e1 e2 e3 hf hlW h4 hud g6 hv4 g7 hcs hus hb7' hDn hFIN hs7 hu7 hb7 hw8;unfold Stop;go_wp2_with fail
    go_ret
    rw[<-HW8.o];refine⟨rfl,?_⟩;rw[HS.o];exact HFN.o
   .have q2:¬((a1:Nat):Int)=(pd:Int):=oM;rw[decide_eq_false hc1,Bool.and_false]at HS;replace HS:Hid (scL n pm (curB F O (base+pm))=[]):=HS;clear hc1
    go_quiet(fail)
    clear hw2 ht hd hd2;go_wp2_with fail
    go_ret
    refine⟨rfl,?_⟩;rw[HS.o,qxx];exact HB.o.1.new ((uur (fun _=>False) W5).drewN nq)
  .have q1:¬((pm:Nat):Int)=(k:Int):=oM;rw[decide_eq_false hc0]at HS;replace HS:Hid (scL n k (curB F O (base+k))=[]):=HS;clear hc0
   go_quiet(fail)
   clear hw2 ht hd hd2;go_wp2_with fail
   go_ret
   refine⟨rfl,?_⟩;rw[HS.o,qxx];exact HB.o.1.new ((uur (fun _=>False) W5).drewN nq)
def rseq(r:List Nat):Nat:=r.getD 0 0
structure RepS where
 d:List (List Nat)
 g:Nat
 l:Nat
def repStep(s:RepS)(r:List Nat):RepS:=if rseq r=s.l+1 then⟨s.d++[r],max s.g (rseq r),rseq r⟩else ⟨s.d,max s.g (rseq r),s.l⟩
def repS(L:List (List Nat))(after:Nat):RepS:=L.foldl repStep ⟨[],after,after⟩
theorem sX(L:List (List Nat))(after:Nat){k:Nat}(hk:k<L.length):repS (L.take (k+1)) after=repStep (repS (L.take k) after) L[k]:=by
 rw[qXk hk,repS,List.foldl_append];rfl
theorem WM{s:RepS}{r:List Nat}{N:Nat}(hs:s.g<=N/\s.l<=N)(hr:rseq r<=N):(repStep s r).g<=N/\(repStep s r).l<=N/\(repStep s r).d.length<=s.d.length+1:=by
 unfold repStep;split
 .exact ⟨Nat.max_le.2 ⟨hs.1,hr⟩,hr,oe⟩
 .exact ⟨Nat.max_le.2 ⟨hs.1,hr⟩,hs.2,oe⟩
theorem ZS{L:List (List Nat)}{after N:Nat}(ha:after<=N)(hL:∀r∈L,rseq r<=N):∀k,k<=L.length->(repS (L.take k) after).g<=N/\(repS (L.take k) after).l<=N/\(repS (L.take k) after).d.length<=k
 |0,_=>⟨ha,ha,qXo _⟩
 |k+1,hk=>by
  obtain⟨h1,h2,h3⟩:=ZS ha hL k oM;obtain⟨q1,q2,q3⟩:=WM (r:=L[k]'oM) ⟨h1,h2⟩ (hL _ (qyu _));rw[sX L after oM];exact⟨q1,q2,oM⟩
def zaU(w:World)(r:RepS)(e:Ending)(w':World):Prop:=
 ∃v,e=.returned (.tuple #[v,.int .i64 (r.g:Nat)])/\Sl w' 307 7 v r.d.length (r.d.flatMap recCs)/\From w.heap.size v/\Below w.heap.size w w'
theorem Sh{w:World}{g o:Nat}{L:List (List Nat)}(h:∀j u,(L.flatMap recCs)[j]?=some u->w.cell? ⟨g,o+j,none⟩=some u){k:Nat}(hk:k<L.length):w.rangeAt g (o+k*7) (recCs L[k]):=by
 intro j v hj;have hj':j<7:=(qyl.1 hj).1;rw[qXl];refine h _ v ?_;have:∀(L:List (List Nat)) (k:Nat) (hk:k<L.length),(L.flatMap recCs)[k*7+j]?=(recCs L[k])[j]?:=by
  intro L
  induction L with
  |nil=>intro k hk;simp at hk
  |cons x L ih=>
   intro k hk;rw[qye];cases k with
   |zero=>rw[qXz,qXx,qyg (by show j<7;exact hj')];rfl
   |succ k=>
    rw[qyh (by show 7<=_;omega)];show(L.flatMap recCs)[(k+1)*7+j-7]?=_;rw[show(k+1)*7+j-7=k*7+j by omega];exact ih k (by simpa using hk)
 rw[this L k hk];exact hj
theorem ED{w:World}{v:Value}{L:List (List Nat)}(hs:Rd w 7 v L.length (L.flatMap recCs))(after:Nat)(ha:after<=1099511627776)(hL:∀r∈L,rseq r<=1099511627776)(hl1:L.length<=1024):
  Calls prog 136 #[v,.int .i64 (after:Int)] w (zaU w (repS L after)):=by
 obtain⟨ao,cap,rfl⟩:=hs.jU;have H:=Y3 hs ha hL;clear hs;go_enter func136,ntmps136
 go_wp2
 go_step3
 go_wp2
 go_step3
 go_wp2_with fail
 go_loopg[6,7,8,15] L.length (fun gk s6 s7 s8 s15 wr=>∃k:Nat,∃r:RepS,k+gk=L.length/\s15=.int .i64 (k:Int)/\r=repS (L.take k) after/\s7=.int .i64 (r.g:Nat)/\s8=.int .i64 (r.l:Nat)/\Sl wr 307 7 s6 r.d.length (r.d.flatMap recCs)/\From w.heap.size s6/\Below w.heap.size w wr)
 case atStart=>exact⟨0,⟨[],after,after⟩,oM,rfl,rfl,rfl,rfl,Sl.nil _ _ _,From.nil _ _ _,qxl _ _⟩
 case round=>
  obtain⟨k,r,hk,rfl,hr,rfl,rfl,hsl,hf,hb⟩:=hrel;by_cases hlt:k<L.length
  .have k1:(k:Int)<(L.length:Int):=oM;have k0:(0:Int)<=(k:Int):=oM;obtain⟨g,o,cp,e,hgl,hcell⟩:=H.o.1.at oM;cases e;obtain⟨b1,b2,b3⟩:=ZS H.o.2.1 H.o.2.2 k oM;rw[<-hr]at b1 b2 b3;have hx:=Sh hcell hlt;have hnx:=sX L after hlt;rw[<-hr]at hnx;have hsq:=H.o.2.2 _ (qyu hlt);obtain⟨x,hxx⟩:=qqe (L[k]);rw[<-hxx]at hx hnx hsq;have hrow:wr.rangeAt g (o+k*7) (recCs x):=Below.range hb hx;have c0:wr.cell? ⟨g,o+k*7,none⟩=some (.int .i64 (rseq x:Nat)):=by
    have:=hrow 0 (.int .i64 ((natsI x).getD 0 0)) rfl;rw[yG]at this;exact this
   have hxl:(recCs x).length=7:=rfl;have hx1:∀v∈recCs x,v.oneCell'=true:=wu (natsI x);have hxi:(prog.info? 307).map (·.size)=some (recCs x).length:=infoThR;obtain⟨w2,hw2⟩:=qqe (wr.alloc (.cells (recCs x).toArray 307));have hu2:=qqu hw2;have g2:=qqg hw2;have r2:=zg g2;have e2:w2.cell? ⟨wr.heap.size,0,none⟩=some (.int .i64 (rseq x:Nat)):=by
    have:=r2 0 (.int .i64 ((natsI x).getD 0 0)) rfl;rw[yG]at this;exact this
   obtain⟨q,hq⟩:=qqe (wr.heap.size);rw[<-hq]at r2 e2;have HW:=Y3 hw2 hq hx1;have hsl2:=hsl.keep hu2 (fun _ _ h=>h);have hb2:=hb.trans ((Upd.below hu2).mono hb.size);obtain⟨ir,zr,hir,hzr,hz7,hi7,hi56⟩:=Ui;have HI:=Y5 hir hzr hz7 hi7 hi56;have hm1:Hid (r.d.length+1<=maxLen):=by show _<=_;unfold maxLen;omega
   have hm2:Hid ((r.d.length+1)*56<=140737488355328):=by show _<=_;omega
   have HB:=Y6 hsl2 hf hb2 hnx hm1.out hm2.out;have HX2:Hid (u6.ownBlock≠some q):=fun e=>by have:=hsl.lt e;omega
   have HX3:Hid (recCs x=recCs x):=rfl;have HX:=Y4 hxl hxi hx1 r2;clear hsl hf hb hcell hx hnx hx1 hsl2 hb2 hw2 hu2 g2 r2 hq c0 hxx hir hzr hz7 hi7 hi56 hxl hr;have HZ0:Hid (∃z,rseq x=z):=⟨_,rfl⟩
   generalize hzz:rseq x=z at*;have HZ:=qqh hzz;clear hzz HZ0;generalize hrs:recCs x=rs at*;replace HX3:=qqh hrs;clear hrs;go_upto_region 6 with(first
    |(refine qYy rfl 307 _ rfl _ _ rfl _ _ hrow underlying307 rfl HX.o.2.1 ?_)
    |(refine zk rfl _ _ _ rfl _ _ rs rfl rfl jL HX.o.2.1 HX.o.2.2.1 ?_)
    |fail)
   rw[<-HW.o.1,<-HW.o.2.1];by_cases hz:z=r.l+1
   .subst hz;have q1:¬(((r.l+1:Nat):Int)<=(r.l:Int)):=oM;have hst:repStep r x=⟨r.d++[x],max r.g (r.l+1),r.l+1⟩:=by unfold repStep;rw[if_pos HZ.o,HZ.o]
    have HS:=qqh hst;clear hst;rcases Nat.lt_or_ge r.g (r.l+1)with hg|hg
    all_goals
     have hg':(r.g:Int)<((r.l+1:Nat):Int)\/((r.l+1:Nat):Int)<=(r.g:Int):=oM
     first
      |(have hgi:(r.g:Int)<((r.l+1:Nat):Int):=by omega)
      |(have hgi:((r.l+1:Nat):Int)<=(r.g:Int):=by omega)
     clear hg';go_wp2_with (first
      |(refine qYy rfl 307 _ rfl _ _ rfl _ _ HX.o.2.2.2 underlying307 rfl HX.o.2.1 ?_)
      |(refine ym rfl 215 307 _ rfl 7 de underlying215 ⟨ir,zr,HI.o.1,HI.o.2.1,HI.o.2.2.1,HI.o.2.2.2.1⟩ de rs rfl HX.o.1 ?_)
      |(at_builtin;refine zG rfl _ _ 215 rfl ir zr 56 underlying215 HI.o.1 HI.o.2.1 HI.o.2.2.2.1 HI.o.2.2.2.2 HI.o.2.2.1 de rfl HB.o.1 rs rfl HX.o.1 HX.o.2.2.1 hm1.out hm2.out ?_;intro v' w7 hs7 hu7 hb7;obtain⟨ao',cc',rfl⟩:=hs7.rd.jU;refine Stop.i ?_)
      |fail)
     unfold Stop;have hq2:q<w2.heap.size:=qYg w2 _ e2;have hqv:u6.ownBlock≠some q:=HX2.o;have e7:w7.cell? ⟨q,0,none⟩=some (.int .i64 ((r.l+1:Nat):Int)):=(hu7.cellAt hq2 (fun h=>hqv h)).trans e2;have hbw:Below w.heap.size w w7:=zj HB.o.2.2.1 hu7 (qXo _) (fun g hg=>HB.o.2.1 g hg);have hfv:From w.heap.size (.slice ao' (r.d.length+1) cc'):=hb7.ge (HB.o.2.2.1.size) HB.o.2.1;have hs7':Sl w7 307 7 (.slice ao' (r.d.length+1) cc') (repStep r x).d.length ((repStep r x).d.flatMap recCs):=by
      rw[HS.o];simp only[qyy,qyd,qye,List.flatMap_nil,qxx,qyz,qzc];rw[HX3.o];exact hs7
     have HN:=Y3 hbw hfv hs7';clear hbw hfv hs7' hs7 hu7 hb7 hqv;go_wp2_with fail
     go_roundg (gk-1)
     case measure=>omega
     case rel=>
      refine⟨k+1,repStep r x,oM,by go_num,HB.o.2.2.2.1.symm,?_,by rw[HS.o];simp,HN.o.2.2,HN.o.2.1,HN.o.1⟩;rw[HS.o];simp only[]
      first
       |(congr 1;omega)
       |(simp;omega)
       |(rw[Nat.max_eq_right oM];done)
       |(rw[Nat.max_eq_left oM];done)
       |(rw[Nat.max_eq_right oM];simp;done)
       |(rw[Nat.max_eq_left oM];simp)
   .have q1:¬(((z:Nat):Int)=(r.l:Int)+1):=oM;have hst:repStep r x=⟨r.d,max r.g z,r.l⟩:=by unfold repStep;rw[if_neg (by rw[HZ.o];exact hz),HZ.o]
    have HS:=qqh hst;clear hst;rcases Nat.lt_or_ge r.g z with hg|hg
    all_goals
     first
      |(have hgi:(r.g:Int)<(z:Int):=by omega)
      |(have hgi:(z:Int)<=(r.g:Int):=by omega)
     by_cases hle:(z:Int)<=(r.l:Int)
     all_goals
      go_wp2_with fail
      go_roundg (gk-1)
      case measure=>omega
      case rel=>
       refine⟨k+1,repStep r x,oM,by go_num,HB.o.2.2.2.1.symm,?_,by rw[HS.o],?_,HB.o.2.1,HB.o.2.2.1⟩
       .rw [HS.o];simp only[]
        first
         |(congr 1;omega)
         |rw[Nat.max_eq_right oM]
         |rw[Nat.max_eq_left oM]
       .rw [HS.o];exact HB.o.1
  .obtain rfl:k=L.length:=oM;have k1:¬((L.length:Int)<(L.length:Int)):=oM;rw[qXj (qXo _)]at hr;have HZ:=Y4 hsl hf hb hr;clear hsl hf hb hr;go_wp2_with fail
   try rw[qxq]
   go_ret2
   rw[<-HZ.o.2.2.2];exact⟨u6,rfl,HZ.o.1,HZ.o.2.1,HZ.o.2.2.1⟩
theorem zaV{D:Nat->Prop}{w:World}{b p1 p2 p3 p4 g:Nat}{F:List Bk}{O:List (Nat×Bk)}{base n:Nat}(h:ScI D w b p4 F O [] w)(hD:∀j,w.heap.size<=j->D j)(h4:p4<w.heap.size/\¬D p4)
  (h1:w.cell? ⟨p1,0,none⟩=some (.pointer (some ⟨b,0,none⟩))/\¬D p1/\p1≠p4) (h2:w.cell? ⟨p2,0,none⟩=some (.int .i64 (n:Int))/\¬D p2/\p2≠p4) (h3:w.cell? ⟨p3,0,none⟩=some (.int .i64 (base:Int))/\¬D p3/\p3≠p4)
  (hg:w.heap[g]?=some (.cells (ints (secL base n n)).toArray 3 (0,0))/\¬D g/\g≠p4) (hn:n<=1024) (hbn:base+n<=F.length) (hN:Nib w) (hND:¬D 0/\0≠p4):
  Calls prog 201 #[.slice (some ⟨g,0,none⟩) n n,.func (.func 203) #[] #[.pointer (some ⟨p1,0,none⟩),.pointer (some ⟨p2,0,none⟩),.pointer (some ⟨p3,0,none⟩),.pointer (some ⟨p4,0,none⟩)]] w fun e w'=>
   e=.returned (.int .i64 0)/\ScI D w b p4 F O (scanTo F O base n n) w':=by
 have H:=Y9 h hD h4 h1 h2 h3 hg hN hND;clear h hD h4 h1 h2 h3 hg hN hND;go_enter func201,ntmps201
 go_wp2
 go_step3
 go_wp2
 go_step3
 go_wp2_with fail
 go_loopg[5,10] n (fun gk s5 s10 wr=>∃k:Nat,k+gk=n/\s10=.int .i64 (k:Int)/\s5=.int .i64 0/\ScI D w b p4 F O (scanTo F O base n k) wr)
 case atStart=>exact⟨0,oM,rfl,rfl,H.o.1⟩
 case round=>
  obtain⟨k,hk,rfl,rfl,hS⟩:=hrel;by_cases hlt:k<n
  .have k1:(k:Int)<(n:Int):=oM;have k0:(0:Int)<=(k:Int):=oM;obtain⟨h,hD,h4,h1,h2,h3,hg,hN,hND⟩:=H.o;have hgr:=(hS.1.block g (zd hg.1) (fun h=>h.elim hg.2.1 hg.2.2)).trans hg.1;have cg:wr.cell? ⟨g,k,none⟩=some (.int .i64 ((base:Int)+(k:Int))):=by
    rw[za hgr,qyq,yk (by rw[Xe];exact hlt)];simp only[secL,qyt,List.getElem_range,if_pos hlt,qxs]
   have HC:=qqh (zcO (k:=k) hS hD h4 h1 h2 h3 hlt hn hbn (qXq (xY F O base n k) oM) hN hND);clear h hD h4 h1 h2 h3 hg hN hND hgr hS;go_wp2_with fail
   refine HC.o.mono ?_;rintro e w2 ⟨rfl,hS2⟩;have HS2:=qqh hS2;clear hS2 HC cg;go_wp2_with fail
   go_roundg (gk-1)
   case measure=>omega
   case rel=>exact⟨k+1,oM,by go_num,rfl,HS2.o⟩
  .obtain rfl:k=n:=oM;have k1:¬((k:Int)<(k:Int)):=oM;have HS2:=qqh hS;clear hS;go_wp2_with fail
   try rw[qxq]
   go_ret
   exact⟨rfl,HS2.o⟩
end Go.Proofs.YtpejdgiccaijfaaGreatDoor
