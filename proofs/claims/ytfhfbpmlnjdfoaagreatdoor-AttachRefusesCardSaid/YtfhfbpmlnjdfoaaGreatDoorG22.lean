/- The journal: t -/
import Derived.Test.YtfhfbpmlnjdfoaaGreatDoorG21
import Derived.Shelf.SlSortCmp.WholeK
set_option maxRecDepth 100000
set_option maxHeartbeats 4000000
namespace Go.Proofs.YtfhfbpmlnjdfoaaGreatDoor
open Go Go.RowKit Tryz
section
def secL(base n k:Nat):List Int:=(List.range n).map fun i=>if i<k then((base+i:Nat):Int)else 0
theorem Xz(base n k:Nat):(secL base n k).length=n:=by simp[secL]
theorem TD(base n:Nat):secL base n 0=List.replicate n 0:=by
 apply qye
 .simp [secL]
 .intro i h1 h2;simp[secL]
theorem RV(base n:Nat){k:Nat}(_hk:k<n):(secL base n k).set k ((base+k:Nat):Int)=secL base n (k+1):=by
 apply qye
 .simp [secL]
 .intro i h1 h2;rw[qzb];simp only[secL,qyy,List.getElem_range];by_cases h:k=i
  .subst h;simp
  .rw [if_neg h];by_cases hl:i<k
   .rw [if_pos hl,if_pos oM]
   .rw [if_neg hl,if_neg oM]
theorem RW(base n:Nat)(hn:n<=1024)(hb:base<=4096)(w:World):
  Calls prog 105 #[.int .i64 (base:Int),.int .i64 (n:Int)] w fun e w'=>∃g,e=.returned (.slice (some ⟨g,0,none⟩) n n)/\w'.heap[g]?=some (.cells (ints (secL base n n)).toArray 3 (0,0))/\w.heap.size<=g/\Below w.heap.size w w':=by
 have hmk:=YL n oM w;obtain⟨w1,hw1⟩:=qqe (w.alloc (.cells (ints (List.replicate n 0)).toArray 3));have hg:=zc w (.cells (ints (List.replicate n 0)).toArray 3) rfl;have hb1:Below w.heap.size w w1:=by rw[hw1];exact(qxl _ w).alloc (qXv _) _
 rw[<-hw1,<-TD base n]at hg;have HW:=Y3 hw1 hg hb1;obtain⟨G,hG⟩:=qqe (w.heap.size);have HGG:=qqh hG;clear hg hb1 hw1 hG;go_enter func105,ntmps105
 go_upto_region 2 with fail
 rw[<-HW.o.1,<-HGG.o];clear hmk;go_wp2_with fail
 go_loopg[11] n (fun gk s11 wr=>∃k:Nat,k+gk=n/\s11=.int .i64 (k:Int)/\wr.heap[G]?=some (.cells (ints (secL base n k)).toArray 3 (0,0))/\Upd (fun j=>j=G) w1 wr)
 case atStart=>exact⟨0,oM,rfl,by rw[HGG.o];exact HW.o.2.1,uur _ _⟩
 case round=>
  obtain⟨k,hk,rfl,hg,hu⟩:=hrel;by_cases hlt:k<n
  .have k1:(k:Int)<(n:Int):=oM;have k0:(0:Int)<=(k:Int):=oM;have f0:=zg hg k;have c0:∃v,wr.cell? ⟨G,k,none⟩=some v:=by
    rw[za hg,qxe (by rw[qXm,xi,Xz];omega)];exact⟨_,rfl⟩
   obtain⟨v0,c0⟩:=c0;have hgs:=zi hg k (.int .i64 ((base+k:Nat):Int));rw[qXi,YM,RV base n hlt]at hgs;have hus:=hu.trans (zj wr G k (.int .i64 ((base+k:Nat):Int)));have e1:((base+k:Nat):Int)=(base:Int)+(k:Int):=oe;rw[e1]at hgs hus;have HN:=Y2 hgs hus;clear hg hu hgs hus e1;go_wp2_with fail
   go_roundg (gk-1)
   case measure=>omega
   case rel=>exact⟨k+1,oM,by go_num,HN.o.1,HN.o.2⟩
  .obtain rfl:k=n:=oM;have k1:¬((k:Int)<(k:Int)):=oM;have HN:=Y2 hg hu;clear hg hu;go_wp2_with fail
   go_ret
   exact⟨G,rfl,HN.o.1,Nat.le_of_eq HGG.o.symm,zk HW.o.2.2 HN.o.2 (qXv _) (fun j hj=>Nat.le_of_eq (by rw[hj,HGG.o]))⟩
def Ye(n k:Nat)(b:Bk):Bool:=okR b&&(decide (((numsR b).getD 0 0-1)%n=k)&&decide ((numsR b).getD 1 0=((numsR b).getD 0 0-1)/n))
def scL(n k:Nat)(b:Bk):List (List Nat):=if Ye n k b then[numsR b]else[]
def scanTo(F:List Bk)(O:List (Nat×Bk))(base n:Nat):Nat->List (List Nat)
 |0=>[]
 |k+1=>scanTo F O base n k++scL n k (curB F O (base+k))
def recCs(r:List Nat):List Value:=dsR (natsI r)
theorem xZ(F:List Bk)(O:List (Nat×Bk))(base n:Nat):∀k,(scanTo F O base n k).length<=k
 |0=>qXv _
 |k+1=>by
  have:=xZ F O base n k;rw[scanTo,qzd];unfold scL;split<;>simp<;>omega
theorem rD{b:Bk}(h:okR b=true):1<=(numsR b).getD 0 0/\(numsR b).getD 0 0<=1099511627776/\(numsR b).getD 1 0<=1099511627776/\(numsR b).getD 2 0<=1/\(numsR b).getD 3 0<=4095/\(numsR b).getD 4 0<=1023/\(numsR b).getD 5 0<=1/\(numsR b).getD 6 0<=4294967295:=by
 unfold okR okGet at h;simp only[qxo]at h;have hm:=h.2.2.2;unfold mayR at hm;rw[qxo]at hm;have hl:(natsI (numsR b)).length=7:=by simp[natsI,numsR,zQ,UO]
 have hw:=hm.1;have e:∀i (hi:i<(natsI (numsR b)).length),(natsI (numsR b))[i]=((numsR b).getD i 0:Nat):=fun i hi=>by
  simp only[natsI,qyy];rw[qyh,qyn (by simpa[natsI]using hi)];rfl
 have w0:=zH hw (i:=0) de oM;have w1:=zH hw (i:=1) de oM;have w2:=zH hw (i:=2) de oM;have w3:=zH hw (i:=3) de oM;have w4:=zH hw (i:=4) de oM;have w5:=zH hw (i:=5) de oM;have w6:=zH hw (i:=6) de oM;rw[e]at w0 w1 w2 w3 w4 w5 w6;simp only[bndR,qyx,qyw]at w0 w1 w2 w3 w4 w5 w6;omega
theorem zaw{b:Bk}(h:okR b=false):¬cdR b=0:=by
 unfold okR at h;unfold cdR yO;rw[h];split
 .next h=>cases h
 .split<;>decide
theorem zax{b:Bk}(h:okR b=true):cdR b=0:=by
 unfold okR at h;unfold cdR yO;rw[h];rfl
theorem yp(ns:List Nat)(i:Nat):(natsI ns).getD i 0=(ns.getD i 0:Nat):=by
 simp only[natsI,qyh,qyq];cases ns[i]?<;>rfl
theorem Ug:∃i z,prog.info? 101=some i/\i.zero=some z/\z.cells.size=7/\i.size=7/\i.bytes=56:=by
 have h:(prog.info? 101).map (fun i=>(i.zero.map (·.cells.size),i.size,i.bytes))=some (some 7,7,56):=kR;obtain⟨i,hi,he⟩:=qYi.1 h;simp only[qYk]at he;obtain⟨z,hz,hz2⟩:=qYi.1 he.1;exact⟨i,z,hi,hz,hz2,he.2.1,he.2.2⟩
def ScI(D:Nat->Prop)(w0:World)(b p4:Nat)(F:List Bk)(O:List (Nat×Bk))(L:List (List Nat))(W:World):Prop:=
 Upd (fun j=>D j\/j=p4) w0 W/\∃v S1,W.heap[p4]?=some (.cells #[v] 23 (0,0))/\Sl W 101 7 v L.length (L.flatMap recCs)/\From w0.heap.size v/\
  Dv S1 W b F O []/\(∀j,S1 j->D j)/\(∀j,S1 j->j<W.heap.size)/\∀g,v.ownBlock=some g->¬S1 g
theorem ScI.new{D:Nat->Prop}{w0 W W':World}{b p4:Nat}{F:List Bk}{O:List (Nat×Bk)}{L:List (List Nat)}(h:ScI D w0 b p4 F O L W)(hu:Upd (fun _=>False) W W'):ScI D w0 b p4 F O L W':=by
 obtain⟨h1,v,S1,h2,h3,h4,h5,h6,h7,h8⟩:=h;exact⟨h1.trans (hu.mono fE),v,S1,hu.j6 h2,h3.keep hu (fun _ _ h=>h),h4,h5.keep hu (fun _ _ h=>h),h6,fun j hj=>qXy (h7 j hj) hu.size,h8⟩
theorem zcF{D:Nat->Prop}{w0 W:World}{b p1 p2 p3 p4:Nat}{F:List Bk}{O:List (Nat×Bk)}{base n k:Nat}{L:List (List Nat)}(h:ScI D w0 b p4 F O L W)(hD:∀j,w0.heap.size<=j->D j)(h4:p4<w0.heap.size/\¬D p4)
  (h1:w0.cell? ⟨p1,0,none⟩=some (.pointer (some ⟨b,0,none⟩))/\¬D p1/\p1≠p4) (h2:w0.cell? ⟨p2,0,none⟩=some (.int .i64 (n:Int))/\¬D p2/\p2≠p4) (h3:w0.cell? ⟨p3,0,none⟩=some (.int .i64 (base:Int))/\¬D p3/\p3≠p4)
  (hk:k<n) (hn:n<=1024) (hbn:base+n<=F.length) (hL:L.length<=1024) (hN:Nib w0) (hND:¬D 0/\0≠p4):
  Calls prog 106 #[.int .i64 ((base:Int)+(k:Int)),.pointer (some ⟨p1,0,none⟩),.pointer (some ⟨p2,0,none⟩),.pointer (some ⟨p3,0,none⟩),.pointer (some ⟨p4,0,none⟩)] W fun e W'=>
   e=.returned (.int .i64 0)/\ScI D w0 b p4 F O (L++scL n k (curB F O (base+k))) W':=by
 obtain⟨hu,v,S1,hcell,hsl,hf,hd,hs1,hs2,hs3⟩:=h;have hfl:=hd.good.fl;have c1:W.cell? ⟨p1,0,none⟩=some (.pointer (some ⟨b,0,none⟩)):=hu.j4 h1.1 (fun h=>h.elim h1.2.1 h1.2.2);have hNW:Nib W:=hN.keep hu (fun h=>h.elim hND.1 hND.2);have HR:=qqh (vT (S:=fun j=>S1 j\/W.heap.size<=j) (hd.wide (fun _ h=> .inl h)) (fun _ h=> .inr h) (base+k) oM);rw[show((base+k:Nat):Int)=(base:Int)+(k:Int) by simp]at HR;have H:=Y14 hu hcell hsl hf hd hs1 hs2 hs3 hNW hD h4 h1 h2 h3;clear hu hcell hsl hf hd hs1 hs2 hs3 hNW hD h4 h1 h2 h3 hN;go_enter func106,ntmps106
 go_wp2_with fail
 refine HR.o.mono ?_;rintro e W2 ⟨y,cd,rfl,hy,hcd,hyl,hd2,hu2⟩;have hcd0:cd=0:=by rw[hcd];rfl
 have hyc:y=curB F O (base+k):=by rw[hy];rfl
 subst hcd0;obtain⟨W3,hW3⟩:=qqe (W2.alloc (.cells (bkC y).toArray 54));have hu3:=qqu hW3;have g3:=qqg hW3;have r3:=zh g3;obtain⟨q,hq⟩:=qqe (W2.heap.size);rw[<-hq]at r3;have hy64:(bkC y).length=64:=by rw[zo,hyl]
 have hsz:=zw y hyl;have hw3:W.heap.size<=W3.heap.size:=qXx hu2.size hu3.size;have hNib3:Nib W3:=(H.o.2.2.2.2.2.2.2.2.1.keep hu2 (fun h=>by
  rcases h with h|h
  .exact hND.1 (H.o.2.2.2.2.2.1 _ h)
  .have:=H.o.2.2.2.2.2.2.2.2.1.lt;omega)).keep hu3 id
 have HG:=qqh (Rg hNib3 y hyl);have HW3:=Y2 hW3 hq;have H2:=Y5 hd2 hu2 hu3 hyc hw3;clear hd2 hu2 hu3 hyc hw3 hW3 hq g3 hNib3 hy hcd;go_upto_region 4 with(first
  |(refine zl rfl _ _ _ rfl _ _ (bkC y) rfl rfl (by rw[hy64];rfl) hsz (zx y) ?_)
  |fail)
 rw[<-HW3.o.1,<-HW3.o.2];go_wp2_with (first
  |(refine qZg rfl _ _ rfl _ _ rfl _ _ r3 underlying54 rfl hsz ?_)
  |fail)
 refine HG.o.mono ?_;rintro e W4 ⟨⟨rs,hr1,hr2,rfl⟩,hb4⟩;have hrl:rs.length=7/\∀v∈rs,v.oneCell'=true:=by
  cases hk:okR y with
  |true=>rw[hr1 hk];exact⟨qm _,ww _⟩
  |false=>rw[hr2 hk];exact⟨rfl,qxw.1 (by simp[tQ,Value.oneCell']:tQ.all (·.oneCell')=true)⟩
 obtain⟨W5,hW5⟩:=qqe (W4.alloc (.cells rs.toArray 101));have hu5:Upd (fun _=>False) W3 W5:=by rw[hW5];exact(uuo hb4).alloc _
 have g5:=qqg hW5;obtain⟨M,hM⟩:=qqe (W4.heap.size);rw[<-hM]at g5;have hz5:W5.heap.size=M+1:=by rw[hW5,hM];simp
 have HW5:=Y3 hW5 hM hrl;obtain⟨hd2,hu2,hu3,hyc,hw3⟩:=H2.o;obtain⟨hu,hcell,hsl,hf,hd,hs1,hs2,hs3,hNW,hD,h4,h1,h2,h3⟩:=H.o;have hU25:Upd (fun _=>False) W2 W5:=hu3.trans hu5;have hlW:=hu.size;have hS4:¬(S1 p4\/W.heap.size<=p4):=fun h=>h.elim (fun h=>h4.2 (hs1 _ h)) (fun h=>oM);have hcell5:=hU25.j6 ((hu2.block p4 (zf hcell) hS4).trans hcell);have hsl5:=(hsl.keep hu2 (fun g hg h=>h.elim (hs3 g hg) (fun h=>by have:=hsl.lt hg;omega))).keep hU25 (fun _ _ h=>h);have hU5:Upd (fun j=>D j\/j=p4) w0 W5:=(hu.trans (hu2.mono (fun j _ h=> .inl (h.elim (hs1 j) (fun h=>hD j oM))))).trans (hU25.mono fE);have hd5:∃S2,Dv S2 W5 b F O []/\(∀j,S2 j->D j)/\(∀j,S2 j->j<W5.heap.size/\j≠M)/\∀g,v.ownBlock=some g->¬S2 g:=by
  refine⟨fun j=>(S1 j\/W.heap.size<=j)/\j<W2.heap.size,(hd2.kH (fun j h1 h2=>⟨h1,h2⟩)).keep hU25 (fun _ _ h=>h),fun j hj=>hj.1.elim (hs1 j) (fun h=>hD j oM),fun j hj=>?_,fun g hg hs=>hs.1.elim (hs3 g hg) (fun h=>by have:=hsl.lt hg;omega)⟩;have:=hU25.size;have:=hu3.size;have:=hb4.size;exact⟨oM,oM⟩
 obtain⟨S2,d5,e1,e2,e3⟩:=hd5;have no5:ScI D w0 b p4 F O L W5:=⟨hU5,v,S2,hcell5,hsl5,hf,d5,e1,fun j hj=>(e2 j hj).1,e3⟩
 have l2:W5.cell? ⟨p2,0,none⟩=some (.int .i64 (n:Int)):=hU5.j4 h2.1 (fun h=>h.elim h2.2.1 h2.2.2);have l3:W5.cell? ⟨p3,0,none⟩=some (.int .i64 (base:Int)):=hU5.j4 h3.1 (fun h=>h.elim h3.2.1 h3.2.2);have l4:=za hcell5 0;have f4:=zg hcell5 0;have lp2:=qYn W5 _ l2;have lp3:=qYn W5 _ l3;have lp4:=zf hcell5;have HB:=Y11 no5 hcell5 hsl5 hU5 d5 e1 e2 e3 hf hlW h4;have hyc':=qqh hyc;clear hd2 hu2 hu3 hyc hw3 hu hcell hsl hf hd hs1 hs2 hs3 hNW hD h4 h1 h2 h3 hU25 hlW hS4 hcell5 hsl5 hU5 d5 e1 e2 e3 no5 hu5 hb4 hW5 hM r3 c1;go_upto_region 5 with(first
  |(refine zl rfl _ _ _ rfl _ _ rs rfl rfl (by rw[HW5.o.2.2.1];rfl) (by rw[HW5.o.2.2.1];exact infoThR) HW5.o.2.2.2 ?_)
  |fail)
 rw[<-HW5.o.1,<-HW5.o.2.1];cases hok:okR y with
 |false=>
  have q1:=zaw hok;have hsc:scL n k (curB F O (base+k))=[]:=by rw[<-hyc'.out];unfold scL Ye;rw[hok];rfl
  have HS:=qqh hsc;generalize cdR y=cdd at*;have q2:(cdd==0)=false:=by simpa using q1
  clear hok hsc hr1 hr2 g5
  go_quiet(fail)
  go_wp2_with fail
  go_ret
  refine⟨rfl,?_⟩;rw[HS.o,qxy];exact HB.o.1.new ((uur (fun _=>False) W5).drewN nq)
 |true=>
  rw[zax hok];obtain⟨b1,b2,b3,-⟩:=rD hok;rw[hr1 hok]at g5 hrl;have m0:W5.cell? ⟨M,0,none⟩=some (.int .i64 ((numsR y).getD 0 0:Nat)):=by rw[za g5 0];show some (Value.int .i64 ((natsI (numsR y)).getD 0 0))=_;rw[yp]
  have m1:W5.cell? ⟨M,1,none⟩=some (.int .i64 ((numsR y).getD 1 0:Nat)):=by rw[za g5 1];show some (Value.int .i64 ((natsI (numsR y)).getD 1 0))=_;rw[yp]
  have hsc:scL n k (curB F O (base+k))=if decide (((numsR y).getD 0 0-1)%n=k)&&decide ((numsR y).getD 1 0=((numsR y).getD 0 0-1)/n)then[numsR y]else[]:=by rw[<-hyc'.out];unfold scL Ye;rw[hok];rfl
  have HS:=qqh hsc;have rM:=zh g5;have hrr:rs=recCs (numsR y):=hr1 hok;have HRR:=Y2 hrr rM;clear hok hsc hr1 hr2 g5 hrl rM hrr;generalize (numsR y).getD 0 0=a0 at*;generalize (numsR y).getD 1 0=a1 at*;obtain⟨p,rfl⟩:∃p,a0=p+1:=⟨a0-1,oM⟩
  simp only[Nat.add_sub_cancel]at HS;have hp1:(p:Int)<=1099511627776:=oM;have hp2:(0:Int)<=(p:Int):=oM;have hwp:IntKind.i64.wrap (p:Int)=(p:Int):=qxv _ oM;have hwk:IntKind.i64.wrap (k:Int)=(k:Int):=qxv _ oM;have hk1:(k:Int)<=1024:=oM;have hk2:(0:Int)<=(k:Int):=oM;have hn0:¬n=0:=oM;have hw2:IntKind.i64.wrap ((base:Int)+(k:Int)-(base:Int))=(k:Int):=by
   rw[show(base:Int)+(k:Int)-(base:Int)=(k:Int) by omega];exact qxv _ oM
  have ht:(p:Int).tmod (n:Int)=((p%n:Nat):Int):=(Int.ofNat_tmod p n).symm;have hd:(p:Int).tdiv (n:Int)=((p/n:Nat):Int):=by rw[Int.tdiv_eq_ediv_of_nonneg oM,<-Int.natCast_ediv]
  have hdl:p/n<=p:=Nat.div_le_self _ _;generalize p%n=pm at*;generalize p/n=pd at*;have hd2:IntKind.i64.wrap (pd:Int)=(pd:Int):=qxv _ oM;clear hdl;by_cases hc0:pm=k
  .subst hc0;have q1:((pm:Nat):Int)==(pm:Int):=oe;by_cases hc1:a1=pd
   .subst hc1;rw[qYy rfl,qYy rfl]at HS;replace HS:Hid (scL n pm (curB F O (base+pm))=[numsR y]):=HS
    go_quiet(fail)
    clear hw2 ht hd hd2;have hud:=(uur (fun _=>False) W5).drewN nq;generalize W5.drewN nq=W6 at*;obtain⟨no5,hcell5,hsl5,hU5,d5,e1,e2,e3,hf,hlW,h4⟩:=HB.o;have g6:=hud.j6 hcell5;have c6:=za g6 0;have f6:=zg g6 0;have lt6:=zf g6;have r5:W5.rangeAt M 0 rs:=by rw[HRR.o.1];exact HRR.o.2
    have r6:=hud.range r5 id;clear r5;have hsl6:=hsl5.keep hud (fun _ _ h=>h);have hrl:rs.length=7:=HW5.o.2.2.1;have hr1:=HW5.o.2.2.2;have hri:(prog.info? 101).map (·.size)=some rs.length:=by rw[hrl];exact infoThR
    obtain⟨ir,zr,hir,hzr,hz7,hi7,hi56⟩:=Ug;have HI:=Y5 hir hzr hz7 hi7 hi56;have HF:=Y5 hsl6 hrl hr1 hri r6;have HUD:=Y2 hud g6;have hm1:Hid (L.length+1<=maxLen):=by show _<=_;unfold maxLen;omega
    have hm2:Hid ((L.length+1)*56<=140737488355328):=by show _<=_;omega
    clear no5 hcell5 hsl5 hU5 d5 e1 e2 e3 hf hlW h4 g6 hsl6 hrl hr1 hri r6 hud l2 l3 l4 f4 m0 m1 hir hzr hz7 hi7 hi56 q1;go_wp2_with (first
     |(refine qZg rfl 101 _ rfl _ _ rfl _ _ HF.o.2.2.2.2 underlying101 rfl HF.o.2.2.2.1 ?_)
     |(refine xB rfl 23 101 _ rfl 7 de underlying23 ⟨ir,zr,HI.o.1,HI.o.2.1,HI.o.2.2.1,HI.o.2.2.2.1⟩ de rs rfl HF.o.2.1 ?_)
     |(at_builtin;refine zT rfl _ _ 23 rfl ir zr 56 underlying23 HI.o.1 HI.o.2.1 HI.o.2.2.2.1 HI.o.2.2.2.2 HI.o.2.2.1 de rfl HF.o.1 rs rfl HF.o.2.1 HF.o.2.2.1 hm1.out hm2.out ?_;intro v' w7 hs7 hu7 hb7;obtain⟨ao',cc',rfl⟩:=hs7.rd.j7;refine Stop.i ?_)
     |fail)
    obtain⟨no5,hcell5,hsl5,hU5,d5,e1,e2,e3,hf,hlW,h4⟩:=HB.o;obtain⟨hud,g6⟩:=HUD.o;have hv4:v.ownBlock≠some p4:=fun e=>by
     have:=hf p4 e;omega
    have g7:=(hu7.block p4 lt6 (fun h=>hv4 h)).trans g6;have hcs:=zi g7 0 (.slice ao' (L.length+1) cc');have hus:=zj w7 p4 0 (.slice ao' (L.length+1) cc');have c7:=za g7 0;have f7:=zg g7 0;obtain⟨w8,hw8⟩:=qqe (w7.setCell ⟨p4,0,none⟩ (.slice ao' (L.length+1) cc'));rw[<-hw8]at hcs hus;have hb7':∀g,(Value.slice ao' (L.length+1) cc').ownBlock=some g->v.ownBlock=some g\/W6.heap.size<=g:=fun g hg=>by
     rcases hb7 with e|⟨g2,e,hge⟩
     .rw [e]at hg;exact .inl hg
     .rw [e]at hg;cases hg;exact .inr hge
    have hDn:=H.o.2.2.2.2.2.2.2.2.2.1;have h65:=hud.size;have hFIN:ScI D w0 b p4 F O (L++[numsR y]) w8:=by
     have hfv:From w0.heap.size (.slice ao' (L.length+1) cc'):=fun g hg=>by
      rcases hb7' g hg with h|h
      .exact hf g h
      .have:=hU5.size;omega
     refine⟨((hU5.trans (hud.mono fE)).trans (hu7.mono (fun j _ h=> .inl (hDn j (hf j h))))).trans (hus.mono (fun j _ h=> .inr h)),_,S2,hcs,?_,hfv,?_,e1,fun j hj=>?_,fun g hg hs=>?_⟩
     .rw [qzd,qyf,qyg,List.flatMap_nil,qxy,<-HRR.o.1];exact hs7.keep hus (fun g hg e=>by
       have:=hfv g hg;omega)
     .exact ((d5.keep hud (fun _ _ h=>h)).keep hu7 (fun j hj h=>e3 j h hj)).keep hus (fun j hj e=>h4.2 (e▸e1 j hj))
     .have:=(e2 j hj).1;have:=hu7.size;have:=hus.size;omega
     .rcases hb7' g hg with h|h
      .exact e3 g h hs
      .have:=(e2 g hs).1;omega
    have HFN:=qqh hFIN;have HW8:=qqh hw8;clear no5 hcell5 hsl5 hU5 d5 e1 e2 e3 hf hlW h4 hud g6 hv4 g7 hcs hus hb7' hDn hFIN hs7 hu7 hb7 hw8;unfold Stop;go_wp2_with fail
    go_ret
    rw[<-HW8.o];refine⟨rfl,?_⟩;rw[HS.o];exact HFN.o
   .have q2:¬((a1:Nat):Int)=(pd:Int):=oM;rw[decide_eq_false hc1,Bool.and_false]at HS;replace HS:Hid (scL n pm (curB F O (base+pm))=[]):=HS;clear hc1
    go_quiet(fail)
    clear hw2 ht hd hd2;go_wp2_with fail
    go_ret
    refine⟨rfl,?_⟩;rw[HS.o,qxy];exact HB.o.1.new ((uur (fun _=>False) W5).drewN nq)
  .have q1:¬((pm:Nat):Int)=(k:Int):=oM;rw[decide_eq_false hc0]at HS;replace HS:Hid (scL n k (curB F O (base+k))=[]):=HS;clear hc0
   go_quiet(fail)
   clear hw2 ht hd hd2;go_wp2_with fail
   go_ret
   refine⟨rfl,?_⟩;rw[HS.o,qxy];exact HB.o.1.new ((uur (fun _=>False) W5).drewN nq)
def rseq(r:List Nat):Nat:=r.getD 0 0
structure RepS where
 d:List (List Nat)
 g:Nat
 l:Nat
def repStep(s:RepS)(r:List Nat):RepS:=if rseq r=s.l+1 then⟨s.d++[r],max s.g (rseq r),rseq r⟩else ⟨s.d,max s.g (rseq r),s.l⟩
def repS(L:List (List Nat))(after:Nat):RepS:=L.foldl repStep ⟨[],after,after⟩
theorem tr(L:List (List Nat))(after:Nat){k:Nat}(hk:k<L.length):repS (L.take (k+1)) after=repStep (repS (L.take k) after) L[k]:=by
 rw[qXq hk,repS,List.foldl_append];rfl
theorem WS{s:RepS}{r:List Nat}{N:Nat}(hs:s.g<=N/\s.l<=N)(hr:rseq r<=N):(repStep s r).g<=N/\(repStep s r).l<=N/\(repStep s r).d.length<=s.d.length+1:=by
 unfold repStep;split
 .exact ⟨Nat.max_le.2 ⟨hs.1,hr⟩,hr,oe⟩
 .exact ⟨Nat.max_le.2 ⟨hs.1,hr⟩,hs.2,oe⟩
theorem Yf{L:List (List Nat)}{after N:Nat}(ha:after<=N)(hL:∀r∈L,rseq r<=N):∀k,k<=L.length->(repS (L.take k) after).g<=N/\(repS (L.take k) after).l<=N/\(repS (L.take k) after).d.length<=k
 |0,_=>⟨ha,ha,qXv _⟩
 |k+1,hk=>by
  obtain⟨h1,h2,h3⟩:=Yf ha hL k oM;obtain⟨q1,q2,q3⟩:=WS (r:=L[k]'oM) ⟨h1,h2⟩ (hL _ (qyz _));rw[tr L after oM];exact⟨q1,q2,oM⟩
def zay(w:World)(r:RepS)(e:Ending)(w':World):Prop:=
 ∃v,e=.returned (.tuple #[v,.int .i64 (r.g:Nat)])/\Sl w' 101 7 v r.d.length (r.d.flatMap recCs)/\From w.heap.size v/\Below w.heap.size w w'
theorem RX{w:World}{g o:Nat}{L:List (List Nat)}(h:∀j u,(L.flatMap recCs)[j]?=some u->w.cell? ⟨g,o+j,none⟩=some u){k:Nat}(hk:k<L.length):w.rangeAt g (o+k*7) (recCs L[k]):=by
 intro j v hj;have hj':j<7:=(qyp.1 hj).1;rw[qXr];refine h _ v ?_;have:∀(L:List (List Nat)) (k:Nat) (hk:k<L.length),(L.flatMap recCs)[k*7+j]?=(recCs L[k])[j]?:=by
  intro L
  induction L with
  |nil=>intro k hk;simp at hk
  |cons x L ih=>
   intro k hk;rw[qyg];cases k with
   |zero=>rw[qYg,qYe,qyi (by show j<7;exact hj')];rfl
   |succ k=>
    rw[qyj (by show 7<=_;omega)];show(L.flatMap recCs)[(k+1)*7+j-7]?=_;rw[show(k+1)*7+j-7=k*7+j by omega];exact ih k (by simpa using hk)
 rw[this L k hk];exact hj
theorem Ep{w:World}{v:Value}{L:List (List Nat)}(hs:Rd w 7 v L.length (L.flatMap recCs))(after:Nat)(ha:after<=1099511627776)(hL:∀r∈L,rseq r<=1099511627776)(hl1:L.length<=1024):
  Calls prog 70 #[v,.int .i64 (after:Int)] w (zay w (repS L after)):=by
 obtain⟨ao,cap,rfl⟩:=hs.j7;have H:=Y3 hs ha hL;clear hs;go_enter func70,ntmps70
 go_wp2
 go_step3
 go_wp2
 go_step3
 go_wp2_with fail
 go_loopg[6,7,8,15] L.length (fun gk s6 s7 s8 s15 wr=>∃k:Nat,∃r:RepS,k+gk=L.length/\s15=.int .i64 (k:Int)/\r=repS (L.take k) after/\s7=.int .i64 (r.g:Nat)/\s8=.int .i64 (r.l:Nat)/\Sl wr 101 7 s6 r.d.length (r.d.flatMap recCs)/\From w.heap.size s6/\Below w.heap.size w wr)
 case atStart=>exact⟨0,⟨[],after,after⟩,oM,rfl,rfl,rfl,rfl,Sl.nil _ _ _,From.nil _ _ _,qxl _ _⟩
 case round=>
  obtain⟨k,r,hk,rfl,hr,rfl,rfl,hsl,hf,hb⟩:=hrel;by_cases hlt:k<L.length
  .have k1:(k:Int)<(L.length:Int):=oM;have k0:(0:Int)<=(k:Int):=oM;obtain⟨g,o,cp,e,hgl,hcell⟩:=H.o.1.at oM;cases e;obtain⟨b1,b2,b3⟩:=Yf H.o.2.1 H.o.2.2 k oM;rw[<-hr]at b1 b2 b3;have hx:=RX hcell hlt;have hnx:=tr L after hlt;rw[<-hr]at hnx;have hsq:=H.o.2.2 _ (qyz hlt);obtain⟨x,hxx⟩:=qqe (L[k]);rw[<-hxx]at hx hnx hsq;have hrow:wr.rangeAt g (o+k*7) (recCs x):=Below.range hb hx;have c0:wr.cell? ⟨g,o+k*7,none⟩=some (.int .i64 (rseq x:Nat)):=by
    have:=hrow 0 (.int .i64 ((natsI x).getD 0 0)) rfl;rw[yp]at this;exact this
   have hxl:(recCs x).length=7:=rfl;have hx1:∀v∈recCs x,v.oneCell'=true:=ww (natsI x);have hxi:(prog.info? 101).map (·.size)=some (recCs x).length:=infoThR;obtain⟨w2,hw2⟩:=qqe (wr.alloc (.cells (recCs x).toArray 101));have hu2:=qqu hw2;have g2:=qqg hw2;have r2:=zh g2;have e2:w2.cell? ⟨wr.heap.size,0,none⟩=some (.int .i64 (rseq x:Nat)):=by
    have:=r2 0 (.int .i64 ((natsI x).getD 0 0)) rfl;rw[yp]at this;exact this
   obtain⟨q,hq⟩:=qqe (wr.heap.size);rw[<-hq]at r2 e2;have HW:=Y3 hw2 hq hx1;have hsl2:=hsl.keep hu2 (fun _ _ h=>h);have hb2:=hb.trans ((Upd.below hu2).mono hb.size);obtain⟨ir,zr,hir,hzr,hz7,hi7,hi56⟩:=Ug;have HI:=Y5 hir hzr hz7 hi7 hi56;have hm1:Hid (r.d.length+1<=maxLen):=by show _<=_;unfold maxLen;omega
   have hm2:Hid ((r.d.length+1)*56<=140737488355328):=by show _<=_;omega
   have HB:=Y6 hsl2 hf hb2 hnx hm1.out hm2.out;have HX2:Hid (u6.ownBlock≠some q):=fun e=>by have:=hsl.lt e;omega
   have HX3:Hid (recCs x=recCs x):=rfl;have HX:=Y4 hxl hxi hx1 r2;clear hsl hf hb hcell hx hnx hx1 hsl2 hb2 hw2 hu2 g2 r2 hq c0 hxx hir hzr hz7 hi7 hi56 hxl hr;have HZ0:Hid (∃z,rseq x=z):=⟨_,rfl⟩
   generalize hzz:rseq x=z at*;have HZ:=qqh hzz;clear hzz HZ0;generalize hrs:recCs x=rs at*;replace HX3:=qqh hrs;clear hrs;go_upto_region 6 with(first
    |(refine qZg rfl 101 _ rfl _ _ rfl _ _ hrow underlying101 rfl HX.o.2.1 ?_)
    |(refine zl rfl _ _ _ rfl _ _ rs rfl rfl jY HX.o.2.1 HX.o.2.2.1 ?_)
    |fail)
   rw[<-HW.o.1,<-HW.o.2.1];by_cases hz:z=r.l+1
   .subst hz;have q1:¬(((r.l+1:Nat):Int)<=(r.l:Int)):=oM;have hst:repStep r x=⟨r.d++[x],max r.g (r.l+1),r.l+1⟩:=by unfold repStep;rw[if_pos HZ.o,HZ.o]
    have HS:=qqh hst;clear hst;rcases Nat.lt_or_ge r.g (r.l+1)with hg|hg
    all_goals
     have hg':(r.g:Int)<((r.l+1:Nat):Int)\/((r.l+1:Nat):Int)<=(r.g:Int):=oM
     first
      |(have hgi:(r.g:Int)<((r.l+1:Nat):Int):=by omega)
      |(have hgi:((r.l+1:Nat):Int)<=(r.g:Int):=by omega)
     clear hg';go_wp2_with (first
      |(refine qZg rfl 101 _ rfl _ _ rfl _ _ HX.o.2.2.2 underlying101 rfl HX.o.2.1 ?_)
      |(refine xB rfl 23 101 _ rfl 7 de underlying23 ⟨ir,zr,HI.o.1,HI.o.2.1,HI.o.2.2.1,HI.o.2.2.2.1⟩ de rs rfl HX.o.1 ?_)
      |(at_builtin;refine zT rfl _ _ 23 rfl ir zr 56 underlying23 HI.o.1 HI.o.2.1 HI.o.2.2.2.1 HI.o.2.2.2.2 HI.o.2.2.1 de rfl HB.o.1 rs rfl HX.o.1 HX.o.2.2.1 hm1.out hm2.out ?_;intro v' w7 hs7 hu7 hb7;obtain⟨ao',cc',rfl⟩:=hs7.rd.j7;refine Stop.i ?_)
      |fail)
     unfold Stop;have hq2:q<w2.heap.size:=qYn w2 _ e2;have hqv:u6.ownBlock≠some q:=HX2.o;have e7:w7.cell? ⟨q,0,none⟩=some (.int .i64 ((r.l+1:Nat):Int)):=(hu7.cellAt hq2 (fun h=>hqv h)).trans e2;have hbw:Below w.heap.size w w7:=zk HB.o.2.2.1 hu7 (qXv _) (fun g hg=>HB.o.2.1 g hg);have hfv:From w.heap.size (.slice ao' (r.d.length+1) cc'):=hb7.ge (HB.o.2.2.1.size) HB.o.2.1;have hs7':Sl w7 101 7 (.slice ao' (r.d.length+1) cc') (repStep r x).d.length ((repStep r x).d.flatMap recCs):=by
      rw[HS.o];simp only[qzd,qyf,qyg,List.flatMap_nil,qxy,qze,qzh];rw[HX3.o];exact hs7
     have HN:=Y3 hbw hfv hs7';clear hbw hfv hs7' hs7 hu7 hb7 hqv;go_wp2_with fail
     go_roundg (gk-1)
     case measure=>omega
     case rel=>
      refine⟨k+1,repStep r x,oM,by go_num,HB.o.2.2.2.1.symm,?_,by rw[HS.o];simp,HN.o.2.2,HN.o.2.1,HN.o.1⟩;rw[HS.o];simp only[]
      first
       |(congr 1;omega)
       |(simp;omega)
       |(rw[Nat.max_eq_right oM];done)
       |(rw[Nat.max_eq_left oM];done)
       |(rw[Nat.max_eq_right oM];simp;done)
       |(rw[Nat.max_eq_left oM];simp)
   .have q1:¬(((z:Nat):Int)=(r.l:Int)+1):=oM;have hst:repStep r x=⟨r.d,max r.g z,r.l⟩:=by unfold repStep;rw[if_neg (by rw[HZ.o];exact hz),HZ.o]
    have HS:=qqh hst;clear hst;rcases Nat.lt_or_ge r.g z with hg|hg
    all_goals
     first
      |(have hgi:(r.g:Int)<(z:Int):=by omega)
      |(have hgi:(z:Int)<=(r.g:Int):=by omega)
     by_cases hle:(z:Int)<=(r.l:Int)
     all_goals
      go_wp2_with fail
      go_roundg (gk-1)
      case measure=>omega
      case rel=>
       refine⟨k+1,repStep r x,oM,by go_num,HB.o.2.2.2.1.symm,?_,by rw[HS.o],?_,HB.o.2.1,HB.o.2.2.1⟩
       .rw [HS.o];simp only[]
        first
         |(congr 1;omega)
         |rw[Nat.max_eq_right oM]
         |rw[Nat.max_eq_left oM]
       .rw [HS.o];exact HB.o.1
  .obtain rfl:k=L.length:=oM;have k1:¬((L.length:Int)<(L.length:Int)):=oM;rw[qXp (qXv _)]at hr;have HZ:=Y4 hsl hf hb hr;clear hsl hf hb hr;go_wp2_with fail
   try rw[qxr]
   go_ret2
   rw[<-HZ.o.2.2.2];exact⟨u6,rfl,HZ.o.1,HZ.o.2.1,HZ.o.2.2.1⟩
def Ent.In(e:Ent):Prop:=e.b<=4095/\e.s<=1023/\e.m<=4294967295
theorem WT{b:Bk}(h:okP b=true):∀e∈pgEnts b,e.In:=by
 intro e he;have hm:=Uf h;obtain⟨-,-,-,-,h4⟩:=yF h;unfold mayP at hm;rw[qxo,qxo]at hm;obtain⟨i,hi,rfl⟩:=qzv.1 he;have hi':=qzx.1 hi;have hb:=hm.2;unfold entsB at hb;have:=qxw.1 hb i (qzx.2 oM);unfold entB at this;have e3:(natsI (numsP b)).getD 3 0=(pgMany b:Int):=zU _ _;rw[e3,if_pos oM]at this;have hl:(natsI (numsP b)).length=20:=by simp[natsI,numsP,zQ,VF]
 have hrl:(rowI (natsI (numsP b)) i).length=4:=xU hl oM;have w0:=yi this (i:=0) de oM;have w1:=yi this (i:=1) de oM;have w3:=yi this (i:=3) de oM;have e:∀j (hj:j<(rowI (natsI (numsP b)) i).length),(rowI (natsI (numsP b)) i)[j]=((numsP b).getD (4+4*i+j) 0:Nat):=fun j hj=>by
  rw[<-zU,<-xy _ _ _ oM,qyh,qyn hj];rfl
 rw[e]at w0 w1 w3;simp only[bndE,qyx,qyw]at w0 w1 w3;unfold Ent.In tS;dsimp only;rw[qXs]at w0;omega
theorem WU{l:List Bk}(h:readOk l=true):(∀e∈readEs l,e.In)/\(readEs l).length<=4*l.length/\readSeq l<=1099511627776:=by
 unfold readOk at h;rw[qxo,qxo]at h;have hof:=of_decide_eq_true h.2.1;have hok:∀i<readOf l,okP (l.getD i zB)=true:=fun i hi=>by
  have:=qxw.1 h.2.2 i (qzx.2 oM);unfold goesP at this;rw[if_neg oM,qxo]at this;exact this.1
 refine⟨fun e he=>?_,?_,(yF h.1).1⟩
 .obtain ⟨i,hi,hie⟩:=qzu.1 he;exact WT (hok i (qzx.1 hi)) e hie
 .have:∀k≤readOf l,(entsTo l k).length<=4*k:=by
   intro k
   induction k with
   |zero=>intro _;exact qXv _
   |succ k ih=>
    intro hk;have:=ih oM;have h4:=(yF (hok k oM)).2.2.2.2;unfold entsTo at this⊢;rw[qXh,qyf,qzd];simp only[qyg,List.flatMap_nil,qxy,pgEnts,qzg,List.length_range];simp only[pgEnts]at this;omega
  have:=this _ (qXv _);show(entsTo l (readOf l)).length<=_;omega
theorem Eq(F:List Bk)(O:List (Nat×Bk))(base m:Nat)(hl:∀B,(secsOf F O B m).length=m):∀k,(∀e∈(nwS F O base m k).2.2.2,e.In)/\(nwS F O base m k).2.2.2.length<=4*m/\(nwS F O base m k).2.2.1<=1099511627776:=by
 intro k
 induction k with
 |zero=>exact⟨fun e h=>by simp[nwS]at h,by simp[nwS],by simp[nwS]⟩
 |succ k ih=>
  rw[nwS];split
  .rename_i h
   rw[qxo]at h;obtain⟨h1,h2,h3⟩:=WU h.1;rw[hl]at h2;exact⟨h1,h2,h3⟩
  .exact ih
theorem rE(F:List Bk)(O:List (Nat×Bk))(base n:Nat):∀k,∀r∈scanTo F O base n k,rseq r<=1099511627776/\r.getD 3 0<=4095/\r.getD 4 0<=1023:=by
 intro k
 induction k with
 |zero=>intro r h;cases h
 |succ k ih=>
  intro r h;rw[scanTo,qzq]at h;rcases h with h|h
  .exact ih r h
  .unfold scL at h;split at h
   .rename_i hs
    unfold Ye at hs;rw[qxo]at hs;have hb:=rD hs.1;rw[qzy]at h;subst h;exact⟨hb.2.1,hb.2.2.2.2.1,hb.2.2.2.2.2.1⟩
   .cases h
theorem Er(L:List (List Nat))(after:Nat):∀r∈(repS L after).d,r∈L:=by
 have:∀(L:List (List Nat)) (s:RepS),∀r∈(L.foldl repStep s).d,r∈L\/r∈s.d:=by
  intro L
  induction L with
  |nil=>intro s r h;exact .inr h
  |cons x L ih=>
   intro s r h;rcases ih _ r h with h|h
   .exact .inl (qzs _ h)
   .unfold repStep at h;split at h
    .rw [qzq,qzy]at h;rcases h with h|rfl
     .exact .inr h
     .exact .inl qzt
    .exact .inr h
 intro r h;rcases this L _ r h with h|h
 .exact h
 .cases h
def Ent.toI(e:Ent):EI:=⟨e.b,e.s,e.d,e.m⟩
theorem XA(L:List Ent):(L.map Ent.toI).flatMap EI.cs=L.flatMap entC:=by
 rw[List.flatMap_map];rfl
theorem WV(L:List (List Nat)):(L.map natsI).flatMap dsR=L.flatMap recCs:=by
 rw[List.flatMap_map];rfl
theorem zaz{D:Nat->Prop}{w:World}{b p1 p2 p3 p4 g:Nat}{F:List Bk}{O:List (Nat×Bk)}{base n:Nat}(h:ScI D w b p4 F O [] w)(hD:∀j,w.heap.size<=j->D j)(h4:p4<w.heap.size/\¬D p4)
  (h1:w.cell? ⟨p1,0,none⟩=some (.pointer (some ⟨b,0,none⟩))/\¬D p1/\p1≠p4) (h2:w.cell? ⟨p2,0,none⟩=some (.int .i64 (n:Int))/\¬D p2/\p2≠p4) (h3:w.cell? ⟨p3,0,none⟩=some (.int .i64 (base:Int))/\¬D p3/\p3≠p4)
  (hg:w.heap[g]?=some (.cells (ints (secL base n n)).toArray 3 (0,0))/\¬D g/\g≠p4) (hn:n<=1024) (hbn:base+n<=F.length) (hN:Nib w) (hND:¬D 0/\0≠p4):
  Calls prog 104 #[.slice (some ⟨g,0,none⟩) n n,.func (.func 106) #[] #[.pointer (some ⟨p1,0,none⟩),.pointer (some ⟨p2,0,none⟩),.pointer (some ⟨p3,0,none⟩),.pointer (some ⟨p4,0,none⟩)]] w fun e w'=>
   e=.returned (.int .i64 0)/\ScI D w b p4 F O (scanTo F O base n n) w':=by
 have H:=Y9 h hD h4 h1 h2 h3 hg hN hND;clear h hD h4 h1 h2 h3 hg hN hND;go_enter func104,ntmps104
 go_wp2
 go_step3
 go_wp2
 go_step3
 go_wp2_with fail
 go_loopg[5,10] n (fun gk s5 s10 wr=>∃k:Nat,k+gk=n/\s10=.int .i64 (k:Int)/\s5=.int .i64 0/\ScI D w b p4 F O (scanTo F O base n k) wr)
 case atStart=>exact⟨0,oM,rfl,rfl,H.o.1⟩
 case round=>
  obtain⟨k,hk,rfl,rfl,hS⟩:=hrel;by_cases hlt:k<n
  .have k1:(k:Int)<(n:Int):=oM;have k0:(0:Int)<=(k:Int):=oM;obtain⟨h,hD,h4,h1,h2,h3,hg,hN,hND⟩:=H.o;have hgr:=(hS.1.block g (zf hg.1) (fun h=>h.elim hg.2.1 hg.2.2)).trans hg.1;have cg:wr.cell? ⟨g,k,none⟩=some (.int .i64 ((base:Int)+(k:Int))):=by
    rw[za hgr,qyv,yt (by rw[Xz];exact hlt)];simp only[secL,qyy,List.getElem_range,if_pos hlt,qxt]
   have HC:=qqh (zcF (k:=k) hS hD h4 h1 h2 h3 hlt hn hbn (qXx (xZ F O base n k) oM) hN hND);clear h hD h4 h1 h2 h3 hg hN hND hgr hS;go_wp2_with fail
   refine HC.o.mono ?_;rintro e w2 ⟨rfl,hS2⟩;have HS2:=qqh hS2;clear hS2 HC cg;go_wp2_with fail
   go_roundg (gk-1)
   case measure=>omega
   case rel=>exact⟨k+1,oM,by go_num,rfl,HS2.o⟩
  .obtain rfl:k=n:=oM;have k1:¬((k:Int)<(k:Int)):=oM;have HS2:=qqh hS;clear hS;go_wp2_with fail
   try rw[qxr]
   go_ret
   exact⟨rfl,HS2.o⟩
open Go Go.RowKit Go.Shelf Go.Lib Go.Sort Tryz
variable{α:Type}[Inhabited α]
theorem rG(enc:α->List Value){k:Nat}(hk:∀x,(enc x).length=k)(h0:0<k):∀(L:List α) (j:Nat),j<L.length*k->(L.flatMap enc)[j]?=some ((enc L.toArray[j/k]!)[j%k]!)
 |[],j,h=>by simp at h
 |x::L,j,h=>by
  rw[qyg];by_cases hj:j<k
  .rw [qyi (by rw[hk];exact hj),Nat.div_eq_of_lt hj,qXz hj,qyn (by rw[hk];exact hj)];simp[hk,hj]
  .rw [qyj (by rw[hk];omega),hk,rG enc hk h0 L (j-k) (by simp[Nat.succ_mul]at h;omega)];have e1:j/k=(j-k)/k+1:=by rw[<-Nat.add_div_right _ h0,Nat.sub_add_cancel oM]
   have e2:j%k=(j-k)%k:=by rw[<-Nat.add_mod_right (j-k) k,Nat.sub_add_cancel oM]
   rw[e1,e2];have:(x::L).toArray[(j-k)/k+1]! =L.toArray[(j-k)/k]!:=oe;rw[this]
theorem XB{w:World}{e:TypeId}{enc:α->List Value}{k:Nat}(hk:∀x,(enc x).length=k)(h0:0<k){g off cap:Nat}{L:List α}(h:Sl w e k (.slice (some ⟨g,off,none⟩) L.length cap) L.length (L.flatMap enc)):HoldsK enc k w g off L.toArray:=by
 obtain⟨hl,⟨hv,-⟩|⟨g',off',cap',cur,hv,hg,-,-,-,hc⟩⟩:=h
 .cases hv
 .cases hv;intro j hj;rw[size_flatK]at hj;simp only[qXm]at hj;refine⟨?_,zg hg _⟩;rw[za hg,get_flatK _ _ _ _ ow];exact hc j _ (rG enc hk h0 L j hj)
theorem Zf{w:World}{e:TypeId}{enc:α->List Value}{k:Nat}(hk:∀x,(enc x).length=k)(h0:0<k){g off cap:Nat}{L:List α}(h:Sl w e k (.slice (some ⟨g,off,none⟩) L.length cap) L.length (L.flatMap enc))(d:Array α)(hd:d.size=L.length)(n:Nat)(os:Array Obj):
  Sl (sortWorldK enc k w g off n d os) e k (.slice (some ⟨g,off,none⟩) L.length cap) L.length (d.toList.flatMap enc)/\Upd (fun j=>j=g) w (sortWorldK enc k w g off n d os):=by
 obtain⟨hl,⟨hv,-⟩|⟨g',off',cap',cur,hv,hg,hnc,hcm,hsz,hc⟩⟩:=h
 .cases hv
 .cases hv;have hgl:=zf hg;have hgl':g<(w.heap.modify g (onCells (putCells id off (flatK enc k d)))).size:=by simpa using hgl
  have hheap:(sortWorldK enc k w g off n d os).heap=w.heap.modify g (onCells (putCells id off (flatK enc k d)))++os:=rfl;have hb:(sortWorldK enc k w g off n d os).heap[g]?=some (.cells (putCells id off (flatK enc k d) cur) e (0,0)):=by
   rw[hheap,Array.getElem?_append_left hgl',Array.getElem?_modify,if_pos rfl,hg];rfl
  have hlen:(d.toList.flatMap enc).length=L.length*k:=by rw[yK (f:=enc) hk,qxh,hd]
  refine⟨⟨hlen,.inr ⟨g,off,cap,_,rfl,hb,hnc,hcm,by simpa[putCells]using hsz,fun j u hj=>?_⟩⟩,rfl,rfl,rfl,by rw[hheap];simp,fun i hi hs=>?_⟩
  .have hjl:j<L.length*k:=by rw[<-hlen];exact(qyp.1 hj).1
   have hf:=rG enc hk h0 d.toList j (by rw[qxh,hd];exact hjl);rw[hf]at hj;have hoc:off+j<cur.size:=by have:=qYb k hnc;omega
   simp only[putCells,Array.getElem?_mapIdx,qxe hoc,Option.map_some];rw[if_pos ⟨oM,by rw[size_flatK,hd];omega⟩,Nat.add_sub_cancel_left,get_flatK _ _ _ _ (by rw[hd];exact hjl)];simpa using hj
  .rw [hheap,Array.getElem?_append_left ox,Array.getElem?_modify,if_neg (fun e=>hs e.symm)]
end
section
section
variable{own own':Nat->Nat}{w w':World}{ssd back:Nat}{F G:List Bk}{O Q:List (Nat×Bk)}{P:List Int}
theorem Dvs.kv(h:Dvs own w ssd back F O G Q P){S:Nat->Prop}(hu:Upd S w w')(hS:∀j,S j->own j=0/\j≠0/\j≠1):Dvs own w' ssd back F O G Q P:=by
 have hne:∀(k j:Nat),k≠0->own j=k->¬S j:=fun k j hk hj hs=>hk (hj.symm.trans (hS j hs).1);exact{h with
  ssd:=h.ssd.keep hu (fun j hj=>hne _ j de hj)
  back:=h.back.keep hu (fun j hj=>hne _ j de hj)
  far:=fun j hj=>h.far j (qXx hu.size hj)
  nib:=h.nib.keep hu (fun hs=>(hS _ hs).2.1 rfl)
  tur:=h.tur.keep hu (fun hs=>(hS _ hs).2.2 rfl)}
theorem Dvs.handed(h:Dvs own w ssd back F O G Q P){v:Value}(hf:From w.heap.size v)(_:∀g,v.ownBlock=some g->g<w'.heap.size)(hu:Upd (fun j=>own j=2\/w.heap.size<=j) w w')
  (hd:Dv (fun j=>(own j=2\/w.heap.size<=j)/\∀g,v.ownBlock=some g->g≠j) w' ssd F O []):
  ∃own',Dvs own' w' ssd back F O G Q P/\Did own own' w w'/\∀g,v.ownBlock=some g->w.heap.size<=g/\own' g=0:=by
 have h1:=h.kP hu (hd.wide (fun j h=>h.1));have d1:=h.did2 hu;have hnw:∀j,j<w.heap.size->v.ownBlock≠some j:=fun j hj e=>by have:=hf j e;omega
 refine⟨fun j=>if v.ownBlock=some j then 0 else grow own 2 w.heap.size w'.heap.size j,⟨?_,?_,fun j hj=>?_,h1.nib,h1.tur,?_,?_⟩,⟨d1.upd,fun j hj=>?_,fun j hj=>?_,fun j hj=>?_⟩,fun g hg=>⟨hf g hg,by show(if v.ownBlock=some g then 0 else _)=0;rw[if_pos hg]⟩⟩
 .refine (Dv.kU _ _ _ _).out hd (fun j hj hs=>?_);show(if v.ownBlock=some j then 0 else grow own 2 w.heap.size w'.heap.size j)=2;rw[if_neg (fun e=>hs.2 j e rfl)];unfold grow;split
  .rfl
  .rcases hs.1 with h|h
   .exact h
   .omega
 .refine (Dv.kU _ _ _ _).out h1.back (fun j hj hs=>?_);show(if v.ownBlock=some j then 0 else grow own 2 w.heap.size w'.heap.size j)=3;rw[if_neg ?_]
  .exact hs
  .intro e;have:=hf j e;have hs:grow own 2 w.heap.size w'.heap.size j=3:=hs;unfold grow at hs;rw[if_pos ⟨this,hj⟩]at hs;cases hs
 .show (if v.ownBlock=some j then 0 else _)=0;split
  .rfl
  .exact d1.far j hj
 .show (if v.ownBlock=some _ then 0 else _)=0;split
  .rfl
  .exact h1.on
 .show (if v.ownBlock=some _ then 0 else _)=0;split
  .rfl
  .exact h1.ot
 .show (if v.ownBlock=some j then 0 else _)=_;rw[if_neg (hnw j hj)];exact d1.old j hj
 .show (if v.ownBlock=some j then 0 else _)<16;split
  .decide
  .exact d1.new j hj
 .show (if v.ownBlock=some j then 0 else _)=0;split
  .rfl
  .exact d1.far j hj
end
theorem XC{own:Nat->Nat}{w:World}{c:Nat}{n:CaN}{p:CaP}{a:CaS}(h:CaAt own w c n p a)(hr:a.next+1<=a.cov+n.jo):
  Calls prog 164 #[ptr c] w (zv own w c n p a (.int .i64 0)):=by
 have HB:=qqh (Xl h);obtain⟨-,-,-,d3,-,-,-,-,-⟩:=h.cells;have q0:decide ((n.jo:Int)-((a.next:Int)-1-(a.cov:Int))>=2)=true:=by simp;omega
 have q1:(2:Int)<=(n.jo:Int)-((a.next:Int)-1-(a.cov:Int)):=oM;clear h hr;go_enter func164,ntmps164
 go_wp2_with fail
 refine HB.o.mono ?_;rintro e w1 ⟨rfl,own1,h1,hd1⟩;have H1:=Y2 h1 hd1;clear h1 hd1 HB d3;generalize (n.jo:Int)-((a.next:Int)-1-(a.cov:Int))=r at*;go_wp2
 go_ret
 exact⟨rfl,own1,H1.o.1,H1.o.2⟩
def CaN.ku(n:CaN):Nat:=1+2*n.pa+n.jo+n.lo+n.lo+n.lo
def CaS.kp(n:CaN)(a:CaS)(s:Nat)(blk:Int)(x:Bk):CaS×Int:=
 if(writeR a.dF a.dO a.dP (n.ku+s) x).cd=0 then({a with G:=sy a.G s blk}.dev (writeR a.dF a.dO a.dP (n.ku+s) x),0)
 else({{a with G:=sy a.G s blk}.dev (writeR a.dF a.dO a.dP (n.ku+s) x)with st:=turnList a.st s 4},(writeR a.dF a.dO a.dP (n.ku+s) x).cd)
theorem Uh{own:Nat->Nat}{w:World}{c:Nat}{n:CaN}{p:CaP}{a:CaS}(h:CaAt own w c n p a)(s:Nat)(hs:s<n.sl)(blk:Int)(hb:blk= -1\/(0<=blk/\blk<(n.bl:Int)))(x:Bk)(hx:x.length=64)(hO:a.dO.length<65536):
  Calls prog 296 #[ptr c,.int .i64 (s:Int),.int .i64 blk,.agg (bkC x).toArray] w (zv own w c n p (a.kp n s blk x).1 (.int .i64 (a.kp n s blk x).2)):=by
 obtain⟨w1,hw1⟩:=qqe (w.alloc (.cells (bkC x).toArray 54));have hu1:=qqu hw1;have hg1:=qqg hw1;obtain⟨m,hm⟩:=qqe (w.heap.size);have hm0:own m=0:=h.far _ oM;rw[<-hm]at hg1;have h1:=h.new hu1;have HP:=qqh (ZE h1 s hs blk hb);obtain⟨-,-,-,-,-,-,d6,-,-⟩:=h1.cells;have hfl:=h.fl;have hz:=h.ok.z;have hsz:n.ku+s<a.dF.length:=by unfold CaN.size at hfl;unfold CaN.ku;omega
 have hsz2:n.ku+s<8192:=oM;obtain⟨sc,hsc⟩:=qqe (n.ku+s);have k1:IntKind.i64.wrap ((n.ku:Int)+(s:Int))=(sc:Int):=by rw[hsc,qxt];exact qxv _ oM
 have K2:Hid ((n.ku:Int)+(s:Int)=(sc:Int)):=by show _=_;rw[hsc,qxt]
 have H:=Y7 hm0 (h.ki hu1) hg1 hsz hx hO hsc;have HM:=qqh hm;have HW1:=qqh hw1;have d6':=d6;rw[hw1]at d6';have hut:=underlying54;have hsi:=zw x hx;clear h hb hx hO hu1 hg1 h1 hfl hz hsz hsz2 hm0 hm hw1 d6 hs;go_enter func296,ntmps296
 go_wp2_with fail
 rw[<-HW1.o,<-HM.o];refine HP.o.mono ?_;rintro e w2 ⟨rfl,own2,h2,hd2⟩;obtain⟨hm0,hd1,hg1,hsz,hx,hO,hsc⟩:=H.o;obtain⟨e0,-,-,-,-,-,-,-,-⟩:=h2.cells;obtain⟨-,-,-,e5⟩:=h2.lay;have e5:w2.cell? ⟨c,12,none⟩=some (.int .i64 (n.ku:Int)):=by rw[e5];congr 2
 have r2:=hd2.upd.range (zh hg1) (fun h=>h.1 hm0);have hm2:own2 m=0:=(hd2.old m (zf hg1)).trans hm0;have HD:=Y4 h2 (hd1.trans hd2) hm2 hsc;have HWr:=qqh (ZQ (h2.new ((uur (fun _=>False) w2).drew)) sc (by rw[hsc];exact hsz) x hx hO);clear hm0 hd1 hg1 hsz hx hO hsc h2 hd2 hm2 HP d6';go_upto_region 2 with fail
 refine qZj (S:=fun W=>W.cell? ⟨c,14,none⟩=some (ptr p.ssd)/\W.cell? ⟨c,12,none⟩=some (.int .i64 (n.ku:Int))/\W.rangeAt m 0 (bkC x)) kR (by(simp only[qYo,qYq]);exact⟨e0,e5,r2⟩) (fun hHeld=>?_);refine Wl.i [0,1,2,3,4,5,6,7,8,9,10] ?_;iterate 11 refine Wl.t hHeld ?_
 refine Wl.o ?_;refine Wl.l 11 (fun w h=>h.2.2) hut hsi hHeld ?_;refine Wl.r 12 (fun K hK=>?_);go_simp
 rw[K2.out];refine HWr.out.mono ?_;rintro e w3 ⟨rfl,own3,h3,hd3⟩;obtain⟨i0,-,-,-,-,g5,-,-,-⟩:=h3.cells;obtain⟨-,-,-,i5⟩:=h3.lay;have i5:w3.cell? ⟨c,12,none⟩=some (.int .i64 (n.ku:Int)):=by rw[i5];congr 2
 have r3:=hd3.upd.range (show w2.drew.rangeAt m 0 (bkC x) by rw[qYq];exact r2) (fun h=>h.1 HD.o.2.2.1);have HT:=qqh (xg h3 s 4);have H3:=Y2 h3 ((HD.o.2.1.drew).trans hd3);clear h3 hd3;refine hK.o _ _ (⟨i0,i5,r3⟩) (fun hH1=>?_);clear hK K;refine Wl.r 13 (fun K hK=>?_);go_simp
 refine hK.o _ _ (hH1) (fun hH2=>?_);clear hK K;refine Wl.d ?_;have hR:a.kp n s blk x=a.kp n s blk x:=rfl
 conv at hR=>rhs;unfold CaS.kp
 rw[<-HD.o.2.2.2]at hR⊢;simp only at HT H3⊢;generalize writeR a.dF a.dO a.dP sc x=r at*;have HRr:=qqh hR;clear hR hHeld hH1 hH2 i0 i5 r3 r2 e0 e5 HWr;by_cases hc:r.cd=0
 .have HZ:=qqh hc;rw[hc];clear hc;go_wp2
  go_ret
  rw[HRr.out,if_pos HZ.o];exact⟨rfl,own3,H3.o.1,H3.o.2⟩
 .have q0:(r.cd==0)=false:=by simpa using hc
  go_wp2_with fail
  refine HT.o.mono ?_;rintro e w4 ⟨rfl,own4,h4,hd4⟩;have H4:=Y2 h4 hd4;clear h4 hd4 g5 HT;go_wp2
  go_ret
  rw[HRr.out,if_neg hc];exact⟨rfl,own4,H4.o.1,H3.o.2.trans H4.o.2⟩
end
end Go.Proofs.YtfhfbpmlnjdfoaaGreatDoor
