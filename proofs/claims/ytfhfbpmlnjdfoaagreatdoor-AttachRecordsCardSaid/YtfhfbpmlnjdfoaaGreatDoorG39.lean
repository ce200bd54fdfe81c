/- The journal: Replay. Bounds of what a checkpoi -/
import Derived.Test.YtfhfbpmlnjdfoaaGreatDoorG38
set_option maxRecDepth 100000
set_option maxHeartbeats 4000000
namespace Go.Proofs.YtfhfbpmlnjdfoaaGreatDoor
open Go Go.RowKit
def rseq(r:List Nat):Nat:=r.getD 0 0
structure RepS where
 d:List (List Nat)
 g:Nat
 l:Nat
def repStep(s:RepS)(r:List Nat):RepS:=if rseq r=s.l+1 then⟨s.d++[r],max s.g (rseq r),rseq r⟩else ⟨s.d,max s.g (rseq r),s.l⟩
def repS(L:List (List Nat))(after:Nat):RepS:=L.foldl repStep ⟨[],after,after⟩
theorem uO(L:List (List Nat))(after:Nat){k:Nat}(hk:k<L.length):repS (L.take (k+1)) after=repStep (repS (L.take k) after) L[k]:=by
 rw[qXq hk,repS,List.foldl_append];rfl
theorem XQ{s:RepS}{r:List Nat}{N:Nat}(hs:s.g<=N/\s.l<=N)(hr:rseq r<=N):(repStep s r).g<=N/\(repStep s r).l<=N/\(repStep s r).d.length<=s.d.length+1:=by
 unfold repStep;split
 .exact ⟨Nat.max_le.2 ⟨hs.1,hr⟩,hr,by simp⟩
 .exact ⟨Nat.max_le.2 ⟨hs.1,hr⟩,hs.2,by simp⟩
theorem Zn{L:List (List Nat)}{after N:Nat}(ha:after<=N)(hL:∀r∈L,rseq r<=N):∀k,k<=L.length->(repS (L.take k) after).g<=N/\(repS (L.take k) after).l<=N/\(repS (L.take k) after).d.length<=k
 |0,_=>⟨ha,ha,qXv _⟩
 |k+1,hk=>by
  obtain⟨h1,h2,h3⟩:=Zn ha hL k (by omega);obtain⟨q1,q2,q3⟩:=XQ (r:=L[k]'(by omega)) ⟨h1,h2⟩ (hL _ (qyz _));rw[uO L after (by omega)];exact⟨q1,q2,by omega⟩
def Ep(w:World)(r:RepS)(e:Ending)(w':World):Prop:=
 ∃v,e=.returned (.tuple #[v,.int .i64 (r.g:Nat)])/\Sl w' 101 7 v r.d.length (r.d.flatMap recCs)/\From w.heap.size v/\Below w.heap.size w w'
theorem QC{w:World}{g o:Nat}{L:List (List Nat)}(h:∀j u,(L.flatMap recCs)[j]?=some u->w.cell? ⟨g,o+j,none⟩=some u){k:Nat}(hk:k<L.length):w.rangeAt g (o+k*7) (recCs L[k]):=by
 intro j v hj;have hj':j<7:=(qyp.1 hj).1;rw[qXr];refine h _ v ?_;have:∀(L:List (List Nat)) (k:Nat) (hk:k<L.length),(L.flatMap recCs)[k*7+j]?=(recCs L[k])[j]?:=by
  intro L
  induction L with
  |nil=>intro k hk;simp at hk
  |cons x L ih=>
   intro k hk;rw[qyg];cases k with
   |zero=>rw[qYg,qYe,qyi (by show j<7;exact hj')];rfl
   |succ k=>
    rw[qyj (by show 7<=_;omega)];show(L.flatMap recCs)[(k+1)*7+j-7]?=_;rw[show(k+1)*7+j-7=k*7+j by omega];exact ih k (by simpa using hk)
 rw[this L k hk];exact hj
theorem SI{w:World}{v:Value}{L:List (List Nat)}(hs:Rd w 7 v L.length (L.flatMap recCs))(after:Nat)(ha:after<=1099511627776)(hL:∀r∈L,rseq r<=1099511627776)(hl1:L.length<=1024):
  Calls Tryz.prog 70 #[v,.int .i64 (after:Int)] w (Ep w (repS L after)):=by
 obtain⟨ao,cap,rfl⟩:=hs.nil_iff;have H:=Y3 hs ha hL;clear hs;go_enter Tryz.func70,Tryz.ntmps70
 go_wp2
 go_step3
 go_wp2
 go_step3
 go_wp2_with fail
 go_loopg[6,7,8,15] L.length (fun gk s6 s7 s8 s15 wr=>∃k:Nat,∃r:RepS,k+gk=L.length/\s15=.int .i64 (k:Int)/\r=repS (L.take k) after/\s7=.int .i64 (r.g:Nat)/\s8=.int .i64 (r.l:Nat)/\Sl wr 101 7 s6 r.d.length (r.d.flatMap recCs)/\From w.heap.size s6/\Below w.heap.size w wr)
 case atStart=>exact⟨0,⟨[],after,after⟩,by omega,rfl,rfl,rfl,rfl,Sl.nil _ _ _,From.nil _ _ _,qxl _ _⟩
 case round=>
  obtain⟨k,r,hk,rfl,hr,rfl,rfl,hsl,hf,hb⟩:=hrel;by_cases hlt:k<L.length
  .have k1:(k:Int)<(L.length:Int):=by omega
   have k0:(0:Int)<=(k:Int):=by omega
   obtain⟨g,o,cp,e,hgl,hcell⟩:=H.o.1.at (by omega);cases e;obtain⟨b1,b2,b3⟩:=Zn H.o.2.1 H.o.2.2 k (by omega);rw[<-hr]at b1 b2 b3;have hx:=QC hcell hlt;have hnx:=uO L after hlt;rw[<-hr]at hnx;have hsq:=H.o.2.2 _ (qyz hlt);obtain⟨x,hxx⟩:=qqe (L[k]);rw[<-hxx]at hx hnx hsq;have hrow:wr.rangeAt g (o+k*7) (recCs x):=Below.range hb hx;have c0:wr.cell? ⟨g,o+k*7,none⟩=some (.int .i64 (rseq x:Nat)):=by
    have:=hrow 0 (.int .i64 ((natsI x).getD 0 0)) rfl;rw[yi]at this;exact this
   have hxl:(recCs x).length=7:=rfl;have hx1:∀v∈recCs x,v.oneCell'=true:=wU (natsI x);have hxi:(Tryz.prog.info? 101).map (·.size)=some (recCs x).length:=infoThR;obtain⟨w2,hw2⟩:=qqe (wr.alloc (.cells (recCs x).toArray 101));have hu2:Upd (fun _=>False) wr w2:=by rw[hw2];exact(uur _ wr).alloc _
   have g2:w2.heap[wr.heap.size]?=some (.cells (recCs x).toArray 101 (0,0)):=by rw[hw2];exact zc wr _ rfl
   have r2:=zg g2;have e2:w2.cell? ⟨wr.heap.size,0,none⟩=some (.int .i64 (rseq x:Nat)):=by
    have:=r2 0 (.int .i64 ((natsI x).getD 0 0)) rfl;rw[yi]at this;exact this
   obtain⟨q,hq⟩:=qqe (wr.heap.size);rw[<-hq]at r2 e2;have HW:=Y3 hw2 hq hx1;have hsl2:=hsl.keep hu2 (fun _ _ h=>h);have hb2:=hb.trans ((Upd.below hu2).mono hb.size);obtain⟨ir,zr,hir,hzr,hz7,hi7,hi56⟩:=WR;have HI:=Y5 hir hzr hz7 hi7 hi56;have hm1:Hid (r.d.length+1<=maxLen):=by show _<=_;unfold maxLen;omega
   have hm2:Hid ((r.d.length+1)*56<=140737488355328):=by show _<=_;omega
   have HB:=Y6 hsl2 hf hb2 hnx hm1.out hm2.out;have HX2:Hid (u6.ownBlock≠some q):=fun e=>by have:=hsl.lt e;omega
   have HX3:Hid (recCs x=recCs x):=rfl;have HX:=Y4 hxl hxi hx1 r2;clear hsl hf hb hcell hx hnx hx1 hsl2 hb2 hw2 hu2 g2 r2 hq c0 hxx hir hzr hz7 hi7 hi56 hxl hr;have HZ0:Hid (∃z,rseq x=z):=⟨_,rfl⟩
   generalize hzz:rseq x=z at*;have HZ:=qqh hzz;clear hzz HZ0;generalize hrs:recCs x=rs at*;replace HX3:=qqh hrs;clear hrs;go_upto_region 6 with(first
    |(refine qZg rfl 101 _ rfl _ _ rfl _ _ hrow Tryz.underlying101 rfl HX.o.2.1 ?_)
    |(refine zk rfl _ _ _ rfl _ _ rs rfl rfl (by rw[HX.o.1];rfl) HX.o.2.1 HX.o.2.2.1 ?_)
    |fail)
   rw[<-HW.o.1,<-HW.o.2.1];by_cases hz:z=r.l+1
   .subst hz;have q1:¬(((r.l+1:Nat):Int)<=(r.l:Int)):=by omega
    have hst:repStep r x=⟨r.d++[x],max r.g (r.l+1),r.l+1⟩:=by unfold repStep;rw[if_pos HZ.o,HZ.o]
    have HS:=qqh hst;clear hst;rcases Nat.lt_or_ge r.g (r.l+1)with hg|hg
    all_goals
     have hg':(r.g:Int)<((r.l+1:Nat):Int)\/((r.l+1:Nat):Int)<=(r.g:Int):=by omega
     first
      |(have hgi:(r.g:Int)<((r.l+1:Nat):Int):=by omega)
      |(have hgi:((r.l+1:Nat):Int)<=(r.g:Int):=by omega)
     clear hg';go_wp2_with (first
      |(refine qZg rfl 101 _ rfl _ _ rfl _ _ HX.o.2.2.2 Tryz.underlying101 rfl HX.o.2.1 ?_)
      |(refine xz rfl 23 101 _ rfl 7 (by decide) Tryz.underlying23 ⟨ir,zr,HI.o.1,HI.o.2.1,HI.o.2.2.1,HI.o.2.2.2.1⟩ (by decide) rs rfl HX.o.1 ?_)
      |(at_builtin;refine zP rfl _ _ 23 rfl ir zr 56 Tryz.underlying23 HI.o.1 HI.o.2.1 HI.o.2.2.2.1 HI.o.2.2.2.2 HI.o.2.2.1 (by decide) rfl HB.o.1 rs rfl HX.o.1 HX.o.2.2.1 hm1.out hm2.out ?_;intro v' w7 hs7 hu7 hb7;obtain⟨ao',cc',rfl⟩:=hs7.rd.nil_iff;refine Stop.i ?_)
      |fail)
     unfold Stop;have hq2:q<w2.heap.size:=qYn w2 _ e2;have hqv:u6.ownBlock≠some q:=HX2.o;have e7:w7.cell? ⟨q,0,none⟩=some (.int .i64 ((r.l+1:Nat):Int)):=(hu7.cellAt hq2 (fun h=>hqv h)).trans e2;have hbw:Below w.heap.size w w7:=zj HB.o.2.2.1 hu7 (qXv _) (fun g hg=>HB.o.2.1 g hg);have hfv:From w.heap.size (.slice ao' (r.d.length+1) cc'):=hb7.ge (HB.o.2.2.1.size) HB.o.2.1;have hs7':Sl w7 101 7 (.slice ao' (r.d.length+1) cc') (repStep r x).d.length ((repStep r x).d.flatMap recCs):=by
      rw[HS.o];simp only[qzd,qyf,qyg,List.flatMap_nil,qxy,qze,qzh];rw[HX3.o];exact hs7
     have HN:=Y3 hbw hfv hs7';clear hbw hfv hs7' hs7 hu7 hb7 hqv;go_wp2_with fail
     go_roundg (gk-1)
     case measure=>omega
     case rel=>
      refine⟨k+1,repStep r x,by omega,by go_num,HB.o.2.2.2.1.symm,?_,by rw[HS.o];simp,HN.o.2.2,HN.o.2.1,HN.o.1⟩;rw[HS.o];simp only[]
      first
       |(rw[Nat.max_eq_right (by omega)];done)
       |(rw[Nat.max_eq_left (by omega)];done)
       |(rw[Nat.max_eq_right (by omega)];simp;done)
       |(rw[Nat.max_eq_left (by omega)];simp)
   .have q1:¬(((z:Nat):Int)=(r.l:Int)+1):=by omega
    have hst:repStep r x=⟨r.d,max r.g z,r.l⟩:=by unfold repStep;rw[if_neg (by rw[HZ.o];exact hz),HZ.o]
    have HS:=qqh hst;clear hst;rcases Nat.lt_or_ge r.g z with hg|hg
    all_goals
     first
      |(have hgi:(r.g:Int)<(z:Int):=by omega)
      |(have hgi:(z:Int)<=(r.g:Int):=by omega)
     by_cases hle:(z:Int)<=(r.l:Int)
     all_goals
      go_wp2_with fail
      go_roundg (gk-1)
      case measure=>omega
      case rel=>
       refine⟨k+1,repStep r x,by omega,by go_num,HB.o.2.2.2.1.symm,?_,by rw[HS.o],?_,HB.o.2.1,HB.o.2.2.1⟩
       .rw [HS.o];simp only[]
        first
         |rw[Nat.max_eq_right (by omega)]
         |rw[Nat.max_eq_left (by omega)]
       .rw [HS.o];exact HB.o.1
  .obtain rfl:k=L.length:=by omega
   have k1:¬((L.length:Int)<(L.length:Int)):=by omega
   rw[qXp (qXv _)]at hr;have HZ:=Y4 hsl hf hb hr;clear hsl hf hb hr;go_wp2_with fail
   try rw[qxr]
   go_ret2
   rw[<-HZ.o.2.2.2];exact⟨u6,rfl,HZ.o.1,HZ.o.2.1,HZ.o.2.2.1⟩
def Ent.In(e:Ent):Prop:=e.b<=4095/\e.s<=1023/\e.m<=4294967295
theorem XR{b:Bk}(h:okP b=true):∀e∈pgEnts b,e.In:=by
 intro e he;have hm:=WQ h;obtain⟨-,-,-,-,h4⟩:=yB h;unfold mayP at hm;rw[qxo,qxo]at hm;obtain⟨i,hi,rfl⟩:=qzv.1 he;have hi':=qzx.1 hi;have hb:=hm.2;unfold entsB at hb;have:=qxw.1 hb i (qzx.2 (by omega));unfold entB at this;have e3:(natsI (numsP b)).getD 3 0=(pgMany b:Int):=zR _ _;rw[e3,if_pos (by omega)]at this;have hl:(natsI (numsP b)).length=20:=by simp[natsI,numsP,zC,szP]
 have hrl:(rowI (natsI (numsP b)) i).length=4:=xS hl (by omega);have w0:=zZ this (i:=0) (by decide) (by omega);have w1:=zZ this (i:=1) (by decide) (by omega);have w3:=zZ this (i:=3) (by decide) (by omega);have e:∀j (hj:j<(rowI (natsI (numsP b)) i).length),(rowI (natsI (numsP b)) i)[j]=((numsP b).getD (4+4*i+j) 0:Nat):=fun j hj=>by
  rw[<-zR,<-xt _ _ _ (by omega),qyh,qyn hj];rfl
 rw[e]at w0 w1 w3;simp only[bndE,qyx,qyw]at w0 w1 w3;unfold Ent.In tf;dsimp only;rw[qXs]at w0;omega
theorem XS{l:List Bk}(h:readOk l=true):(∀e∈readEs l,e.In)/\(readEs l).length<=4*l.length/\readSeq l<=1099511627776:=by
 unfold readOk at h;rw[qxo,qxo]at h;have hof:=of_decide_eq_true h.2.1;have hok:∀i<readOf l,okP (l.getD i zB)=true:=fun i hi=>by
  have:=qxw.1 h.2.2 i (qzx.2 (by omega));unfold goesP at this;rw[if_neg (by omega),qxo]at this;exact this.1
 refine⟨fun e he=>?_,?_,(yB h.1).1⟩
 .obtain ⟨i,hi,hie⟩:=qzu.1 he;exact XR (hok i (qzx.1 hi)) e hie
 .have:∀k≤readOf l,(entsTo l k).length<=4*k:=by
   intro k
   induction k with
   |zero=>intro _;exact qXv _
   |succ k ih=>
    intro hk;have:=ih (by omega);have h4:=(yB (hok k (by omega))).2.2.2.2;unfold entsTo at this⊢;rw[qXh,qyf,qzd];simp only[qyg,List.flatMap_nil,qxy,pgEnts,qzg,List.length_range];simp only[pgEnts]at this;omega
  have:=this _ (qXv _);show(entsTo l (readOf l)).length<=_;omega
theorem SJ(F:List Bk)(O:List (Nat×Bk))(base m:Nat)(hl:∀B,(secsOf F O B m).length=m):∀k,(∀e∈(nwS F O base m k).2.2.2,e.In)/\(nwS F O base m k).2.2.2.length<=4*m/\(nwS F O base m k).2.2.1<=1099511627776:=by
 intro k
 induction k with
 |zero=>exact⟨fun e h=>by simp[nwS]at h,by simp[nwS],by simp[nwS]⟩
 |succ k ih=>
  rw[nwS];split
  .rename_i h
   rw[qxo]at h;obtain⟨h1,h2,h3⟩:=XS h.1;rw[hl]at h2;exact⟨h1,h2,h3⟩
  .exact ih
theorem qJ(F:List Bk)(O:List (Nat×Bk))(base n:Nat):∀k,∀r∈scanTo F O base n k,rseq r<=1099511627776/\r.getD 3 0<=4095/\r.getD 4 0<=1023:=by
 intro k
 induction k with
 |zero=>intro r h;cases h
 |succ k ih=>
  intro r h;rw[scanTo,qzq]at h;rcases h with h|h
  .exact ih r h
  .unfold scL at h;split at h
   .rename_i hs
    unfold YJ at hs;rw[qxo]at hs;have hb:=qI hs.1;rw[qzy]at h;subst h;exact⟨hb.2.1,hb.2.2.2.2.1,hb.2.2.2.2.2.1⟩
   .cases h
theorem SK(L:List (List Nat))(after:Nat):∀r∈(repS L after).d,r∈L:=by
 have:∀(L:List (List Nat)) (s:RepS),∀r∈(L.foldl repStep s).d,r∈L\/r∈s.d:=by
  intro L
  induction L with
  |nil=>intro s r h;exact .inr h
  |cons x L ih=>
   intro s r h;rcases ih _ r h with h|h
   .exact .inl (qzs _ h)
   .unfold repStep at h;split at h
    .rw [qzq,qzy]at h;rcases h with h|rfl
     .exact .inr h
     .exact .inl qzt
    .exact .inr h
 intro r h;rcases this L _ r h with h|h
 .exact h
 .cases h
def Ent.toI(e:Ent):EI:=⟨e.b,e.s,e.d,e.m⟩
theorem YK(L:List Ent):(L.map Ent.toI).flatMap EI.cs=L.flatMap entC:=by
 rw[List.flatMap_map];rfl
theorem XT(L:List (List Nat)):(L.map natsI).flatMap dsR=L.flatMap recCs:=by
 rw[List.flatMap_map];rfl
theorem uP{P:Nat->Bk->Prop}:∀(O:List (Nat×Bk)) (F:List Bk),(∀s,s<F.length->P s (F.getD s zB))->(∀q∈O,P q.1 q.2)->∀s,s<F.length->P s ((flushF F O).getD s zB)
 |[],_,hF,_=>hF
 |q::O,F,hF,hO=>fun s hs=>by
  have h1:∀s,s<(F.set q.1 q.2).length->P s ((F.set q.1 q.2).getD s zB):=fun s hs=>by
   rw[yh];split
   .next h=>rw[<-h.1];exact hO q qzt
   .exact hF s (by simpa using hs)
  exact uP O (F.set q.1 q.2) h1 (fun q hq=>hO q (qzs _ hq)) s (by simpa using hs)
theorem qK{F:List Bk}{O:List (Nat×Bk)}{s:Nat}(h:∀q∈O,q.1≠s):(flushF F O).getD s zB=F.getD s zB:=by
 rw[qyh,uU h,qyh]
theorem se{y:Bk}{s:Nat}:∀(O:List (Nat×Bk)) (F:List Bk),(∃q∈O,q.1=s)->(∀q∈O,q.1=s->q.2=y)->s<F.length->(flushF F O).getD s zB=y
 |[],_,h,_,_=>by obtain⟨q,hq,-⟩:=h;cases hq
 |q::O,F,h,h2,hs=>by
  show(flushF (F.set q.1 q.2) O).getD s zB=y;by_cases hO:∃q∈O,q.1=s
  .exact se O _ hO (fun q hq=>h2 q (qzs _ hq)) (by simpa using hs)
  .have hq:q.1=s:=by
    obtain⟨r,hr,e⟩:=h;rcases qzr.1 hr with rfl|hr
    .exact e
    .exact absurd ⟨r,hr,e⟩ hO
   rw[qK (fun r hr e=>hO ⟨r,hr,e⟩),yh,if_pos ⟨hq,by rw[hq];exact hs⟩];exact h2 q qzt hq
def EnOk(n:CaN)(L:List Ent):Prop:=(∀x∈L,x.b<n.bl/\x.s<n.sl/\x.m<=4294967295)/\(L.map (·.s)).Nodup/\L.Pairwise (fun x y=>x.b<y.b)
def tu(E:Nat->List Ent)(top i:Nat)(y:Bk):Prop:=okP y=false\/∃s,s<=top/\i<needN (E s).length/\y=sectP (pageXs s (needN (E s).length) (E s) i)
def Js(jo:Nat)(R:Nat->List Int)(f0 top j:Nat)(y:Bk):Prop:=y=zB\/∃t,f0<t/\t<=top/\(t-1)%jo=j/\y=sectR (R t)
theorem tu.mono{E:Nat->List Ent}{top top' i:Nat}{y:Bk}(h:tu E top i y)(ht:top<=top'):tu E top' i y:=h.imp (fun h=>h) (fun⟨s,h1,h2⟩=>⟨s,qXx h1 ht,h2⟩)
theorem Js.mono{jo f0 top top' j:Nat}{R:Nat->List Int}{y:Bk}(h:Js jo R f0 top j y)(ht:top<=top'):Js jo R f0 top' j y:=h.imp (fun h=>h) (fun⟨t,h1,h2,h3⟩=>⟨t,h1,qXx h2 ht,h3⟩)
def enM(L:List Ent):Int->Option EI:=apM (L.map Ent.toI)
abbrev CaN.jb(n:CaN):Nat:=1+2*n.pa
def OOk(n:CaN)(wh:Nat)(E:Nat->List Ent)(R:Nat->List Int)(com fp:Nat)(q:Nat×Bk):Prop:=
 (∃i,i<n.pa/\q.1=1+(1-wh)*n.pa+i/\tu E fp i q.2)\/(∃t,com<t/\t<=fp/\q=(n.jb+(t-1)%n.jo,sectR (R t)))\/n.slot0<=q.1
structure Hs(n:CaN)(Z:Nat->Bk)(a:CaS)(E:Nat->List Ent)(R:Nat->List Int)(f0 com fp:Nat):Prop where
 pl:Pl a.dP
 dl:a.dF.length=n.size
 f1:f0<=a.cov
 c1:a.cov<=com
 c2:com+a.W.length+1=a.next
 c3:com<=fp
 c4:fp+1<=a.next
 c5:a.next<=a.cov+n.jo+1
 wh:a.which<=1
 wq:∀i,i<a.W.length->a.W[i]?=some (com+1+i,sectR (R (com+1+i)))
 rc:∀t,f0<t->t<a.next->((R t).length=7/\mayR (R t)=true/\(R t).getD 0 0=(t:Int)/\(R t).getD 1 0=(((t-1)/n.jo:Nat):Int))/\enM (E t)=apR (enM (E (t-1))) (R t)
 en:∀t,t<a.next->EnOk n (E t)
 cur:E (a.next-1)=a.ents n
 fx:∀s,s=0\/(n.jb+n.jo<=s/\s<n.slot0)->a.dF.getD s zB=Z s
 o0:∀q∈a.dO,OOk n a.which E R com fp q
 sd:∀i,i<n.pa->a.dF.getD (1+a.which*n.pa+i) zB=(pagesB a.cov (E a.cov)).getD i zB
 so:∀i,i<n.pa->tu E fp i (a.dF.getD (1+(1-a.which)*n.pa+i) zB)
 jr:∀j,j<n.jo->Js n.jo R f0 fp j (a.dF.getD (n.jb+j) zB)
 jw:∀t,a.cov<t->t<=com->a.dF.getD (n.jb+(t-1)%n.jo) zB=sectR (R t)
 sl:∀t,com<=t->t<a.next->∀x∈E t,(a.st.getD x.s 0=2\/a.st.getD x.s 0=3)/\crcC (curB a.dF a.dO (n.slot0+x.s))=x.m
 sf:∀t,com<=t->t<=fp->∀x∈E t,crcC (a.dF.getD (n.slot0+x.s) zB)=x.m
theorem CaN.slot0_eq(n:CaN):n.slot0=1+2*n.pa+n.jo+n.lo+n.lo+n.lo:=rfl
theorem CaN.size_eq(n:CaN):n.size=n.slot0+n.sl:=rfl
theorem mod_one{jo t t':Nat}(h:(t-1)%jo=(t'-1)%jo)(h1:t<t')(h2:t'<t+jo)(h0:1<=t):False:=by
 have e1:=Nat.div_add_mod (t-1) jo;have e2:=Nat.div_add_mod (t'-1) jo;rcases Nat.lt_or_ge ((t-1)/jo) ((t'-1)/jo)with hl|hl
 .have:=Nat.mul_le_mul_left jo (Nat.succ_le_of_lt hl);rw[Nat.mul_succ]at this;omega
 .have:=Nat.mul_le_mul_left jo hl;omega
section
variable{n:CaN}{Z:Nat->Bk}{a b:CaS}{E:Nat->List Ent}{R:Nat->List Int}{f0 com fp:Nat}
theorem Jt(m:Nat){k:Nat}(h:k<=1):k*m=0/\(1-k)*m=m\/k*m=m/\(1-k)*m=0:=by
 rcases(show k=0\/k=1 by omega)with rfl|rfl
 .left;simp
 .right;simp
theorem Hs.tail(h:Hs n Z a E R f0 com fp):Hs n Z {a with dP:=a.dP.tail} E R f0 com fp:={h with pl:=h.pl.tail}
theorem Hs.flushed(h:Hs n Z a E R f0 com fp)(hj:1<=n.jo):Hs n Z {a with dF:=flushF a.dF a.dO,dO:=[],dP:=a.dP.tail} E R f0 com (a.next-1):=by
 have hz:=n.size_eq;have hs0:=n.slot0_eq;have hdl:=h.dl;have hwm:=Jt n.pa h.wh;have c2:=h.c2;have c4:=h.c4;have hmod:∀t,(t-1)%n.jo<n.jo:=fun t=>qYa _ (by omega);have hmiss:∀s,(∀i,i<n.pa->s≠1+(1-a.which)*n.pa+i)->(∀t,com<t->t<=fp->s≠n.jb+(t-1)%n.jo)->s<n.slot0->(flushF a.dF a.dO).getD s zB=a.dF.getD s zB:=fun s h1 h2 h3=>
  qK (fun q hq e=>by
   rcases h.o0 q hq with⟨i,hi,e2,-⟩|⟨t,ht1,ht2,e2⟩|h4
   .exact h1 i hi (by rw[<-e,e2])
   .exact h2 t ht1 ht2 (by rw[<-e,e2])
   .omega)
 refine{h with
  pl:=h.pl.tail
  dl:=by show(flushF a.dF a.dO).length=_;rw[zH];exact h.dl
  c3:=by omega
  c4:=by show a.next-1+1<=a.next;omega
  fx:=fun s hs=>?_
  o0:=fun q hq=>by cases hq
  sd:=fun i hi=>?_
  so:=fun i hi=>?_
  jr:=fun j hj=>?_
  jw:=fun t h1 h2=>?_
  sl:=fun t h1 h2 x hx=>h.sl t h1 h2 x hx
  sf:=fun t h1 h2 x hx=>(h.sl t h1 (by omega) x hx).2}
 .show (flushF a.dF a.dO).getD s zB=Z s;rw[hmiss s (fun i hi=>by simp only[CaN.jb]at hs;omega) (fun t h1 h2=>by have:=hmod t;simp only[CaN.jb]at hs⊢;omega) (by simp only[CaN.jb]at hs;omega)];exact h.fx s hs
 .show (flushF a.dF a.dO).getD (1+a.which*n.pa+i) zB=_;rw[hmiss _ (fun k hk=>by omega) (fun t h1 h2=>by have:=hmod t;simp only[CaN.jb];omega) (by omega)];exact h.sd i hi
 .have:=uP (P:=fun s y=>∀i,i<n.pa->s=1+(1-a.which)*n.pa+i->tu E (a.next-1) i y) a.dO a.dF (fun s _ i hi e=>by subst e;exact(h.so i hi).mono (by omega)) (fun q hq i hi e=>by
   rcases h.o0 q hq with⟨i',hi',e2,hp⟩|⟨t,ht1,ht2,e2⟩|h4
   .obtain rfl:i=i':=by omega
    exact hp.mono (by omega)
   .rw [e2]at e;have:=hmod t;simp only[CaN.jb]at e;omega
   .omega) (1+(1-a.which)*n.pa+i) (by omega) i hi rfl
  exact this
 .have:=uP (P:=fun s y=>∀j,j<n.jo->s=n.jb+j->Js n.jo R f0 (a.next-1) j y) a.dO a.dF (fun s _ i hi e=>by subst e;exact(h.jr i hi).mono (by omega)) (fun q hq i hi e=>by
   rcases h.o0 q hq with⟨i',hi',e2,hp⟩|⟨t,ht1,ht2,e2⟩|h4
   .simp only[CaN.jb]at e;omega
   .rw [e2]at e⊢;have e:n.jb+(t-1)%n.jo=n.jb+i:=e;exact .inr ⟨t,by have:=h.f1;have:=h.c1;omega,by omega,by omega,rfl⟩
   .simp only[CaN.jb]at e;omega) (n.jb+j) (by simp only[CaN.jb];omega) j hj rfl
  exact this
 .show (flushF a.dF a.dO).getD _ zB=_;have:=hmod t;have h1:a.cov<t:=h1;have c5:=h.c5;rw[hmiss _ (fun i hi=>by simp only[CaN.jb];omega) (fun t' h3 h4 e=>mod_one (jo:=n.jo) (t:=t) (t':=t') (by omega) (by omega) (by omega) (by omega)) (by simp only[CaN.jb];omega)];exact h.jw t h1 h2
theorem Hs.flush(h:Hs n Z a E R f0 com fp)(hj:1<=n.jo):((flushR a.dF a.dO a.dP).cd≠0/\Hs n Z (a.dev (flushR a.dF a.dO a.dP)) E R f0 com fp)\/((flushR a.dF a.dO a.dP).cd=0/\Hs n Z (a.dev (flushR a.dF a.dO a.dP)) E R f0 com (a.next-1)/\(flushR a.dF a.dO a.dP).O=[]):=by
 rcases h.pl.fate with hf|hf
 .have e:flushR a.dF a.dO a.dP=⟨flushF a.dF a.dO,[],a.dP.tail,0⟩:=by unfold flushR;rw[if_neg (by rw[hf];decide),if_pos hf]
  rw[e];exact .inr ⟨rfl,h.flushed hj,rfl⟩
 .have e:flushR a.dF a.dO a.dP=⟨a.dF,a.dO,a.dP.tail,21⟩:=by unfold flushR;rw[if_pos hf]
  rw[e];exact .inl ⟨show (21:Int)≠0 by decide,h.tail⟩
theorem Hs.wrote(h:Hs n Z a E R f0 com fp)(s:Nat)(y:Bk)(ho:OOk n a.which E R com fp (s,y))(hsl:n.slot0<=s->∀t,com<=t->t<a.next->∀x∈E t,n.slot0+x.s≠s):((writeR a.dF a.dO a.dP s y).cd≠0/\(writeR a.dF a.dO a.dP s y).O=a.dO\/(writeR a.dF a.dO a.dP s y).cd=0/\(writeR a.dF a.dO a.dP s y).O=a.dO++[(s,y)])/\Hs n Z (a.dev (writeR a.dF a.dO a.dP s y)) E R f0 com fp:=by
 rcases h.pl.fate with hf|hf
 .have e:writeR a.dF a.dO a.dP s y=⟨a.dF,a.dO++[(s,y)],a.dP.tail,0⟩:=by unfold writeR;rw[if_neg (by rw[hf];decide),if_pos hf]
  rw[e];refine⟨.inr ⟨rfl,rfl⟩,{h with pl:=h.pl.tail,o0:=fun q hq=>?_,sl:=fun t h1 h2 x hx=>⟨(h.sl t h1 h2 x hx).1,?_⟩}⟩
  .rcases qzq.1 hq with hq|hq
   .exact h.o0 q hq
   .rw [qzy.1 hq];exact ho
  .show crcC (curB a.dF (a.dO++[(s,y)]) _)=_;rw[uK,if_neg (fun e=>hsl (by rw[e.1];exact qXu _ _) t h1 h2 x hx e.1.symm)];exact(h.sl t h1 h2 x hx).2
 .have e:writeR a.dF a.dO a.dP s y=⟨a.dF,a.dO,a.dP.tail,20⟩:=by unfold writeR;rw[if_pos hf]
  rw[e];exact⟨.inl ⟨show (20:Int)≠0 by decide,rfl⟩,h.tail⟩
end
theorem sg{F:List Bk}{O:List (Nat×Bk)}{P:List Int}(hp:Pl P)(h:(flushR F O P).cd=0):flushR F O P=⟨flushF F O,[],P.tail,0⟩:=by
 unfold flushR at h⊢;rcases hp.fate with hf|hf
 .rw [if_neg (by rw[hf];decide),if_pos hf]
 .rw [if_pos hf]at h;cases h
def comO(n:CaN)(W:List (Nat×Bk)):List (Nat×Bk):=W.map fun q=>(n.jb+(q.1-1)%n.jo,q.2)
theorem XU(s:Nat)(L:List Ent)(i:Nat):(pagesB s L).getD i zB=if i<needN L.length then sectP (pageXs s (needN L.length) L i)else zB:=by
 rw[pagesB,zV,qyh,qyq];split
 .next h=>rw[qyr h];rfl
 .next h=>rw[qyo (by simpa using h)];rfl
theorem uQ{E:Nat->List Ent}{s top:Nat}(hs:s<=top)(i:Nat):tu E top i ((pagesB s (E s)).getD i zB):=by
 rw[XU];split
 .next h=>exact .inr ⟨s,hs,h,rfl⟩
 .exact .inl qG
section
variable{n:CaN}{Z:Nat->Bk}{a b:CaS}{E:Nat->List Ent}{R:Nat->List Int}{f0 com fp:Nat}
theorem Hs.comW:∀(W:List (Nat×Bk)) {a:CaS},Hs n Z a E R f0 com fp->(∀q∈W,∃t,com<t/\t<=fp/\q=(t,sectR (R t)))->(1<=n.jo)->
  ((Go.Proofs.YtfhfbpmlnjdfoaaGreatDoor.comW n.jb n.jo a.dF W a.dO a.dP).cd≠0\/(Go.Proofs.YtfhfbpmlnjdfoaaGreatDoor.comW n.jb n.jo a.dF W a.dO a.dP).O=a.dO++comO n W)/\Hs n Z (a.dev (Go.Proofs.YtfhfbpmlnjdfoaaGreatDoor.comW n.jb n.jo a.dF W a.dO a.dP)) E R f0 com fp
 |[],a,h,_,_=>⟨.inr (by simp[Go.Proofs.YtfhfbpmlnjdfoaaGreatDoor.comW,comO]),h⟩
 |(s,y)::W,a,h,hW,hj=>by
  obtain⟨t,h1,h2,he⟩:=hW _ qzt;cases he;have hlt:=qYa (s-1) (show 0<n.jo by omega);have hs0:=n.slot0_eq;obtain⟨hw1,hw2⟩:=h.wrote (n.jb+(s-1)%n.jo) (sectR (R s)) (.inr (.inl ⟨s,h1,h2,rfl⟩)) (fun h3=>by simp only[CaN.jb]at h3;omega);rw[Go.Proofs.YtfhfbpmlnjdfoaaGreatDoor.comW];split
  .next hc=>
   have hO:=hw1.resolve_left (fun e=>e.1 hc);have ih:=Hs.comW W hw2 (fun q hq=>hW q (qzs _ hq)) hj;have hF:(writeR a.dF a.dO a.dP (n.jb+(s-1)%n.jo) (sectR (R s))).F=a.dF:=yu _ _ _ _ _;rw[show(a.dev (writeR a.dF a.dO a.dP (n.jb+(s-1)%n.jo) (sectR (R s)))).dF=a.dF from hF]at ih;refine⟨ih.1.imp (fun h=>h) (fun h=>?_),ih.2⟩;rw[show(a.dev (writeR a.dF a.dO a.dP (n.jb+(s-1)%n.jo) (sectR (R s)))).dO=a.dO++[(n.jb+(s-1)%n.jo,sectR (R s))]from hO.2]at h;rw[show(writeR a.dF a.dO a.dP (n.jb+(s-1)%n.jo) (sectR (R s))).O=a.dO++[(n.jb+(s-1)%n.jo,sectR (R s))]from hO.2,h];simp[comO]
  .next hc=>exact⟨.inl hc,hw2⟩
theorem Hs.cm(h:Hs n Z a E R f0 com fp)(hj:1<=n.jo):∃com' fp',Hs n Z (a.cm n) E R f0 com' fp'/\((a.com n).1.cd=0->com'=a.next-1/\(a.cm n).dO=[]/\(a.cm n).W=[]):=by
 have hcm:a.cm n={a.dev (comR n.jb n.jo a.dF a.dO a.dP a.W).1 with W:=(comR n.jb n.jo a.dF a.dO a.dP a.W).2}:=rfl;have hco:a.com n=comR n.jb n.jo a.dF a.dO a.dP a.W:=rfl;rw[hcm,hco];have c2:=h.c2;have hf:=h.flush hj;unfold comR;split
 .next hc=>
  rcases hf with⟨f1,f2⟩|⟨f1,f2,f3⟩
  .exact ⟨com,fp,f2,fun e=>absurd e f1⟩
  .have hW:a.W=[]:=hc.resolve_left (fun e=>e f1);rw[hW]at c2;exact⟨com,a.next-1,f2,fun _=>⟨by simp at c2;omega,f3,hW⟩⟩
 next hc=>
 have hc0:(flushR a.dF a.dO a.dP).cd=0:=Classical.byContradiction fun e=>hc (.inl e);obtain⟨f1,f2,f3⟩:=hf.resolve_left (fun e=>e.1 hc0);have hWq:∀q∈a.W,∃t,com<t/\t<=a.next-1/\q=(t,sectR (R t)):=fun q hq=>by
  obtain⟨i,hi,rfl⟩:=qza hq;have:=h.wq i hi;rw[qyn hi]at this;exact⟨com+1+i,by omega,by omega,qYj this⟩
 obtain⟨g1,g2⟩:=Hs.comW a.W f2 hWq hj;obtain⟨a1,ha1⟩:=qqe (a.dev (flushR a.dF a.dO a.dP));have e1:Go.Proofs.YtfhfbpmlnjdfoaaGreatDoor.comW n.jb n.jo (flushR a.dF a.dO a.dP).F a.W (flushR a.dF a.dO a.dP).O (flushR a.dF a.dO a.dP).P=Go.Proofs.YtfhfbpmlnjdfoaaGreatDoor.comW n.jb n.jo a1.dF a.W a1.dO a1.dP:=by rw[ha1]
 rw[e1];rw[<-ha1]at f2 g1 g2;obtain⟨r2,hr2⟩:=qqe (Go.Proofs.YtfhfbpmlnjdfoaaGreatDoor.comW n.jb n.jo a1.dF a.W a1.dO a1.dP);rw[<-hr2]at g1 g2⊢;have hsame:∀r:DRes,({a.dev r with W:=a.W}:CaS)=(a1.dev r2).dev r:=fun r=>by rw[ha1]
 split
 .next h2=>exact⟨com,a.next-1,by rw[hsame,show(a1.dev r2).dev r2=a1.dev r2 from rfl];exact g2,fun e=>absurd e h2⟩
 next h2=>
 have h20:r2.cd=0:=qxq h2;have hO2:=g1.resolve_left (fun e=>e h20);rcases g2.flush hj with⟨k1,k2⟩|⟨k1,k2,k3⟩
 .rw [show flushR (a1.dev r2).dF (a1.dev r2).dO (a1.dev r2).dP=flushR r2.F r2.O r2.P from rfl]at k1 k2;rw[if_pos k1];exact⟨com,a.next-1,by rw[hsame];exact k2,fun e=>absurd e k1⟩
 .rw [show flushR (a1.dev r2).dF (a1.dev r2).dO (a1.dev r2).dP=flushR r2.F r2.O r2.P from rfl]at k1 k2 k3;rw[if_neg (fun e=>e k1)];have ek:=sg (F:=r2.F) (O:=r2.O) g2.pl k1;have hnx:((a1.dev r2).dev (flushR r2.F r2.O r2.P)).next=a.next:=by rw[ha1]
  have hnx1:(a1.dev r2).next=a.next:=by rw[ha1]
  have hcv:((a1.dev r2).dev (flushR r2.F r2.O r2.P)).cov=a.cov:=by rw[ha1]
  have hc1:=h.c1;have hc5:=h.c5;have hjw:∀t,a.cov<t->t<=a.next-1->(flushR r2.F r2.O r2.P).F.getD (n.jb+(t-1)%n.jo) zB=sectR (R t):=fun t t1 t2=>by
   by_cases htc:t<=com
   .exact k2.jw t (by rw[hcv];exact t1) htc
   .have hml:=qYa (t-1) (show 0<n.jo by omega);have hs0:=n.slot0_eq;have hz:=n.size_eq;rw[ek];have hO3:r2.O=comO n a.W:=by rw[hO2,ha1,show(a.dev (flushR a.dF a.dO a.dP)).dO=[]from f3];rfl
    rw[hO3];refine se _ _ ⟨(n.jb+(t-1)%n.jo,sectR (R t)),?_,rfl⟩ (fun q hq e=>?_) ?_
    .have hi:t-(com+1)<a.W.length:=by omega
     have:=h.wq (t-(com+1)) hi;rw[show com+1+(t-(com+1))=t by omega]at this;exact qzv.2 ⟨(t,sectR (R t)),List.mem_of_getElem? this,rfl⟩
    .obtain ⟨p,hp,rfl⟩:=qzv.1 hq;obtain⟨t',p1,p2,rfl⟩:=hWq p hp;have e:n.jb+(t'-1)%n.jo=n.jb+(t-1)%n.jo:=e;rcases Nat.lt_trichotomy t t' with hl|rfl|hl
     .exact (mod_one (jo:=n.jo) (t:=t) (t':=t') (by omega) hl (by omega) (by omega)).elim
     .rfl
     .exact (mod_one (jo:=n.jo) (t:=t') (t':=t) (by omega) hl (by omega) (by omega)).elim
    .have hl2:r2.F.length=n.size:=g2.dl;rw[hl2];simp only[CaN.jb];omega
  refine⟨a.next-1,a.next-1,?_,fun _=>⟨rfl,k3,rfl⟩⟩;have hb:({a.dev (flushR r2.F r2.O r2.P)with W:=[]}:CaS)={(a1.dev r2).dev (flushR r2.F r2.O r2.P)with W:=[]}:=by rw[ha1]
  rw[hb];rw[hnx1]at k2;exact{k2 with
   c1:=by show((a1.dev r2).dev (flushR r2.F r2.O r2.P)).cov<=_;rw[hcv];omega
   c2:=by show a.next-1+0+1=((a1.dev r2).dev (flushR r2.F r2.O r2.P)).next;rw[hnx];omega
   c3:=qXv _
   wq:=fun i hi=>absurd hi (Nat.not_lt_zero _)
   o0:=fun q hq=>by
    have:(flushR r2.F r2.O r2.P).O=[]:=k3;replace hq:q∈(flushR r2.F r2.O r2.P).O:=hq;rw[this]at hq;cases hq
   jw:=fun t t1 t2=>hjw t (by rw[<-hcv];exact t1) t2
   sl:=fun t t1 t2=>k2.sl t (by omega) t2
   sf:=fun t t1 t2=>k2.sf t (by omega) t2}
end
theorem WS{l:List EI}(hn:(l.map EI.b).Nodup){s:Int}{e:EI}:apM l s=some e↔e∈l/\e.b=s:=by
 have:∀(l:List EI),(l.map EI.b).Nodup->∀(f:Int->Option EI),(l.foldl apPut f) s=some e↔(e∈l/\e.b=s)\/(s∉l.map EI.b/\f s=some e):=by
  intro l
  induction l with
  |nil=>intro _ f;simp
  |cons x l ih=>
   intro hn f;rw[qzm,qXb]at hn;rw[List.foldl_cons,ih hn.2];unfold apPut;by_cases hs:s=x.b
   .subst hs;constructor
    .rintro (h|⟨h1,h2⟩)
     .exact .inl ⟨qzs _ h.1,h.2⟩
     .rw [if_pos rfl]at h2;cases h2;exact .inl ⟨qzt,rfl⟩
    .rintro (⟨h1,h2⟩|⟨h1,-⟩)
     .rcases qzr.1 h1 with rfl|h1
      .exact .inr ⟨hn.1,if_pos rfl⟩
      .exact .inl ⟨h1,h2⟩
     .exact absurd (by simp) h1
   .rw [if_neg hs];constructor
    .rintro (h|⟨h1,h2⟩)
     .exact .inl ⟨qzs _ h.1,h.2⟩
     .refine .inr ⟨?_,h2⟩;rw[qzm,qzr];exact fun h=>h.elim hs h1
    .rintro (⟨h1,h2⟩|⟨h1,h2⟩)
     .rcases qzr.1 h1 with rfl|h1
      .exact absurd h2.symm hs
      .exact .inl ⟨h1,h2⟩
     .refine .inr ⟨fun h=>h1 ?_,h2⟩;rw[qzm];exact qzs _ h
 simpa[apM]using this l hn (fun _=>none)
theorem wV{qs:List (Int×Bool)}{fr:Nat}{x:It9}:∀{m:Nat},x∈visTo qs fr m↔∃k,k<m/\qs.getD k (-1,false)≠(-1,false)/\x=(fr+k,qs.getD k (-1,false))
 |0=>by simp[visTo]
 |m+1=>by
  rw[visTo,qzq,wV];unfold vY;rw[<-qyh];constructor
  .rintro (⟨k,h1,h2⟩|h)
   .exact ⟨k,by omega,h2⟩
   .split at h
    .cases h
    .next hn=>exact⟨m,by omega,hn,qzy.1 h⟩
  .rintro ⟨k,h1,h2,rfl⟩;by_cases hk:k=m
   .subst hk
    right
    rw[if_neg h2];exact qzy.2 rfl
   .exact .inl ⟨k,by omega,h2,rfl⟩
theorem um(qs:List (Int×Bool))(fr:Nat):∀m,(visTo qs fr m).Pairwise (fun x y=>x.1<y.1)
 |0=>List.Pairwise.nil
 |m+1=>by
  rw[visTo,List.pairwise_append];refine⟨um qs fr m,?_,fun x hx y hy=>?_⟩
  .unfold vY;split
   .exact List.Pairwise.nil
   .exact List.pairwise_singleton _ _
  .obtain ⟨k,hk,-,rfl⟩:=wV.1 hx;unfold vY at hy;split at hy
   .cases hy
   .rw [qzy.1 hy];show fr+k<fr+m;omega
section
variable{n:CaN}{a b:CaS}
theorem CaS.ents_mem(hl:a.ps.length=n.bl){x:Ent}:x∈a.ents n↔∃k,k<n.bl/\plc a.ps k≠(-1,false)/\x=⟨k,(plc a.ps k).1.toNat,(plc a.ps k).2,(a.sums (k:Int)).getD 0⟩:=by
 have e:spanL a.ps 0 n.bl=a.ps:=by unfold spanL;rw[qyc,<-hl,List.take_length]
 unfold CaS.ents;rw[e,qzv];constructor
 .rintro ⟨y,hy,rfl⟩;obtain⟨k,h1,h2,rfl⟩:=wV.1 hy;exact⟨k,by omega,h2,by simp[CaS.ent]⟩
 .rintro ⟨k,h1,h2,rfl⟩;exact⟨(0+k,plc a.ps k),wV.2 ⟨k,by omega,h2,rfl⟩,by simp[CaS.ent]⟩
theorem CaS.ents_sorted(n:CaN)(a:CaS):(a.ents n).Pairwise (fun x y=>x.b<y.b):=qXf.2 (um _ _ _)
def CaS.mp(n:CaN)(a:CaS):Int->Option EI:=fun s=>if 0<=s/\s<(n.bl:Int)/\plc a.ps s.toNat≠(-1,false)then some ⟨s,(plc a.ps s.toNat).1,(plc a.ps s.toNat).2,((a.sums s).getD 0:Nat)⟩else none
theorem CaS.ents_mp{o:Option Nat}(ht:a.Tie n o):enM (a.ents n)=a.mp n:=by
 have hnd:(((a.ents n).map Ent.toI).map EI.b).Nodup:=by
  rw[qzn];refine qXf.2 ((a.ents_sorted n).imp fun h e=>?_);simp only[Function.comp,Ent.toI]at e;omega
 have hpos:∀k,k<n.bl->plc a.ps k≠(-1,false)->0<=(plc a.ps k).1:=fun k hk hn=>by
  obtain⟨s,-,e,-⟩:=ht.slot hk hn;rw[e];omega
 funext s
 apply Option.ext;intro e;unfold enM;rw[WS hnd];unfold CaS.mp;constructor
 .rintro ⟨h1,rfl⟩;obtain⟨x,hx,rfl⟩:=qzv.1 h1;obtain⟨k,hk,hn,rfl⟩:=(CaS.ents_mem ht.hpl).1 hx;have:=hpos k hk hn;show(if 0<=(k:Int)/\(k:Int)<(n.bl:Int)/\plc a.ps (k:Int).toNat≠(-1,false)then _ else _)=some (Ent.toI _);rw[if_pos ⟨by omega,by omega,by rw[qxu];exact hn⟩];simp only[Ent.toI,qxu,Option.some.injEq,EI.mk.injEq,true_and,and_true];omega
 .intro h;split at h
  .next hc=>
   obtain⟨h0,h1,h2⟩:=hc;cases h;obtain⟨k,rfl⟩:=qxs h0;rw[qxu]at h2⊢;have:=hpos k (by omega) h2;refine⟨qzv.2 ⟨⟨k,(plc a.ps k).1.toNat,(plc a.ps k).2,(a.sums (k:Int)).getD 0⟩,(CaS.ents_mem ht.hpl).2 ⟨k,by omega,h2,rfl⟩,?_⟩,rfl⟩;unfold Ent.toI;simp only[EI.mk.injEq,true_and];exact⟨by omega,trivial⟩
  .cases h
theorem CaS.ents_enok{o:Option Nat}(ht:a.Tie n o)(hsm:∀k v,a.sums k=some v->v<=4294967295):EnOk n (a.ents n):=by
 have hin:∀x∈a.ents n,∃k s:Nat,k<n.bl/\s<n.sl/\plc a.ps k≠(-1,false)/\(plc a.ps k).1=(s:Int)/\x.b=k/\x.s=s/\x.m=(a.sums (k:Int)).getD 0/\a.st.getD s 0=2:=fun x hx=>by
  obtain⟨k,hk,hn,rfl⟩:=(CaS.ents_mem ht.hpl).1 hx;obtain⟨s,hs,e,h2⟩:=ht.slot hk hn;exact⟨k,s,hk,hs,hn,e,rfl,by show(plc a.ps k).1.toNat=s;rw[e,qxu],rfl,h2⟩
 refine⟨fun x hx=>?_,?_,a.ents_sorted n⟩
 .obtain ⟨k,s,hk,hs,-,-,e1,e2,e3,-⟩:=hin x hx;refine⟨by omega,by omega,?_⟩;rw[e3];cases hc:a.sums (k:Int)with
  |none=>simp
  |some m=>exact hsm _ _ hc
 .refine qXf.2 ((a.ents_sorted n).imp_of_mem fun{x y} hx hy hlt e=>?_);obtain⟨k,s,hk,hs,hn,e0,e1,e2,-⟩:=hin x hx;obtain⟨k',s',hk',hs',hn',e0',e1',e2',-⟩:=hin y hy;have:=ht.inj hk hk' (by rw[e0];omega) (by rw[e0,e0'];omega);omega
theorem CaS.ents_live{o:Option Nat}(ht:a.Tie n o){x:Ent}(hx:x∈a.ents n):x.s<n.sl/\a.st.getD x.s 0=2:=by
 obtain⟨k,hk,hn,rfl⟩:=(CaS.ents_mem ht.hpl).1 hx;obtain⟨s,hs,e,h2⟩:=ht.slot hk hn;have e2:(plc a.ps k).1.toNat=s:=by rw[e,qxu]
 exact⟨by show(plc a.ps k).1.toNat<_;rw[e2];exact hs,by show a.st.getD (plc a.ps k).1.toNat 0=2;rw[e2];exact h2⟩
end
theorem EnOk.need{n:CaN}{L:List Ent}(h:EnOk n L)(hok:n.Ok):needN L.length<=n.pa/\needN L.length<=256/\∀x∈L,qk x:=by
 have hl:L.length<=n.sl:=by
  have h1:=xW n.sl _ h.2.1 (fun s hs=>by
   obtain⟨x,hx,rfl⟩:=qzv.1 hs;exact(h.1 x hx).2.1)
  simpa using h1
 have h2:=Qt hl;have h3:=hok.p1;have h4:=hok.s2;have h5:=hok.b2;refine⟨by unfold needN at h2⊢;omega,by unfold needN at h2⊢;omega,fun x hx=>?_⟩;obtain⟨q1,q2,q3⟩:=h.1 x hx;exact⟨by omega,by omega,q3⟩
theorem tu.congr{E E':Nat->List Ent}{top i:Nat}{y:Bk}(h:tu E top i y)(he:∀s,s<=top->E' s=E s):tu E' top i y:=
 h.imp (fun h=>h) (fun⟨s,h1,h2,h3⟩=>⟨s,h1,by rw[he s h1];exact h2,by rw[he s h1];exact h3⟩)
theorem Js.congr{jo f0 top j:Nat}{R R':Nat->List Int}{y:Bk}(h:Js jo R f0 top j y)(he:∀t,t<=top->R' t=R t):Js jo R' f0 top j y:=
 h.imp (fun h=>h) (fun⟨t,h1,h2,h3,h4⟩=>⟨t,h1,h2,h3,by rw[he t h2];exact h4⟩)
section
variable{n:CaN}{Z:Nat->Bk}{a:CaS}{E:Nat->List Ent}{R:Nat->List Int}{f0 com fp:Nat}
theorem Hs.note(h:Hs n Z a E R f0 com fp)(b:CaS)(xs:List Int)(hd:b.dF=a.dF/\b.dO=a.dO/\b.dP=a.dP)(hc:b.cov=a.cov/\b.which=a.which/\b.next=a.next+1/\b.W=a.W++[(a.next,sectR xs)])
  (hx:xs.length=7/\mayR xs=true/\xs.getD 0 0=(a.next:Int)/\xs.getD 1 0=(((a.next-1)/n.jo:Nat):Int)) (hm:enM (b.ents n)=apR (enM (a.ents n)) xs) (he:EnOk n (b.ents n)) (hr:a.next<=a.cov+n.jo)
  (hs:∀s,a.st.getD s 0=2\/a.st.getD s 0=3->b.st.getD s 0=2\/b.st.getD s 0=3) (hn:∀x∈b.ents n,(b.st.getD x.s 0=2\/b.st.getD x.s 0=3)/\crcC (curB a.dF a.dO (n.slot0+x.s))=x.m):
  Hs n Z b (fun t=>if t=a.next then b.ents n else E t) (fun t=>if t=a.next then xs else R t) f0 com fp:=by
 obtain⟨d1,d2,d3⟩:=hd;obtain⟨q1,q2,q3,q4⟩:=hc;have c2:=h.c2;have c3:=h.c3;have c4:=h.c4;have c1:=h.c1;have f1:=h.f1;have hE:∀t,t<a.next->(fun t=>if t=a.next then b.ents n else E t) t=E t:=fun t ht=>if_neg (by omega);have hR:∀t,t<a.next->(fun t=>if t=a.next then xs else R t) t=R t:=fun t ht=>if_neg (by omega);refine{
  pl:=by rw[d3];exact h.pl
  dl:=by rw[d1];exact h.dl
  f1:=by rw[q1];exact h.f1
  c1:=by rw[q1];exact h.c1
  c2:=by rw[q3,q4,qzd];simp;omega
  c3:=h.c3
  c4:=by rw[q3];omega
  c5:=by rw[q3,q1];omega
  wh:=by rw[q2];exact h.wh
  wq:=fun i hi=>?_
  rc:=fun t h1 h2=>?_
  en:=fun t h2=>?_
  cur:=?_
  fx:=by rw[d1];exact h.fx
  o0:=by
   rw[d2,q2];intro q hq;rcases h.o0 q hq with⟨i,i1,i2,i3⟩|⟨t,t1,t2,t3⟩|h3
   .exact .inl ⟨i,i1,i2,i3.congr (fun s hs=>hE s (by omega))⟩
   .exact .inr (.inl ⟨t,t1,t2,by rw[hR t (by omega)];exact t3⟩)
   .exact .inr (.inr h3)
  sd:=by rw[d1,q1,q2,if_neg (show¬a.cov=a.next by omega)];exact h.sd
  so:=by rw[d1,q2];exact fun i hi=>(h.so i hi).congr (fun s hs=>hE s (by omega))
  jr:=by rw[d1];exact fun j hj=>(h.jr j hj).congr (fun t ht=>hR t (by omega))
  jw:=by rw[d1,q1];exact fun t t1 t2=>by rw[if_neg (show¬t=a.next by omega)];exact h.jw t t1 t2
  sl:=fun t t1 t2 x hx=>?_
  sf:=by rw[d1];exact fun t t1 t2 x hx=>by rw[if_neg (show¬t=a.next by omega)]at hx;exact h.sf t t1 t2 x hx}
 .rw [q4]at hi⊢;rw[qzd]at hi;by_cases hw:i<a.W.length
  .rw [qyi hw,if_neg (show¬com+1+i=a.next by omega)];exact h.wq i hw
  .have:i=a.W.length:=by simp at hi;omega
   subst this;rw[qyj (qXv _),Nat.sub_self];have e:com+1+a.W.length=a.next:=by omega
   rw[e,if_pos rfl];rfl
 .rw [q3]at h2;by_cases ht:t=a.next
  .subst ht;rw[if_pos rfl,if_pos rfl,if_neg (by omega),h.cur];exact⟨hx,hm⟩
  .rw [if_neg ht,if_neg ht,if_neg (by omega)];exact h.rc t h1 (by omega)
 .rw [q3]at h2;by_cases ht:t=a.next
  .rw [if_pos ht];exact he
  .rw [if_neg ht];exact h.en t (by omega)
 .rw [q3];exact if_pos (by omega)
 .rw [q3]at t2;rw[d1,d2];by_cases ht:t=a.next
  .rw [if_pos ht]at hx;exact hn x hx
  .rw [if_neg ht]at hx;obtain⟨k1,k2⟩:=h.sl t t1 (by omega) x hx;exact⟨hs _ k1,k2⟩
theorem Hs.turn(h:Hs n Z a E R f0 com fp)(st:List Int)(hs:∀s,a.st.getD s 0=2\/a.st.getD s 0=3->st.getD s 0=2\/st.getD s 0=3):Hs n Z {a with st:=st} E R f0 com fp:=
 {h with sl:=fun t t1 t2 x hx=>⟨hs _ (h.sl t t1 t2 x hx).1,(h.sl t t1 t2 x hx).2⟩}
theorem Hs.freed{o:Option Nat}(h:Hs n Z a E R f0 com fp)(hc:com=a.next-1)(ht:a.Tie n o):Hs n Z {a with st:=freeTo a.st (pos a.st 3)} E R f0 com fp:=
 {h with
  sl:=fun t t1 t2 x hx=>by
   have t2:t<a.next:=t2;have:t=a.next-1:=by omega
   subst this;rw[h.cur]at hx;obtain⟨k1,k2⟩:=CaS.ents_live ht hx;refine⟨.inl ?_,(h.sl _ t1 t2 x (by rw[h.cur];exact hx)).2⟩;show(freeTo a.st (pos a.st 3)).getD x.s 0=2;rw[uJ _ _ (by rw[ht.hsl];exact k1),k2];rfl}
theorem wo(st:List Int)(k:Int)(s:Nat)(h:st.getD s 0=2\/st.getD s 0=3):(turnList st k 3).getD s 0=2\/(turnList st k 3).getD s 0=3:=by
 unfold turnList;split
 .rw [yh];split
  .exact .inr rfl
  .exact h
 .exact h
end
end Go.Proofs.YtfhfbpmlnjdfoaaGreatDoor
