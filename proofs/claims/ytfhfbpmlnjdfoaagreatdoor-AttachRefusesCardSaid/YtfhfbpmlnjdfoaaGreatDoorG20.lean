/- What sectors t -/
import Derived.Test.YtfhfbpmlnjdfoaaGreatDoorG13
set_option maxRecDepth 100000
set_option maxHeartbeats 4000000
namespace Go.Proofs.YtfhfbpmlnjdfoaaGreatDoor
open Go Go.RowKit Tryz
def tS(ns:List Nat)(i:Nat):Ent:=⟨ns.getD (4+4*i) 0,ns.getD (4+4*i+1) 0,ns.getD (4+4*i+2) 0==1,ns.getD (4+4*i+3) 0⟩
theorem zU(ns:List Nat)(i:Nat):(natsI ns).getD i 0=(ns.getD i 0:Nat):=by
 simp only[natsI,qyh,qyq];cases ns[i]?<;>rfl
theorem xy(xs:List Int)(i j:Nat)(hj:j<4):(rowI xs i).getD j 0=xs.getD (4+4*i+j) 0:=by
 simp only[rowI,qyh,qyu,if_pos hj,qym]
theorem RJ(ns:List Nat)(i:Nat):entX (natsI ns) i=entC (tS ns i):=by
 unfold entX entC tS;rw[xy _ _ _ oM,xy _ _ _ oM,xy _ _ _ oM,xy _ _ _ oM,zU,zU,zU,zU];have:((ns.getD (4+4*i+2) 0:Nat):Int)==1↔ns.getD (4+4*i+2) 0==1:=by simp;omega
 rw[Bool.eq_iff_iff.2 this];rfl
def pgSeq(b:Bk):Nat:=(numsP b).getD 0 0
def pgNo(b:Bk):Nat:=(numsP b).getD 1 0
def pgOf(b:Bk):Nat:=(numsP b).getD 2 0
def pgMany(b:Bk):Nat:=(numsP b).getD 3 0
def pgEnts(b:Bk):List Ent:=(List.range (pgMany b)).map (tS (numsP b))
def goesP(seq of no:Nat)(b:Bk):Bool:=
 if of<=no then b==zB else okP b&&(pgSeq b==seq&&(pgNo b==no&&(pgOf b==of&&(if no+1=of then !(pgMany b==0&&decide (0<no))else pgMany b==4))))
def readSeq(l:List Bk):Nat:=pgSeq (l.getD 0 zB)
def readOf(l:List Bk):Nat:=pgOf (l.getD 0 zB)
def readOk(l:List Bk):Bool:=okP (l.getD 0 zB)&&(decide (readOf l<=l.length)&&(List.range l.length).all fun i=>goesP (readSeq l) (readOf l) i (l.getD i zB))
def entsTo(l:List Bk)(k:Nat):List Ent:=(List.range k).flatMap fun i=>pgEnts (l.getD i zB)
def readEs(l:List Bk):List Ent:=entsTo l (readOf l)
theorem Uf{b:Bk}(h:okP b=true):mayP (natsI (numsP b))=true:=by
 unfold okP okGet at h;simp only[qxo]at h;exact h.2.2.2
theorem yF{b:Bk}(h:okP b=true):pgSeq b<=1099511627776/\pgNo b<=255/\1<=pgOf b/\pgOf b<=256/\pgMany b<=4:=by
 have hm:=Uf h;unfold mayP at hm;rw[qxo,qxo]at hm;have hl:(natsI (numsP b)).length=20:=by simp[natsI,numsP,zQ,VF]
 have hw:=hm.1.1;have w0:=yi hw (i:=0) de oM;have w1:=yi hw (i:=1) de oM;have w2:=yi hw (i:=2) de oM;have w3:=yi hw (i:=3) de oM;have e:∀i (hi:i<(natsI (numsP b)).length),(natsI (numsP b))[i]=((numsP b).getD i 0:Nat):=fun i hi=>by
  rw[<-zU,qyh,qyn hi];rfl
 rw[e]at w0 w1 w2 w3;simp only[bndP,qyx,qyw]at w0 w1 w2 w3;unfold pgSeq pgNo pgOf pgMany;omega
theorem Xs{w:World}{p:Nat}{b:Bk}{T:TypeId}(h:w.heap[p]?=some (.cells (dsP (natsI (numsP b))).toArray T (0,0)))(hok:okP b=true):
  w.cell? ⟨p,0,none⟩=some (.int .i64 (pgSeq b:Nat))/\w.cell? ⟨p,1,none⟩=some (.int .i64 (pgNo b:Nat))/\w.cell? ⟨p,2,none⟩=some (.int .i64 (pgOf b:Nat))/\w.cell? ⟨p,3,none⟩=some (.int .i64 (pgMany b:Nat))/\w.rangeAt p 4 ((pgEnts b).flatMap entC):=by
 refine⟨?_,?_,?_,?_,?_⟩
 .rw [za h 0];show some (Value.int .i64 ((natsI (numsP b)).getD 0 0))=_;rw[zU];rfl
 .rw [za h 1];show some (Value.int .i64 ((natsI (numsP b)).getD 1 0))=_;rw[zU];rfl
 .rw [za h 2];show some (Value.int .i64 ((natsI (numsP b)).getD 2 0))=_;rw[zU];rfl
 .rw [za h 3];show some (Value.int .i64 ((natsI (numsP b)).getD 3 0))=_;rw[zU];rfl
 .obtain ⟨-,-,-,-,hm⟩:=yF hok;intro j u hj;have hlen:=(qyp.1 hj).1;rw[za h];have e:(dsP (natsI (numsP b))).toArray[4+j]?=((List.range 4).flatMap fun i=>entC (tS (numsP b) i))[j]?:=by
   rw[qyv];unfold dsP dsPk;rw[qyj oe];simp only[qze,qzh];rw[show 4+j-(0+1+1+1+1)=j by omega]
   congr 1
   rw[List.flatMap_def,List.flatMap_def]
   congr 1
   apply List.map_congr_left;intro i hi;rw[if_pos (qzx.1 hi),RJ]
  rw[e,<-hj];unfold pgEnts;rw[List.flatMap_map];rw[show List.range 4=List.range (pgMany b)++(List.range (4-pgMany b)).map (pgMany b+·) by rw[<-List.range_add,Nat.add_sub_cancel' hm],qyf,qyi];have:((List.range (pgMany b)).flatMap fun i=>entC (tS (numsP b) i))=((pgEnts b).flatMap entC):=by unfold pgEnts;rw[List.flatMap_map]
  rw[this];exact hlen
theorem xE{seq:Nat}{E:List Ent}(hs:seq<=1099511627776)(hE:∀x∈E,qN x)(hn:needN E.length<=256){k:Nat}(hk:k<needN E.length):
  let b:=sectP (pageXs seq (needN E.length) E k)
  okP b=true/\pgSeq b=seq/\pgNo b=k/\pgOf b=needN E.length/\pgMany b=(partE E k).length/\pgEnts b=partE E k:=by
 intro b;obtain⟨h1,h2⟩:=Th (yT seq (needN E.length) E k) (uZ hs hE hn hk);have h3:numsP b=pgN seq k (needN E.length) (partE E k).length (padE (partE E k)):=by
  have:natsI (numsP b)=natsI (pgN seq k (needN E.length) (partE E k).length (padE (partE E k))):=h2;unfold natsI at this;exact(List.map_inj_right (f:=fun(n:Nat)=>(n:Int)) (fun x y h=>Int.ofNat_inj.1 h)).1 this
 have hm:pgMany b=(partE E k).length:=by unfold pgMany;rw[h3];rfl
 refine⟨h1,?_,?_,?_,hm,?_⟩
 .unfold pgSeq;rw[h3];rfl
 .unfold pgNo;rw[h3];rfl
 .unfold pgOf;rw[h3];rfl
 .unfold pgEnts;rw[hm,h3];have hp:=qe E k;have hrow:∀i,i<(partE E k).length->tS (pgN seq k (needN E.length) (partE E k).length (padE (partE E k))) i=(partE E k).getD i Ent.none:=by
   intro i hi;have hr:=sP seq k (needN E.length) (partE E k).length (padE (partE E k)) (i:=i) (by rw[qg hp];omega);have hg:(padE (partE E k)).getD i Ent.none=(partE E k).getD i Ent.none:=by
    simp[padE,List.getD_eq_getElem?_getD,List.getElem?_append_left hi]
   rw[hg]at hr;generalize (partE E k).getD i Ent.none=x at*;generalize pgN seq k (needN E.length) (partE E k).length (padE (partE E k))=ns at*;have hq:∀j,j<4->ns.getD (4+4*i+j) 0=(entN x).getD j 0:=fun j hj=>by
    have:=congrArg (fun l=>l.getD j 0) hr;simp only[xy _ _ _ hj,zU]at this;exact Int.ofNat_inj.1 this
   have q0:=hq 0 oM;have q1:=hq 1 oM;have q2:=hq 2 oM;have q3:=hq 3 oM;unfold tS;rw[qXs]at q0;rw[q0,q1,q2,q3];obtain⟨b,s,d,m⟩:=x;cases d<;>rfl
  apply qye
  .simp
  .intro i h1 h2;rw[qyy,List.getElem_range,hrow i h2,qyh,qyn h2];rfl
theorem Xt(E:List Ent):∀k,(List.range k).flatMap (partE E)=E.take (4*k)
 |0=>oe
 |k+1=>by
  rw[qXh,qyf,Xt E k];simp only[qyg,List.flatMap_nil,qxy,partE];rw[show 4*(k+1)=4*k+4 by omega,List.take_add]
theorem RK(E:List Ent)(k:Nat):(partE E k).length=min 4 (E.length-4*k):=by simp[partE]
theorem ru{seq:Nat}{E:List Ent}(hs:seq<=1099511627776)(hE:∀x∈E,qN x)(hn:needN E.length<=256){l:List Bk}(hm:needN E.length<=l.length)(hl:∀i<l.length,l.getD i zB=(pagesB seq E).getD i zB):
  readOk l=true/\readSeq l=seq/\readEs l=E:=by
 have hnp:1<=needN E.length:=by unfold needN;omega
 have hpg:∀i,i<needN E.length->l.getD i zB=sectP (pageXs seq (needN E.length) E i):=fun i hi=>by
  rw[hl i oM,pagesB,zZ,qyh,qyq,qyr hi];rfl
 have h0:=xE hs hE hn (k:=0) hnp;dsimp only at h0;rw[<-hpg 0 hnp]at h0;obtain⟨a1,a2,a3,a4,a5,a6⟩:=h0;have hof:readOf l=needN E.length:=a4;refine⟨?_,a2,?_⟩
 .unfold readOk;rw[a1,hof,qYy hm,qxp,qxp,qxw];intro i hi;have hi:=qzx.1 hi;unfold goesP;by_cases h:needN E.length<=i
  .rw [if_pos h,hl i hi,qyh,qyo (by rw[pagesB,xj];exact h)];simp
  .rw [if_neg h];obtain⟨b1,b2,b3,b4,b5,b6⟩:=xE hs hE hn (k:=i) oM;rw[<-hpg i oM]at b1 b2 b3 b4 b5 b6;rw[b1,b2,b3,b4,b5,show readSeq l=seq from a2,RK];unfold needN at h⊢;split
   .next he=>
    simp only[qxp,beq_self_eq_true,Bool.not_eq_true',Bool.and_eq_false_iff,qYv,qYx];by_cases hz:i=0
    .right;omega
    .left;omega
   .next he=>
    simp only[qxp,beq_self_eq_true,beq_iff_eq];omega
 .unfold readEs entsTo;rw[hof];have:(List.range (needN E.length)).flatMap (fun i=>pgEnts (l.getD i zB))=(List.range (needN E.length)).flatMap (partE E):=by
   rw[List.flatMap_def,List.flatMap_def]
   congr 1
   apply List.map_congr_left;intro i hi;obtain⟨-,-,-,-,-,b6⟩:=xE hs hE hn (k:=i) (qzx.1 hi);rw[<-hpg i (qzx.1 hi)]at b6;exact b6
  rw[this,Xt,qXp (by unfold needN;omega)]
theorem rv:okP zB=false:=kR
theorem TA{H:Nat->List Ent}{top:Nat}(htop:top<=1099511627776)(hE:∀s≤top,∀x∈H s,qN x)(hn:∀s≤top,needN (H s).length<=256){l:List Bk}
  (hl:∀i<l.length,okP (l.getD i zB)=false\/∃s≤top,i<needN (H s).length/\l.getD i zB=sectP (pageXs s (needN (H s).length) (H s) i)) (hok:readOk l=true):
  ∃s≤top,readSeq l=s/\readEs l=H s/\needN (H s).length<=l.length/\∀i<l.length,l.getD i zB=(pagesB s (H s)).getD i zB:=by
 have hok':=hok;unfold readOk at hok;rw[qxo,qxo,qxw]at hok;obtain⟨h0,hle,hall⟩:=hok;have hle:=of_decide_eq_true hle;have hpos:0<l.length:=by
  rcases qXt l.length with h|h
  .rw [List.length_eq_zero_iff.1 h]at h0;rw[show([]:List Bk).getD 0 zB=zB from rfl,rv]at h0;cases h0
  .exact h
 rcases hl 0 hpos with h|⟨s,hs,hk,e⟩
 .rw [h]at h0;cases h0
 obtain⟨a1,a2,a3,a4,a5,a6⟩:=xE (qXx hs htop) (hE s hs) (hn s hs) hk;rw[<-e]at a1 a2 a3 a4 a5 a6;have hof:readOf l=needN (H s).length:=a4;have hsq:readSeq l=s:=a2;have hget:∀i<l.length,l.getD i zB=(pagesB s (H s)).getD i zB:=by
  intro i hi;have hg:=hall i (qzx.2 hi);unfold goesP at hg;rw[hof,hsq]at hg;split at hg
  .next hge=>
   rw[beq_iff_eq.1 hg,qyh,qyo (by rw[pagesB,xj];exact hge)];rfl
  .next hge=>
   simp only[qxo,beq_iff_eq]at hg;obtain⟨g1,g2,g3,g4,-⟩:=hg;rcases hl i hi with h|⟨t,ht,hkt,et⟩
   .rw [h]at g1;cases g1
   obtain⟨b1,b2,-⟩:=xE (qXx ht htop) (hE t ht) (hn t ht) hkt;rw[<-et]at b2;have:t=s:=by rw[<-b2,g2]
   subst this;rw[et,pagesB,zZ,qyh,qyq,qyr hkt];rfl
 refine⟨s,hs,hsq,?_,by rw[<-hof];exact hle,hget⟩;exact(ru (qXx hs htop) (hE s hs) (hn s hs) (by rw[<-hof];exact hle) hget).2.2
theorem RL(w:World):(sizeOf 5).run prog w=.ok 1 w:=by
 obtain⟨i,hi,hs⟩:=qYi.1 (show(prog.info? 5).map (·.size)=some 1 by kernel_rfl);simp[sizeOf,typeInfo,hi,hs]
theorem run_eql_bk(x y:Bk)(hx:x.length=64)(hy:y.length=64)(w:World):(binOp .eql 54 (.agg (bkC x).toArray) (.agg (bkC y).toArray)).run prog w=.ok (.bool (x==y)) w:=
 run_eql_bytes w 54 5 64 underlying54 underlying5 RL x y hx hy
theorem run_neq_bk(x y:Bk)(hx:x.length=64)(hy:y.length=64)(w:World):(binOp .neq 54 (.agg (bkC x).toArray) (.agg (bkC y).toArray)).run prog w=.ok (.bool (!(x==y))) w:=by
 have e:(Op.equalIn 10000 54 (.agg (bkC x).toArray) (.agg (bkC y).toArray)).run prog w=.ok (x==y) w:=run_equalIn_bytes w 9998 54 5 64 underlying54 underlying5 RL x y hx hy;rw[run_neq_struct,e];rfl
theorem Xu:∃i z,prog.info? 37=some i/\i.zero=some z/\z.cells.size=4/\i.size=4/\i.bytes=32:=by
 have h:(prog.info? 37).map (fun i=>(i.zero.map (·.cells.size),i.size,i.bytes))=some (some 4,4,32):=kR;obtain⟨i,hi,he⟩:=qYi.1 h;simp only[qYk]at he;obtain⟨z,hz,hz2⟩:=qYi.1 he.1;exact⟨i,z,hi,hz,hz2,he.2.1,he.2.2⟩
theorem tT{w:World}{g o:Nat}{l:List Bk}(h:∀j u,(rowC l)[j]?=some u->w.cell? ⟨g,o+j,none⟩=some u)(hl:All64 l){k:Nat}(hk:k<l.length):w.rangeAt g (o+k*64) (bkC (l.getD k zB)):=by
 intro j v hj;have e:l.getD k zB=l[k]:=by rw[qyh,qyn hk];rfl
 rw[e]at hj;have hj':=(qyp.1 hj).1;rw[zo,hl _ (qyz hk)]at hj';rw[qXr];exact h _ v ((ue hl hk hj').trans hj)
def EntsOut(w:World)(l:List Bk)(e:Ending)(w':World):Prop:=
 ∃v,e=.returned (.tuple #[.int .i64 ((if readOk l then readSeq l else 0:Nat):Int),v,.bool (readOk l)])/\Sl w' 37 4 v (if readOk l then readEs l else[]).length ((if readOk l then readEs l else[]).flatMap entC)/\From w.heap.size v/\Below w.heap.size w w'
theorem EntsOut.no{w w':World}{l:List Bk}(h:readOk l=false)(hb:Below w.heap.size w w'):EntsOut w l (.returned (.tuple #[.int .i64 0,.slice none 0 0,.bool false])) w':=
 ⟨.slice none 0 0,by rw[h];rfl,by rw[h];exact Sl.nil _ _ _,From.nil _ _ _,hb⟩
theorem RM{b:Bk}(h:okP b=false):(cdP b==0)=false:=by
 unfold okP at h;unfold cdP yO;rw[h];split
 .next h=>cases h
 .split<;>decide
theorem RN{b:Bk}(h:okP b=true):cdP b=0:=by
 unfold okP at h;unfold cdP yO;rw[h];rfl
theorem tU(l:List Bk)(k:Nat):entsTo l (k+1)=entsTo l k++pgEnts (l.getD k zB):=by simp[entsTo,List.range_succ]
theorem ZZ{l:List Bk}{k:Nat}(hk:k<l.length)(h:goesP (readSeq l) (readOf l) k (l.getD k zB)=false):readOk l=false:=by
 rw[<-Bool.not_eq_true];intro e;unfold readOk at e;rw[qxo,qxo,qxw]at e;have:=e.2.2 k (qzx.2 hk);rw[h]at this;cases this
theorem Zd{l:List Bk}{of:Nat}(h:∀i,i<of->okP (l.getD i zB)=true):∀k,k<=of->(entsTo l k).length<=4*k
 |0,_=>qXv _
 |k+1,hk=>by
  rw[tU,qzd];have h1:=Zd h k oM;have h2:=(yF (h k oM)).2.2.2.2;have:(pgEnts (l.getD k zB)).length=pgMany (l.getD k zB):=by simp[pgEnts]
  omega
theorem RO{w:World}{v:Value}{l:List Bk}(hs:Rd w 64 v l.length (rowC l))(hl:All64 l)(hpos:0<l.length)(hl1:l.length<=4096)(hN:Nib w):Calls prog 99 #[v] w (EntsOut w l):=by
 obtain⟨g,o,cap,rfl,hg,hrow⟩:=hs.at hpos;have hr0:=tT hrow hl hpos;rw[qYg,qXs]at hr0;have h64:∀k,(l.getD k zB).length=64:=fun k=>by
  rw[qyh];cases h:l[k]? with
  |none=>rfl
  |some x=>exact hl x (List.mem_of_getElem? h)
 obtain⟨b0,hb0⟩:=qqe (l.getD 0 zB);have h640:b0.length=64:=by rw[hb0];exact h64 0
 rw[<-hb0]at hr0;have HG:=qqh (Xk hN b0 h640);have q0:(0:Int)<(l.length:Int):=oM;have hsz:=zw b0 h640;obtain⟨Z,hZ⟩:=qqe (dsPk [] 0);have hal:=VL;simp only[<-hZ]at hal;have hZl:Z.toArray.size=20:=by rw[hZ,qXm,xW]
 have HR:=Y7 hrow hl h64 hN hb0 hal hZl;clear hrow hl h64 hN hb0 hs hZ hZl;go_enter func99,ntmps99
 go_wp2
 go_step3
 go_wp2_with (first
  |(refine qZg rfl _ _ rfl _ _ rfl _ _ hr0 underlying54 rfl hsz ?_)
  |fail)
 refine HG.o.mono ?_;rintro e w1 ⟨⟨rs,hr1,hr2,rfl⟩,hb1⟩;have hrl:rs.length=20/\∀v∈rs,v.oneCell'=true:=by
  cases hk:okP b0 with
  |true=>rw[hr1 hk];exact⟨vy _,vz _⟩
  |false=>rw[hr2 hk];exact⟨rfl,qxw.1 (by simp[vO,Value.oneCell']:vO.all (·.oneCell')=true)⟩
 obtain⟨w2,hw2⟩:=qqe (w1.alloc (.cells rs.toArray 280));have hu2:Upd (fun _=>False) w w2:=by rw[hw2];exact(uuo hb1).alloc _
 have g2:=qqg hw2;have z2:w2.heap.size=w1.heap.size+1:=by rw[hw2];simp
 have hge:=hb1.size;have HW:=Y2 hw2 hrl;have H2:=Y4 hu2 g2 z2 hge;clear hu2 g2 z2 hge hw2 hb1 hr0;obtain⟨P,hP⟩:=qqe (w1.heap.size);rw[<-hP]at H2;go_upto_region 2 with(first
  |(refine zY rfl _ rfl _ hal ?_)
  |(refine zl rfl _ _ _ rfl _ _ rs rfl rfl (by rw[HW.o.2.1];exact HR.o.2.2.2.2.2.2) (by rw[HW.o.2.1];exact wQ) HW.o.2.2 ?_)
  |fail)
 rw[<-HW.o.1,<-hP];have HP:=qqh hP;clear hP;cases hok:okP b0 with
 |false=>
  have q1:=RM hok;have hno:readOk l=false:=by unfold readOk;rw[<-HR.o.2.2.2.2.1,hok];rfl
  generalize cdP b0=cd at*;have HN:=qqh hno;have q2:¬cd=0:=by simpa using q1
  clear hok hno hr1 hr2;go_wp2_with fail
  rw[qxr];exact qYw (v:=.tuple #[.int .i64 0,.slice none 0 0,.bool false]) oo rfl (EntsOut.no HN.o (Upd.below H2.o.1))
 |true=>
  have hcd:=RN hok;rw[hcd];obtain⟨hu2,g2,z2,hge⟩:=H2.o;rw[hr1 hok]at g2;obtain⟨c0,c1,c2,c3,cr⟩:=Xs g2 hok;obtain⟨-,-,ho1,ho2,-⟩:=yF hok;have hof:readOf l=pgOf b0:=by unfold readOf;rw[HR.o.2.2.2.2.1]
  have hsq:readSeq l=pgSeq b0:=by unfold readSeq;rw[HR.o.2.2.2.2.1]
  rw[<-hof]at c2 ho1 ho2;rw[<-hsq]at c0;have HB:=Y5 g2 c0 ho1 ho2 hok;clear g2 c0 c1 c3 cr hof hsq hcd hr1 hr2 hok hu2 z2 hge ho1 ho2;by_cases hle:readOf l<=l.length
  .have q2:¬((l.length:Int)<(readOf l:Int)):=oM;go_wp2_with fail
   go_step3
   go_wp2_with fail
   go_loopg[7,8,32] l.length (fun gk s7 s8 s32 wr=>∃k:Nat,k+gk=l.length/\s32=.int .i64 (k:Int)/\s8=.bool true/\Sl wr 37 4 s7 (entsTo l (min k (readOf l))).length ((entsTo l (min k (readOf l))).flatMap entC)/\From (P+1) s7/\Upd (fun j=>P+1<=j) w2 wr/\∀i<k,goesP (readSeq l) (readOf l) i (l.getD i zB)=true)
   case atStart=>exact⟨0,oM,rfl,rfl,by rw[Nat.zero_min];exact Sl.nil _ _ _,From.nil _ _ _,uur _ _,fun i h=>oM⟩
   case round=>
    obtain⟨k,hk,rfl,rfl,hsl,hfr,hu,hall⟩:=hrel;obtain⟨hrow,hl,h64,hN,hb0,hal',hZl⟩:=HR.o;obtain⟨hu2,g2,z2,hge⟩:=H2.o;obtain⟨gg2,c0,ho1,ho2,hok⟩:=HB.o;have hout:∀j,j<=P->¬(P+1<=j):=fun j hj=>oM;have d0:=hu.j4 c0 (hout _ (qXv _));have d2:=hu.j4 c2 (hout _ (qXv _));have hU:Upd (fun j=>w.heap.size<=j) w wr:=(hu2.mono fE).trans (hu.mono (fun j _ (h:P+1<=j)=>oM));by_cases hlt:k<l.length
    .have k1:(k:Int)<(l.length:Int):=oM;have k0:(0:Int)<=(k:Int):=oM;obtain⟨bk,hbk⟩:=qqe (l.getD k zB);have hbl:bk.length=64:=by rw[hbk];exact h64 k
     have hr1:=tT hrow hl hlt;rw[<-hbk]at hr1;have hrk:wr.rangeAt g (o+k*64) (bkC bk):=hU.range hr1 oM;have hszk:=zw bk hbl;obtain⟨w3,hw3⟩:=qqe (wr.alloc (.cells (bkC bk).toArray 54));have hu3:=qqu hw3;have g3:=qqg hw3;have r3:=zh g3;have e0:=hu3.j4 d0 id;have e2:=hu3.j4 d2 id;have hst:=zx bk;have HW3:=qqh hw3;have hzr:P+1<=wr.heap.size:=by have:=hu.size;omega
     have H3:=Y11 hu3 hsl hfr hu hall hU hN ho1 ho2 hk hzr;obtain⟨q,hq⟩:=qqe (wr.heap.size);have HQ:=qqh hq;have HBK:=Y2 hbk hb0;have hx8:(bkC bk).toArray.size=64:=zp _ hbl;rw[<-hq]at r3;have hb3:Below w.heap.size w w3:=(zk (qxl _ w) hU (qXv _) (fun _ h=>h)).trans ((Upd.below hu3).mono hU.size);have HE:=qqh hb3;clear hw3 hu3 g3 hu2 g2 z2 hge gg2 c0 ho1 ho2 hok d0 d2 hr1 hsl hfr hu hall hU hN hal' hrow hl h64 hZl hzr hq hb3 hbk hb0;go_upto_region 9 with(first
      |(refine qZg rfl _ _ rfl _ _ rfl _ _ hrk underlying54 rfl hszk ?_)
      |(refine zl rfl _ _ _ rfl _ _ (bkC bk) rfl rfl (by rw[zo,hbl];rfl) hszk hst ?_)
      |fail)
     rw[<-HW3.o,<-HQ.o];by_cases hof:readOf l<=k
     .have hgo:goesP (readSeq l) (readOf l) k bk=(bk==zB):=by unfold goesP;rw[if_pos hof]
      have q3:((readOf l:Nat):Int)<=(k:Int):=oM;have hneq:=fun W=>run_neq_bk bk zB hbl zK W;obtain⟨ZB,hZB⟩:=qqe (zB);have hbz:=wj ZB hZB;rw[<-hZB]at hneq hgo;have HZB:=qqh hZB;clear hZB;by_cases hz:bk=ZB
      .have qz:(bk==ZB)=true:=by simp[hz]
       rw[qz]at hneq hgo;have HGO:=qqh hgo;clear hgo hz;go_wp2_with (first
        |(refine qZg rfl _ _ rfl _ _ rfl _ _ r3 underlying54 rfl hszk ?_)
        |(refine yg rfl rfl hbz ?_)
        |fail)
       go_roundg (gk-1)
       case measure=>omega
       case rel=>
        obtain⟨hu3,hsl,hfr,hu,hall,hU,hN,ho1,ho2,hk,hzr⟩:=H3.o;refine⟨k+1,oM,by go_num,rfl,?_,hfr,hu.trans (hu3.mono fE),fun i hi=>?_⟩
        .rw [Nat.min_eq_right hof]at hsl;rw[Nat.min_eq_right oM];exact hsl.keep hu3 (fun _ _ h=>h)
        .rcases Nat.lt_succ_iff_lt_or_eq.1 hi with h|rfl
         .exact hall i h
         .rw [<-HBK.o.1];exact HGO.o
      .have qz:(bk==ZB)=false:=by simpa using hz
       rw[qz]at hneq hgo;have HN:=qqh (ZZ hlt (HBK.o.1▸hgo));clear hgo hz;go_wp2_with (first
        |(refine qZg rfl _ _ rfl _ _ rfl _ _ r3 underlying54 rfl hszk ?_)
        |(refine yg rfl rfl hbz ?_)
        |fail)
       rw[qxr];exact qYw (v:=.tuple #[.int .i64 0,.slice none 0 0,.bool false]) oo rfl (EntsOut.no HN.o HE.o)
     .have q3:¬(((readOf l:Nat):Int)<=(k:Int)):=oM;have hgo:goesP (readSeq l) (readOf l) k bk=(okP bk&&(pgSeq bk==readSeq l&&(pgNo bk==k&&(pgOf bk==readOf l&&(if k+1=readOf l then !(pgMany bk==0&&decide (0<k))else pgMany bk==4))))):=by unfold goesP;rw[if_neg hof]
      have hGP:=qqh (Xk (H3.o.2.2.2.2.2.2.1.keep (S:=fun j=>w.heap.size<=j) (H3.o.2.2.2.2.2.1.trans (H3.o.1.mono fE)) (fun h=>by have:=H3.o.2.2.2.2.2.2.1.lt;omega)) bk hbl);go_wp2_with (first
       |(refine qZg rfl _ _ rfl _ _ rfl _ _ r3 underlying54 rfl hszk ?_)
       |fail)
      refine hGP.out.mono ?_;rintro e w4 ⟨⟨rs',hr1,hr2,rfl⟩,hb4⟩;have hrl':rs'.length=20/\∀v∈rs',v.oneCell'=true:=by
       cases hk:okP bk with
       |true=>rw[hr1 hk];exact⟨vy _,vz _⟩
       |false=>rw[hr2 hk];exact⟨rfl,qxw.1 (by simp[vO,Value.oneCell']:vO.all (·.oneCell')=true)⟩
      obtain⟨w5,hw5⟩:=qqe (w4.alloc (.cells rs'.toArray 280));have hu5:Upd (fun _=>False) w3 w5:=by rw[hw5];exact(uuo hb4).alloc _
      have g5:=qqg hw5;have hz5:w5.heap.size=w4.heap.size+1:=by rw[hw5];simp
      have f0:=hu5.j4 e0 id;have f2:=hu5.j4 e2 id;have HW5:=Y2 hw5 hrl';obtain⟨M,hM⟩:=qqe (w4.heap.size);rw[<-hM]at g5;have hb5:Below w.heap.size w w5:=HE.o.trans ((Upd.below hu5).mono HE.o.size);have HE5:=Y5 hb5 hu5 hz5 hM hb4.size;have HM:=qqh hM;clear hw5 hrl' hb4 hu5 hz5 hb5 e0 e2 hM r3;go_upto_region 13 with(first
       |(refine zY rfl _ rfl _ hal ?_)
       |(refine zl rfl _ _ _ rfl _ _ rs' rfl rfl (by rw[HW5.o.2.1];exact HR.o.2.2.2.2.2.2) (by rw[HW5.o.2.1];exact wQ) HW5.o.2.2 ?_)
       |fail)
      rw[<-HW5.o.1,<-HM.o];cases hok:okP bk with
      |false=>
       have q4:=RM hok;rw[hok]at hgo;have HN:=qqh (ZZ hlt (HBK.o.1▸hgo));generalize cdP bk=cd at*;have q5:¬cd=0:=by simpa using q4
       clear hok hgo hr1 hr2;go_wp2_with fail
       rw[qxr];exact qYw (v:=.tuple #[.int .i64 0,.slice none 0 0,.bool false]) oo rfl (EntsOut.no HN.o HE5.o.1)
      |true=>
       rw[RN hok];rw[hr1 hok]at g5;obtain⟨y0,y1,y2,y3,yr⟩:=Xs g5 hok;rw[hok,qxp]at hgo;have hmany:=(yF hok).2.2.2.2;have hel:(pgEnts bk).length=pgMany bk:=by simp[pgEnts]
       obtain⟨pe,hpe⟩:=qqe (pgEnts bk);rw[<-hpe]at yr hel;have HPE:=qqh hpe;generalize pgSeq bk=a0 at*;generalize pgNo bk=a1 at*;generalize pgOf bk=a2 at*;generalize pgMany bk=a3 at*;clear hr1 hr2 hok g5 hpe;have hgn:goesP (readSeq l) (readOf l) k bk=false->readOk l=false:=fun h=>ZZ hlt (HBK.o.1▸h);have hfin:goesP (readSeq l) (readOf l) k bk=true->∀v' w6,Sl w6 37 4 v' ((entsTo l k).length+a3) ((entsTo l k).flatMap entC++pe.flatMap entC)->Upd (ownS u7) w5 w6->blockFrom w5 u7 v'->
         Sl w6 37 4 v' (entsTo l (min (k+1) (readOf l))).length ((entsTo l (min (k+1) (readOf l))).flatMap entC)/\From (P+1) v'/\Upd (fun j=>P+1<=j) w2 w6/\∀i<k+1,goesP (readSeq l) (readOf l) i (l.getD i zB)=true:=by
        intro hg v' w6 hs6 hu6 hb6;obtain⟨hu3,hsl,hfr,hu,hall,hU,hN,ho1,ho2,hk,hzr⟩:=H3.o;obtain⟨hb5,hu5,hz5,hM,hMs⟩:=HE5.o;refine⟨?_,hb6.ge (by have:=hu3.size;have:=hu5.size;omega) hfr,(hu.trans (((hu3.trans hu5).mono fE))).trans (hu6.mono (fun j _ hj=>hfr j hj)),fun i hi=>?_⟩
        .rw [Nat.min_eq_left oM,tU,qzd,qyf,<-HBK.o.1,<-HPE.o,hel];exact hs6
        .rcases Nat.lt_succ_iff_lt_or_eq.1 hi with h|rfl
         .exact hall i h
         .rw [<-HBK.o.1];exact hg
       have hsl5:Sl w5 37 4 u7 (entsTo l k).length ((entsTo l k).flatMap entC):=by
        have:=H3.o.2.1;rw[Nat.min_eq_left oM]at this;exact this.keep (H3.o.1.trans HE5.o.2.1) (fun _ _ h=>h)
       have hel4:(entsTo l k).length<=4*k:=by
        refine Zd (of:=k) (fun i hi=>?_) k (qXv _);have:=H3.o.2.2.2.2.1 i hi;unfold goesP at this;rw[if_neg oM]at this;exact(qxo _ _▸this).1
       have hrd:Rd w5 4 (.slice (some ⟨M,4,none⟩) a3 a3) a3 (pe.flatMap entC):=by
        refine⟨by rw[xT,hel],by unfold maxLen;omega,some ⟨M,4,none⟩,a3,rfl,(fun h=>by cases h),(fun b hb=>?_)⟩;cases hb;intro j u hj;rw[qxa];exact yr j u hj
       have hpe1:∀u∈pe.flatMap entC,u.oneCell'=true:=fun u hu=>by
        obtain⟨x,-,hx⟩:=qzu.1 hu;exact YO x u hx
       have hofe:1<=readOf l/\readOf l<=256:=⟨HB.o.2.2.1,HB.o.2.2.2.1⟩
       obtain⟨ie,ze,hie,hze,hz4,hi4,hi32⟩:=Xu;have HF:=Y5 hfin hsl5 hrd hpe1 hel4;have HGN:=qqh hgn;clear hgn hfin hsl5 hrd hpe1 hel4 yr hel;generalize goesP (readSeq l) (readOf l) k bk=gb at*;generalize readSeq l=S0 at*;generalize readOf l=F0 at*;by_cases h0:a0=S0
       .subst h0;by_cases h1:a1=k
        .subst h1;by_cases h2:a2=F0
         .subst h2;simp only[beq_self_eq_true,qxp]at hgo;by_cases hl:a1+1=a2
          .subst hl;rw[if_pos rfl]at hgo;by_cases h3:a3=0
           .subst h3;by_cases h4:0<a1
            .have q6:((0:Nat):Int)<(a1:Int):=oM;have HN:=qqh (HGN.o (by rw[hgo,qYy h4];rfl));clear hgo;go_wp2_with fail
             rw[qxr];exact qYw (v:=.tuple #[.int .i64 0,.slice none 0 0,.bool false]) oo rfl (EntsOut.no HN.o HE5.o.1)
            .have q6:¬((0:Nat):Int)<(a1:Int):=oM;rw[decide_eq_false h4]at hgo;replace hgo:gb=true:=hgo;have HF2:=qqh (HF.o.1 hgo);have HS:=Y4 HF.o.2.1 HF.o.2.2.1 HF.o.2.2.2.1 HF.o.2.2.2.2;clear hgo;go_wp2_with (first
              |(at_builtin;refine zE rfl _ _ 22 rfl ie ze 32 underlying22 hie hze hi4 hi32 hz4 de rfl HS.o.1 _ _ (pe.flatMap entC) rfl HS.o.2.1 HS.o.2.2.1 oZ jT ?_)
              |fail)
             intro v' w6 hs6 hu6 hb6;have HZ:=qqh (HF2.o v' w6 hs6 hu6 hb6);clear hs6 hu6 hb6;go_wp2_with fail
             go_roundg (gk-1)
             case measure=>have:=H3.o.2.2.2.2.2.2.2.2.2.1;omega
             case rel=>exact⟨a1+1,by have:=H3.o.2.2.2.2.2.2.2.2.2.1;omega,by go_num,rfl,HZ.o.1,HZ.o.2.1,HZ.o.2.2.1,HZ.o.2.2.2⟩
           .have q6:¬((a3:Nat):Int)=0:=oM;have b1:(0:Int)<=(a3:Int):=oM;have b2:(a3:Int)<=4:=oM;rw[show(a3==0)=false by simpa using h3]at hgo;replace hgo:gb=true:=hgo;have HF2:=qqh (HF.o.1 hgo);have HS:=Y4 HF.o.2.1 HF.o.2.2.1 HF.o.2.2.2.1 HF.o.2.2.2.2;clear hgo;go_wp2_with (first
             |(at_builtin;refine zE rfl _ _ 22 rfl ie ze 32 underlying22 hie hze hi4 hi32 hz4 de rfl HS.o.1 _ _ (pe.flatMap entC) rfl HS.o.2.1 HS.o.2.2.1 oZ jT ?_)
             |fail)
            intro v' w6 hs6 hu6 hb6;have HZ:=qqh (HF2.o v' w6 hs6 hu6 hb6);clear hs6 hu6 hb6;go_wp2_with fail
            go_roundg (gk-1)
            case measure=>have:=H3.o.2.2.2.2.2.2.2.2.2.1;omega
            case rel=>exact⟨a1+1,by have:=H3.o.2.2.2.2.2.2.2.2.2.1;omega,by go_num,rfl,HZ.o.1,HZ.o.2.1,HZ.o.2.2.1,HZ.o.2.2.2⟩
          .rw [if_neg hl]at hgo;have q5:¬((a1:Nat):Int)=(a2:Int)-1:=oM;by_cases h3:a3=4
           .subst h3;replace hgo:gb=true:=hgo;have HF2:=qqh (HF.o.1 hgo);have HS:=Y4 HF.o.2.1 HF.o.2.2.1 HF.o.2.2.2.1 HF.o.2.2.2.2;clear hgo;go_wp2_with (first
             |(at_builtin;refine zE rfl _ _ 22 rfl ie ze 32 underlying22 hie hze hi4 hi32 hz4 de rfl HS.o.1 _ _ (pe.flatMap entC) rfl HS.o.2.1 HS.o.2.2.1 oZ jT ?_)
             |fail)
            intro v' w6 hs6 hu6 hb6;have HZ:=qqh (HF2.o v' w6 hs6 hu6 hb6);clear hs6 hu6 hb6;go_wp2_with fail
            go_roundg (gk-1)
            case measure=>have:=H3.o.2.2.2.2.2.2.2.2.2.1;omega
            case rel=>exact⟨a1+1,by have:=H3.o.2.2.2.2.2.2.2.2.2.1;omega,by go_num,rfl,HZ.o.1,HZ.o.2.1,HZ.o.2.2.1,HZ.o.2.2.2⟩
           .have q6:¬((a3:Nat):Int)=4:=oM;have HN:=qqh (HGN.o (by rw[hgo];simpa using h3));clear hgo;go_wp2_with fail
            rw[qxr];exact qYw (v:=.tuple #[.int .i64 0,.slice none 0 0,.bool false]) oo rfl (EntsOut.no HN.o HE5.o.1)
         .have q6:¬((a2:Nat):Int)=(F0:Int):=oM;have q7:(a2==F0)=false:=by simpa using h2
          simp only[beq_self_eq_true,qxp]at hgo;rw[q7]at hgo;have HN:=qqh (HGN.o hgo);clear hgo;go_wp2_with fail
          rw[qxr];exact qYw (v:=.tuple #[.int .i64 0,.slice none 0 0,.bool false]) oo rfl (EntsOut.no HN.o HE5.o.1)
        .have q6:¬((a1:Nat):Int)=(k:Int):=oM;have q7:(a1==k)=false:=by simpa using h1
         simp only[beq_self_eq_true,qxp]at hgo;rw[q7]at hgo;have HN:=qqh (HGN.o hgo);clear hgo;go_wp2_with fail
         rw[qxr];exact qYw (v:=.tuple #[.int .i64 0,.slice none 0 0,.bool false]) oo rfl (EntsOut.no HN.o HE5.o.1)
       .have q6:¬((a0:Nat):Int)=(S0:Int):=oM;have q7:(a0==S0)=false:=by simpa using h0
        rw[q7]at hgo;have HN:=qqh (HGN.o hgo);clear hgo h0;go_wp2_with fail
        rw[qxr];exact qYw (v:=.tuple #[.int .i64 0,.slice none 0 0,.bool false]) oo rfl (EntsOut.no HN.o HE5.o.1)
    .obtain rfl:k=l.length:=oM;have k1:¬((l.length:Int)<(l.length:Int)):=oM;have hro:readOk l=true:=by
      unfold readOk;rw[<-hb0,hok,qYy hle,qxp,qxp,qxw];exact fun i hi=>hall i (qzx.1 hi)
     rw[Nat.min_eq_right hle]at hsl;have hz:EntsOut w l (.returned (.tuple #[.int .i64 (readSeq l:Int),u7,.bool true])) wr:=
      ⟨u7,by rw[hro];rfl,by rw[hro];exact hsl,hfr.mono oM,zk (qxl _ w) hU (qXv _) (fun _ h=>h)⟩
     have HZ:=qqh hz;clear hz hro hsl hfr hu hall hU hrow hl h64 hN hb0 hal' hZl hu2 g2 z2 hge gg2 ho1 ho2 hok;go_wp2_with fail
     try rw[qxr]
     exact qYw (v:=.tuple #[.int .i64 (readSeq l:Int),u7,.bool true]) oo rfl HZ.o
  .have q2:((l.length:Int)<(readOf l:Int)):=oM;have hno:readOk l=false:=by unfold readOk;rw[decide_eq_false hle];simp
   have HN:=qqh hno;clear hno hle;go_wp2_with fail
   rw[qxr];exact qYw (v:=.tuple #[.int .i64 0,.slice none 0 0,.bool false]) oo rfl (EntsOut.no HN.o (Upd.below H2.o.1))
def Stop(G:Prop):Prop:=G
theorem Stop.i{G:Prop}(h:Stop G):G:=h
end Go.Proofs.YtfhfbpmlnjdfoaaGreatDoor
