/- See GetG2. Pag -/
import Derived.Test.YtpejdgiccaijfaaGreatDoorG19
import Derived.Test.YtpejdgiccaijfaaGreatDoorG18
set_option maxRecDepth 100000
set_option maxHeartbeats 4000000
namespace Go.Proofs.YtpejdgiccaijfaaGreatDoor
open Go Go.RowKit Tryz
section
theorem XC:∃i z,prog.info? 155=some i/\i.zero=some z/\z.cells.size=4/\i.size=4/\i.bytes=32:=by
 have h:(prog.info? 155).map (fun i=>(i.zero.map (·.cells.size),i.size,i.bytes))=some (some 4,4,32):=kR;obtain⟨i,hi,he⟩:=qYb.1 h;simp only[qYd]at he;obtain⟨z,hz,hz2⟩:=qYb.1 he.1;exact⟨i,z,hi,hz,hz2,he.2.1,he.2.2⟩
theorem tN{w:World}{g o:Nat}{l:List Bk}(h:∀j u,(rowC l)[j]?=some u->w.cell? ⟨g,o+j,none⟩=some u)(hl:All64 l){k:Nat}(hk:k<l.length):w.rangeAt g (o+k*64) (bkC (l.getD k zB)):=by
 intro j v hj;have e:l.getD k zB=l[k]:=by rw[qyf,qyj hk];rfl
 rw[e]at hj;have hj':=(qyl.1 hj).1;rw[zm,hl _ (qyu hk)]at hj';rw[qXl];exact h _ v ((vh hl hk hj').trans hj)
def EntsOut(w:World)(l:List Bk)(e:Ending)(w':World):Prop:=
 ∃v,e=.returned (.tuple #[.int .i64 ((if readOk l then readSeq l else 0:Nat):Int),v,.bool (readOk l)])/\Sl w' 155 4 v (if readOk l then readEs l else[]).length ((if readOk l then readEs l else[]).flatMap entC)/\From w.heap.size v/\Below w.heap.size w w'
theorem EntsOut.no{w w':World}{l:List Bk}(h:readOk l=false)(hb:Below w.heap.size w w'):EntsOut w l (.returned (.tuple #[.int .i64 0,.slice none 0 0,.bool false])) w':=
 ⟨.slice none 0 0,by rw[h];rfl,by rw[h];exact Sl.nil _ _ _,From.nil _ _ _,hb⟩
theorem Sc{b:Bk}(h:okP b=false):(cdP b==0)=false:=by
 unfold okP at h;unfold cdP xg;rw[h];split
 .next h=>cases h
 .split<;>decide
theorem Sd{b:Bk}(h:okP b=true):cdP b=0:=by
 unfold okP at h;unfold cdP xg;rw[h];rfl
theorem tO(l:List Bk)(k:Nat):entsTo l (k+1)=entsTo l k++pgEnts (l.getD k zB):=by simp[entsTo,List.range_succ]
theorem uI{l:List Bk}{k:Nat}(hk:k<l.length)(h:goesP (readSeq l) (readOf l) k (l.getD k zB)=false):readOk l=false:=by
 rw[<-Bool.not_eq_true];intro e;unfold readOk at e;rw[qxo,qxo,qxv]at e;have:=e.2.2 k (qzs.2 hk);rw[h]at this;cases this
theorem sV{l:List Bk}{of:Nat}(h:∀i,i<of->okP (l.getD i zB)=true):∀k,k<=of->(entsTo l k).length<=4*k
 |0,_=>qXo _
 |k+1,hk=>by
  rw[tO,qyy];have h1:=sV h k oM;have h2:=(yB (h k oM)).2.2.2.2;have:(pgEnts (l.getD k zB)).length=pgMany (l.getD k zB):=by simp[pgEnts]
  omega
theorem Se{w:World}{v:Value}{l:List Bk}(hs:Rd w 64 v l.length (rowC l))(hl:All64 l)(hpos:0<l.length)(hl1:l.length<=4096)(hN:Nib w):Calls prog 274 #[v] w (EntsOut w l):=by
 obtain⟨g,o,cap,rfl,hg,hrow⟩:=hs.at hpos;have hr0:=tN hrow hl hpos;rw[qXz,qXm]at hr0;have h64:∀k,(l.getD k zB).length=64:=fun k=>by
  rw[qyf];cases h:l[k]? with
  |none=>rfl
  |some x=>exact hl x (List.mem_of_getElem? h)
 obtain⟨b0,hb0⟩:=qqe (l.getD 0 zB);have h640:b0.length=64:=by rw[hb0];exact h64 0
 rw[<-hb0]at hr0;have HG:=qqh (Xu hN b0 h640);have q0:(0:Int)<(l.length:Int):=oM;have hsz:=zq b0 h640;obtain⟨Z,hZ⟩:=qqe (dsPk [] 0);have hal:=VW;simp only[<-hZ]at hal;have hZl:Z.toArray.size=20:=by rw[hZ,qXh,xV]
 have HR:=Y7 hrow hl h64 hN hb0 hal hZl;clear hrow hl h64 hN hb0 hs hZ hZl;go_enter func274,ntmps274
 go_wp2
 go_step3
 go_wp2_with (first
  |(refine qYy rfl _ _ rfl _ _ rfl _ _ hr0 underlying60 rfl hsz ?_)
  |fail)
 refine HG.o.mono ?_;rintro e w1 ⟨⟨rs,hr1,hr2,rfl⟩,hb1⟩;have hrl:rs.length=20/\∀v∈rs,v.oneCell'=true:=by
  cases hk:okP b0 with
  |true=>rw[hr1 hk];exact⟨vt _,vu _⟩
  |false=>rw[hr2 hk];exact⟨rfl,qxv.1 (by simp[vK,Value.oneCell']:vK.all (·.oneCell')=true)⟩
 obtain⟨w2,hw2⟩:=qqe (w1.alloc (.cells rs.toArray 297));have hu2:Upd (fun _=>False) w w2:=by rw[hw2];exact(uuo hb1).alloc _
 have g2:=qqg hw2;have z2:w2.heap.size=w1.heap.size+1:=by rw[hw2];simp
 have hge:=hb1.size;have HW:=Y2 hw2 hrl;have H2:=Y4 hu2 g2 z2 hge;clear hu2 g2 z2 hge hw2 hb1 hr0;obtain⟨P,hP⟩:=qqe (w1.heap.size);rw[<-hP]at H2;go_upto_region 2 with(first
  |(refine zS rfl _ rfl _ hal ?_)
  |(refine zk rfl _ _ _ rfl _ _ rs rfl rfl (by rw[HW.o.2.1];exact HR.o.2.2.2.2.2.2) (by rw[HW.o.2.1];exact wJ) HW.o.2.2 ?_)
  |fail)
 rw[<-HW.o.1,<-hP];have HP:=qqh hP;clear hP;cases hok:okP b0 with
 |false=>
  have q1:=Sc hok;have hno:readOk l=false:=by unfold readOk;rw[<-HR.o.2.2.2.2.1,hok];rfl
  generalize cdP b0=cd at*;have HN:=qqh hno;have q2:¬cd=0:=by simpa using q1
  clear hok hno hr1 hr2;go_wp2_with fail
  rw[qxq];exact qYp (v:=.tuple #[.int .i64 0,.slice none 0 0,.bool false]) oo rfl (EntsOut.no HN.o (Upd.below H2.o.1))
 |true=>
  have hcd:=Sd hok;rw[hcd];obtain⟨hu2,g2,z2,hge⟩:=H2.o;rw[hr1 hok]at g2;obtain⟨c0,c1,c2,c3,cr⟩:=Xn g2 hok;obtain⟨-,-,ho1,ho2,-⟩:=yB hok;have hof:readOf l=pgOf b0:=by unfold readOf;rw[HR.o.2.2.2.2.1]
  have hsq:readSeq l=pgSeq b0:=by unfold readSeq;rw[HR.o.2.2.2.2.1]
  rw[<-hof]at c2 ho1 ho2;rw[<-hsq]at c0;have HB:=Y5 g2 c0 ho1 ho2 hok;clear g2 c0 c1 c3 cr hof hsq hcd hr1 hr2 hok hu2 z2 hge ho1 ho2;by_cases hle:readOf l<=l.length
  .have q2:¬((l.length:Int)<(readOf l:Int)):=oM;go_wp2_with fail
   go_step3
   go_wp2_with fail
   go_loopg[7,8,32] l.length (fun gk s7 s8 s32 wr=>∃k:Nat,k+gk=l.length/\s32=.int .i64 (k:Int)/\s8=.bool true/\Sl wr 155 4 s7 (entsTo l (min k (readOf l))).length ((entsTo l (min k (readOf l))).flatMap entC)/\From (P+1) s7/\Upd (fun j=>P+1<=j) w2 wr/\∀i<k,goesP (readSeq l) (readOf l) i (l.getD i zB)=true)
   case atStart=>exact⟨0,oM,rfl,rfl,by rw[Nat.zero_min];exact Sl.nil _ _ _,From.nil _ _ _,uur _ _,fun i h=>oM⟩
   case round=>
    obtain⟨k,hk,rfl,rfl,hsl,hfr,hu,hall⟩:=hrel;obtain⟨hrow,hl,h64,hN,hb0,hal',hZl⟩:=HR.o;obtain⟨hu2,g2,z2,hge⟩:=H2.o;obtain⟨gg2,c0,ho1,ho2,hok⟩:=HB.o;have hout:∀j,j<=P->¬(P+1<=j):=fun j hj=>oM;have d0:=hu.jS c0 (hout _ (qXo _));have d2:=hu.jS c2 (hout _ (qXo _));have hU:Upd (fun j=>w.heap.size<=j) w wr:=(hu2.mono fE).trans (hu.mono (fun j _ (h:P+1<=j)=>oM));by_cases hlt:k<l.length
    .have k1:(k:Int)<(l.length:Int):=oM;have k0:(0:Int)<=(k:Int):=oM;obtain⟨bk,hbk⟩:=qqe (l.getD k zB);have hbl:bk.length=64:=by rw[hbk];exact h64 k
     have hr1:=tN hrow hl hlt;rw[<-hbk]at hr1;have hrk:wr.rangeAt g (o+k*64) (bkC bk):=hU.range hr1 oM;have hszk:=zq bk hbl;obtain⟨w3,hw3⟩:=qqe (wr.alloc (.cells (bkC bk).toArray 60));have hu3:=qqu hw3;have g3:=qqg hw3;have r3:=zg g3;have e0:=hu3.jS d0 id;have e2:=hu3.jS d2 id;have hst:=zu bk;have HW3:=qqh hw3;have hzr:P+1<=wr.heap.size:=by have:=hu.size;omega
     have H3:=Y11 hu3 hsl hfr hu hall hU hN ho1 ho2 hk hzr;obtain⟨q,hq⟩:=qqe (wr.heap.size);have HQ:=qqh hq;have HBK:=Y2 hbk hb0;have hx8:(bkC bk).toArray.size=64:=zn _ hbl;rw[<-hq]at r3;have hb3:Below w.heap.size w w3:=(zj (qxl _ w) hU (qXo _) (fun _ h=>h)).trans ((Upd.below hu3).mono hU.size);have HE:=qqh hb3;clear hw3 hu3 g3 hu2 g2 z2 hge gg2 c0 ho1 ho2 hok d0 d2 hr1 hsl hfr hu hall hU hN hal' hrow hl h64 hZl hzr hq hb3 hbk hb0;go_upto_region 9 with(first
      |(refine qYy rfl _ _ rfl _ _ rfl _ _ hrk underlying60 rfl hszk ?_)
      |(refine zk rfl _ _ _ rfl _ _ (bkC bk) rfl rfl (by rw[zm,hbl];rfl) hszk hst ?_)
      |fail)
     rw[<-HW3.o,<-HQ.o];by_cases hof:readOf l<=k
     .have hgo:goesP (readSeq l) (readOf l) k bk=(bk==zB):=by unfold goesP;rw[if_pos hof]
      have q3:((readOf l:Nat):Int)<=(k:Int):=oM;have hneq:=fun W=>qr bk zB hbl zH W;obtain⟨ZB,hZB⟩:=qqe (zB);have hbz:=yT ZB hZB;rw[<-hZB]at hneq hgo;have HZB:=qqh hZB;clear hZB;by_cases hz:bk=ZB
      .have qz:(bk==ZB)=true:=by simp[hz]
       rw[qz]at hneq hgo;have HGO:=qqh hgo;clear hgo hz;go_wp2_with (first
        |(refine qYy rfl _ _ rfl _ _ rfl _ _ r3 underlying60 rfl hszk ?_)
        |(refine zO rfl rfl hbz ?_)
        |fail)
       go_roundg (gk-1)
       case measure=>omega
       case rel=>
        obtain⟨hu3,hsl,hfr,hu,hall,hU,hN,ho1,ho2,hk,hzr⟩:=H3.o;refine⟨k+1,oM,by go_num,rfl,?_,hfr,hu.trans (hu3.mono fE),fun i hi=>?_⟩
        .rw [Nat.min_eq_right hof]at hsl;rw[Nat.min_eq_right oM];exact hsl.keep hu3 (fun _ _ h=>h)
        .rcases Nat.lt_succ_iff_lt_or_eq.1 hi with h|rfl
         .exact hall i h
         .rw [<-HBK.o.1];exact HGO.o
      .have qz:(bk==ZB)=false:=by simpa using hz
       rw[qz]at hneq hgo;have HN:=qqh (uI hlt (HBK.o.1▸hgo));clear hgo hz;go_wp2_with (first
        |(refine qYy rfl _ _ rfl _ _ rfl _ _ r3 underlying60 rfl hszk ?_)
        |(refine zO rfl rfl hbz ?_)
        |fail)
       rw[qxq];exact qYp (v:=.tuple #[.int .i64 0,.slice none 0 0,.bool false]) oo rfl (EntsOut.no HN.o HE.o)
     .have q3:¬(((readOf l:Nat):Int)<=(k:Int)):=oM;have hgo:goesP (readSeq l) (readOf l) k bk=(okP bk&&(pgSeq bk==readSeq l&&(pgNo bk==k&&(pgOf bk==readOf l&&(if k+1=readOf l then !(pgMany bk==0&&decide (0<k))else pgMany bk==4))))):=by unfold goesP;rw[if_neg hof]
      have hGP:=qqh (Xu (H3.o.2.2.2.2.2.2.1.keep (S:=fun j=>w.heap.size<=j) (H3.o.2.2.2.2.2.1.trans (H3.o.1.mono fE)) (fun h=>by have:=H3.o.2.2.2.2.2.2.1.lt;omega)) bk hbl);go_wp2_with (first
       |(refine qYy rfl _ _ rfl _ _ rfl _ _ r3 underlying60 rfl hszk ?_)
       |fail)
      refine hGP.out.mono ?_;rintro e w4 ⟨⟨rs',hr1,hr2,rfl⟩,hb4⟩;have hrl':rs'.length=20/\∀v∈rs',v.oneCell'=true:=by
       cases hk:okP bk with
       |true=>rw[hr1 hk];exact⟨vt _,vu _⟩
       |false=>rw[hr2 hk];exact⟨rfl,qxv.1 (by simp[vK,Value.oneCell']:vK.all (·.oneCell')=true)⟩
      obtain⟨w5,hw5⟩:=qqe (w4.alloc (.cells rs'.toArray 297));have hu5:Upd (fun _=>False) w3 w5:=by rw[hw5];exact(uuo hb4).alloc _
      have g5:=qqg hw5;have hz5:w5.heap.size=w4.heap.size+1:=by rw[hw5];simp
      have f0:=hu5.jS e0 id;have f2:=hu5.jS e2 id;have HW5:=Y2 hw5 hrl';obtain⟨M,hM⟩:=qqe (w4.heap.size);rw[<-hM]at g5;have hb5:Below w.heap.size w w5:=HE.o.trans ((Upd.below hu5).mono HE.o.size);have HE5:=Y5 hb5 hu5 hz5 hM hb4.size;have HM:=qqh hM;clear hw5 hrl' hb4 hu5 hz5 hb5 e0 e2 hM r3;go_upto_region 13 with(first
       |(refine zS rfl _ rfl _ hal ?_)
       |(refine zk rfl _ _ _ rfl _ _ rs' rfl rfl (by rw[HW5.o.2.1];exact HR.o.2.2.2.2.2.2) (by rw[HW5.o.2.1];exact wJ) HW5.o.2.2 ?_)
       |fail)
      rw[<-HW5.o.1,<-HM.o];cases hok:okP bk with
      |false=>
       have q4:=Sc hok;rw[hok]at hgo;have HN:=qqh (uI hlt (HBK.o.1▸hgo));generalize cdP bk=cd at*;have q5:¬cd=0:=by simpa using q4
       clear hok hgo hr1 hr2;go_wp2_with fail
       rw[qxq];exact qYp (v:=.tuple #[.int .i64 0,.slice none 0 0,.bool false]) oo rfl (EntsOut.no HN.o HE5.o.1)
      |true=>
       rw[Sd hok];rw[hr1 hok]at g5;obtain⟨y0,y1,y2,y3,yr⟩:=Xn g5 hok;rw[hok,qxp]at hgo;have hmany:=(yB hok).2.2.2.2;have hel:(pgEnts bk).length=pgMany bk:=by simp[pgEnts]
       obtain⟨pe,hpe⟩:=qqe (pgEnts bk);rw[<-hpe]at yr hel;have HPE:=qqh hpe;generalize pgSeq bk=a0 at*;generalize pgNo bk=a1 at*;generalize pgOf bk=a2 at*;generalize pgMany bk=a3 at*;clear hr1 hr2 hok g5 hpe;have hgn:goesP (readSeq l) (readOf l) k bk=false->readOk l=false:=fun h=>uI hlt (HBK.o.1▸h);have hfin:goesP (readSeq l) (readOf l) k bk=true->∀v' w6,Sl w6 155 4 v' ((entsTo l k).length+a3) ((entsTo l k).flatMap entC++pe.flatMap entC)->Upd (ownS u7) w5 w6->blockFrom w5 u7 v'->
         Sl w6 155 4 v' (entsTo l (min (k+1) (readOf l))).length ((entsTo l (min (k+1) (readOf l))).flatMap entC)/\From (P+1) v'/\Upd (fun j=>P+1<=j) w2 w6/\∀i<k+1,goesP (readSeq l) (readOf l) i (l.getD i zB)=true:=by
        intro hg v' w6 hs6 hu6 hb6;obtain⟨hu3,hsl,hfr,hu,hall,hU,hN,ho1,ho2,hk,hzr⟩:=H3.o;obtain⟨hb5,hu5,hz5,hM,hMs⟩:=HE5.o;refine⟨?_,hb6.ge (by have:=hu3.size;have:=hu5.size;omega) hfr,(hu.trans (((hu3.trans hu5).mono fE))).trans (hu6.mono (fun j _ hj=>hfr j hj)),fun i hi=>?_⟩
        .rw [Nat.min_eq_left oM,tO,qyy,qyd,<-HBK.o.1,<-HPE.o,hel];exact hs6
        .rcases Nat.lt_succ_iff_lt_or_eq.1 hi with h|rfl
         .exact hall i h
         .rw [<-HBK.o.1];exact hg
       have hsl5:Sl w5 155 4 u7 (entsTo l k).length ((entsTo l k).flatMap entC):=by
        have:=H3.o.2.1;rw[Nat.min_eq_left oM]at this;exact this.keep (H3.o.1.trans HE5.o.2.1) (fun _ _ h=>h)
       have hel4:(entsTo l k).length<=4*k:=by
        refine sV (of:=k) (fun i hi=>?_) k (qXo _);have:=H3.o.2.2.2.2.1 i hi;unfold goesP at this;rw[if_neg oM]at this;exact(qxo _ _▸this).1
       have hrd:Rd w5 4 (.slice (some ⟨M,4,none⟩) a3 a3) a3 (pe.flatMap entC):=by
        refine⟨by rw[xQ,hel],by unfold maxLen;omega,some ⟨M,4,none⟩,a3,rfl,(fun h=>by cases h),(fun b hb=>?_)⟩;cases hb;intro j u hj;rw[qxa];exact yr j u hj
       have hpe1:∀u∈pe.flatMap entC,u.oneCell'=true:=fun u hu=>by
        obtain⟨x,-,hx⟩:=qzp.1 hu;exact YH x u hx
       have hofe:1<=readOf l/\readOf l<=256:=⟨HB.o.2.2.1,HB.o.2.2.2.1⟩
       obtain⟨ie,ze,hie,hze,hz4,hi4,hi32⟩:=XC;have HF:=Y5 hfin hsl5 hrd hpe1 hel4;have HGN:=qqh hgn;clear hgn hfin hsl5 hrd hpe1 hel4 yr hel;generalize goesP (readSeq l) (readOf l) k bk=gb at*;generalize readSeq l=S0 at*;generalize readOf l=F0 at*;by_cases h0:a0=S0
       .subst h0;by_cases h1:a1=k
        .subst h1;by_cases h2:a2=F0
         .subst h2;simp only[beq_self_eq_true,qxp]at hgo;by_cases hl:a1+1=a2
          .subst hl;rw[if_pos rfl]at hgo;by_cases h3:a3=0
           .subst h3;by_cases h4:0<a1
            .have q6:((0:Nat):Int)<(a1:Int):=oM;have HN:=qqh (HGN.o (by rw[hgo,qYr h4];rfl));clear hgo;go_wp2_with fail
             rw[qxq];exact qYp (v:=.tuple #[.int .i64 0,.slice none 0 0,.bool false]) oo rfl (EntsOut.no HN.o HE5.o.1)
            .have q6:¬((0:Nat):Int)<(a1:Int):=oM;rw[decide_eq_false h4]at hgo;replace hgo:gb=true:=hgo;have HF2:=qqh (HF.o.1 hgo);have HS:=Y4 HF.o.2.1 HF.o.2.2.1 HF.o.2.2.2.1 HF.o.2.2.2.2;clear hgo;go_wp2_with (first
              |(at_builtin;refine zI rfl _ _ 146 rfl ie ze 32 underlying146 hie hze hi4 hi32 hz4 de rfl HS.o.1 _ _ (pe.flatMap entC) rfl HS.o.2.1 HS.o.2.2.1 oX jJ ?_)
              |fail)
             intro v' w6 hs6 hu6 hb6;have HZ:=qqh (HF2.o v' w6 hs6 hu6 hb6);clear hs6 hu6 hb6;go_wp2_with fail
             go_roundg (gk-1)
             case measure=>have:=H3.o.2.2.2.2.2.2.2.2.2.1;omega
             case rel=>exact⟨a1+1,by have:=H3.o.2.2.2.2.2.2.2.2.2.1;omega,by go_num,rfl,HZ.o.1,HZ.o.2.1,HZ.o.2.2.1,HZ.o.2.2.2⟩
           .have q6:¬((a3:Nat):Int)=0:=oM;have b1:(0:Int)<=(a3:Int):=oM;have b2:(a3:Int)<=4:=oM;rw[show(a3==0)=false by simpa using h3]at hgo;replace hgo:gb=true:=hgo;have HF2:=qqh (HF.o.1 hgo);have HS:=Y4 HF.o.2.1 HF.o.2.2.1 HF.o.2.2.2.1 HF.o.2.2.2.2;clear hgo;go_wp2_with (first
             |(at_builtin;refine zI rfl _ _ 146 rfl ie ze 32 underlying146 hie hze hi4 hi32 hz4 de rfl HS.o.1 _ _ (pe.flatMap entC) rfl HS.o.2.1 HS.o.2.2.1 oX jJ ?_)
             |fail)
            intro v' w6 hs6 hu6 hb6;have HZ:=qqh (HF2.o v' w6 hs6 hu6 hb6);clear hs6 hu6 hb6;go_wp2_with fail
            go_roundg (gk-1)
            case measure=>have:=H3.o.2.2.2.2.2.2.2.2.2.1;omega
            case rel=>exact⟨a1+1,by have:=H3.o.2.2.2.2.2.2.2.2.2.1;omega,by go_num,rfl,HZ.o.1,HZ.o.2.1,HZ.o.2.2.1,HZ.o.2.2.2⟩
          .rw [if_neg hl]at hgo;have q5:¬((a1:Nat):Int)=(a2:Int)-1:=oM;by_cases h3:a3=4
           .subst h3;replace hgo:gb=true:=hgo;have HF2:=qqh (HF.o.1 hgo);have HS:=Y4 HF.o.2.1 HF.o.2.2.1 HF.o.2.2.2.1 HF.o.2.2.2.2;clear hgo;go_wp2_with (first
             |(at_builtin;refine zI rfl _ _ 146 rfl ie ze 32 underlying146 hie hze hi4 hi32 hz4 de rfl HS.o.1 _ _ (pe.flatMap entC) rfl HS.o.2.1 HS.o.2.2.1 oX jJ ?_)
             |fail)
            intro v' w6 hs6 hu6 hb6;have HZ:=qqh (HF2.o v' w6 hs6 hu6 hb6);clear hs6 hu6 hb6;go_wp2_with fail
            go_roundg (gk-1)
            case measure=>have:=H3.o.2.2.2.2.2.2.2.2.2.1;omega
            case rel=>exact⟨a1+1,by have:=H3.o.2.2.2.2.2.2.2.2.2.1;omega,by go_num,rfl,HZ.o.1,HZ.o.2.1,HZ.o.2.2.1,HZ.o.2.2.2⟩
           .have q6:¬((a3:Nat):Int)=4:=oM;have HN:=qqh (HGN.o (by rw[hgo];simpa using h3));clear hgo;go_wp2_with fail
            rw[qxq];exact qYp (v:=.tuple #[.int .i64 0,.slice none 0 0,.bool false]) oo rfl (EntsOut.no HN.o HE5.o.1)
         .have q6:¬((a2:Nat):Int)=(F0:Int):=oM;have q7:(a2==F0)=false:=by simpa using h2
          simp only[beq_self_eq_true,qxp]at hgo;rw[q7]at hgo;have HN:=qqh (HGN.o hgo);clear hgo;go_wp2_with fail
          rw[qxq];exact qYp (v:=.tuple #[.int .i64 0,.slice none 0 0,.bool false]) oo rfl (EntsOut.no HN.o HE5.o.1)
        .have q6:¬((a1:Nat):Int)=(k:Int):=oM;have q7:(a1==k)=false:=by simpa using h1
         simp only[beq_self_eq_true,qxp]at hgo;rw[q7]at hgo;have HN:=qqh (HGN.o hgo);clear hgo;go_wp2_with fail
         rw[qxq];exact qYp (v:=.tuple #[.int .i64 0,.slice none 0 0,.bool false]) oo rfl (EntsOut.no HN.o HE5.o.1)
       .have q6:¬((a0:Nat):Int)=(S0:Int):=oM;have q7:(a0==S0)=false:=by simpa using h0
        rw[q7]at hgo;have HN:=qqh (HGN.o hgo);clear hgo h0;go_wp2_with fail
        rw[qxq];exact qYp (v:=.tuple #[.int .i64 0,.slice none 0 0,.bool false]) oo rfl (EntsOut.no HN.o HE5.o.1)
    .obtain rfl:k=l.length:=oM;have k1:¬((l.length:Int)<(l.length:Int)):=oM;have hro:readOk l=true:=by
      unfold readOk;rw[<-hb0,hok,qYr hle,qxp,qxp,qxv];exact fun i hi=>hall i (qzs.1 hi)
     rw[Nat.min_eq_right hle]at hsl;have hz:EntsOut w l (.returned (.tuple #[.int .i64 (readSeq l:Int),u7,.bool true])) wr:=
      ⟨u7,by rw[hro];rfl,by rw[hro];exact hsl,hfr.mono oM,zj (qxl _ w) hU (qXo _) (fun _ h=>h)⟩
     have HZ:=qqh hz;clear hz hro hsl hfr hu hall hU hrow hl h64 hN hb0 hal' hZl hu2 g2 z2 hge gg2 ho1 ho2 hok;go_wp2_with fail
     try rw[qxq]
     exact qYp (v:=.tuple #[.int .i64 (readSeq l:Int),u7,.bool true]) oo rfl HZ.o
  .have q2:((l.length:Int)<(readOf l:Int)):=oM;have hno:readOk l=false:=by unfold readOk;rw[decide_eq_false hle];simp
   have HN:=qqh hno;clear hno hle;go_wp2_with fail
   rw[qxq];exact qYp (v:=.tuple #[.int .i64 0,.slice none 0 0,.bool false]) oo rfl (EntsOut.no HN.o (Upd.below H2.o.1))
open Go Go.RowKit Go.Shelf Tryz
attribute [local go_sem] qYa
section
variable{F:Fence}{n:Nat}{P:Program}{ops:Array Oper}{rest:List Oper}{op:Oper}{a:Act}{w:World}{Q:Exit->Act->World->Prop}
theorem ZQ(hgd:op.guard=none)(ts te:TypeId)(p:Operand)(ho:op.op=.buildSlice ts 1 #[(0,p)])(cs:List Value)(hp:a.eval p=.agg cs.toArray)
  (hrun:(Instr.buildSlice ts 1 #[(0,.agg cs.toArray)]).run P w=.ok (.slice (some ⟨w.heap.size,0,none⟩) 1 1) (w.alloc (.cells cs.toArray te)))
  (h:wpListIn F n P ops Q rest (a.put op.dst (.slice (some ⟨w.heap.size,0,none⟩) 1 1)) (w.alloc (.cells cs.toArray te))):wpListIn F n P ops Q (op::rest) a w:=by
 refine wpListIn_plain hgd fun K hK'=>?_;unfold Oper.wpIn;refine⟨by simp[Oper.about,ho],?_⟩;rw[Oper.semAt_plain F _ _ jB];simp only[execOp,ho,qzk,qzh,qzj,hp,qYf,hrun,qYe];exact hK' _ _ h
theorem ZR(hgd:op.guard=none)(s x:Operand)(t:TypeId)(hop:op.op=Op.call {callee:=Callee.builtin Builtin.append,args:= #[s,x],argTypes:= #[t,t]})(v x':Value)(hs:a.eval s=v)(hx:a.eval x=x')(v':Value)(w':World)
  (hrun:(Builtin.append_ #[t,t] op.type #[v,x']).run P w=.ok v' w') (h:wpListIn F n P ops Q rest (a.put op.dst v') w'):wpListIn F n P ops Q (op::rest) a w:=by
 refine wpListIn_plain hgd fun K hK'=>?_;unfold Oper.wpIn;refine⟨?_,?_⟩
 .simp [Oper.about,hop,resolve,Target.leads,Sem.run_pure]
 .rw [Oper.semAt_plain F _ _ (by rw[hop];intro c hc';cases hc')];simp[execOp,hop,resolve,invoke,builtin,hs,hx,hrun,Result.andThen];exact hK' _ _ h
end
theorem WL(m:Nat)(hm:m<=4096):∃Z:Array Value,Z.size=m*64/\∀w:World,(Instr.makeSlice 32 (.int .i64 0) (.int .i64 (m:Int))).run prog w=.ok (.slice (some ⟨w.heap.size,0,none⟩) 0 m) (w.alloc (.cells Z 60)):=by
 obtain⟨i0,z,hi,hz,hs,hb2,hb3⟩:=yj;refine⟨madeCells z.cells (m*64),by simp[size_madeCells],fun w=>?_⟩;have:=run_make (P:=prog) w 32 60 i0 z underlying32 hi hz .i64 .i64 0 m oM oM (by rw[hb3];omega) oM;rw[this];simp only[qxt,hb2];rfl
def secsOf(F:List Bk)(O:List (Nat×Bk))(base m:Nat):List Bk:=(List.range m).map fun i=>curB F O (base+i)
theorem wC(F:List Bk)(O:List (Nat×Bk))(base m:Nat):(secsOf F O base m).length=m:=by simp[secsOf]
def zcM(S:Nat->Prop)(w:World)(b:Nat)(F:List Bk)(O:List (Nat×Bk))(l:List Bk)(e:Ending)(w':World):Prop:=
 ∃v,e=.returned (.tuple #[.int .i64 ((if readOk l then readSeq l else 0:Nat):Int),v,.int .i64 (if readOk l then 0 else 14)])/\Sl w' 155 4 v (if readOk l then readEs l else[]).length ((if readOk l then readEs l else[]).flatMap entC)/\From w.heap.size v/\Dv (fun j=>S j/\∀g,v.ownBlock=some g->g≠j) w' b F O []/\Upd S w w'
def PrI(T D:Nat->Prop)(w5:World)(b lb rb:Nat)(F:List Bk)(O:List (Nat×Bk))(base:Nat){m:Nat}(pre:List {i:Nat//i<m})(W:World):Prop:=
 Upd T w5 W/\∃v S1,W.heap[lb]?=some (.cells #[v] 32 (0,0))/\Sl W 60 64 v pre.length (rowC (pre.map fun x=>curB F O (base+x.1)))/\(∀g,v.ownBlock=some g->g=rb\/w5.heap.size<=g)/\
  Dv S1 W b F O []/\(∀j,S1 j->D j)/\(∀j,S1 j->∃cs t z,W.heap[j]?=some (.cells cs t z))/\∀g,v.ownBlock=some g->¬S1 g
theorem zcN{S:Nat->Prop}{w:World}{b:Nat}{F:List Bk}{O:List (Nat×Bk)}(hd:Dv S w b F O [])(hn:∀j,w.heap.size<=j->S j)(base m:Nat)(hm1:1<=m)(hbm:base+m<=F.length)(hN:Nib w)(hgS:¬S 0):
  Calls prog 199 #[.pointer (some ⟨b,0,none⟩),.int .i64 (base:Int),.int .i64 (m:Int)] w (zcM S w b F O (secsOf F O base m)):=by
 have hfl:=hd.good.fl;obtain⟨Z,hZ,hmk⟩:=WL m oM;obtain⟨w1,hw1⟩:=qqe ((((w.alloc (.cells #[.pointer (some ⟨b,0,none⟩)] 38)).alloc (.cells #[.int .i64 0] 3)).alloc (.cells #[.slice none 0 0] 146)).alloc (.cells #[.int .i64 0] 31));have hu1:Upd (fun _=>False) w w1:=by rw[hw1];exact((((uur _ w).alloc _).alloc _).alloc _).alloc _
 obtain⟨e0,e1,e2,e3,z1,-⟩:=xw w (.cells #[.pointer (some ⟨b,0,none⟩)] 38) (.cells #[.int .i64 0] 3) (.cells #[.slice none 0 0] 146) (.cells #[.int .i64 0] 31);rw[<-hw1]at e0 e1 e2 e3 z1;obtain⟨w2,hw2⟩:=qqe ((w1.alloc (.cells Z 60)).alloc (.cells #[.slice (some ⟨w1.heap.size,0,none⟩) 0 m] 32));have hu2:Upd (fun _=>False) w1 w2:=by rw[hw2];exact((uur _ w1).alloc _).alloc _
 have z2:w2.heap.size=w1.heap.size+2:=by rw[hw2];simp
 have e4:w2.heap[w1.heap.size]?=some (.cells Z 60 (0,0)):=by rw[hw2];exact(qxk _ _ _ oe).trans (zc w1 _ rfl)
 have e5:w2.heap[w1.heap.size+1]?=some (.cells #[.slice (some ⟨w1.heap.size,0,none⟩) 0 m] 32 (0,0)):=by rw[hw2];exact zc _ _ oe
 have hd1:=hd.new hu1;have HW1:=qqh hw1;have HW2:=qqh hw2;have H:=Y15 hd hn hN hgS hu1 hu2 z1 z2 e4 e5 hZ e0 e1 e2 e3;clear hd hn hN hgS hu1 hu2 e4 e5 hw1 hw2 e1 e2 e3 z2 e0;refine(callsIn_wide (n:=3)).1 ?_;refine callsIn_of_wp_marks func199 rfl trivial ?_ rfl;simp only[ntmps199,qXh,qyz,qzc,Nat.reduceAdd,Nat.reduceSub,qxi,qxj,qXb,qxy,qzu,qxz];refine wpIn_wide.2 ?_;go_wp2_with fail
 rw[<-HW1.o];refine(QC hd1 base m hm1 hbm).mono ?_;rintro e w' ⟨rfl,rfl⟩;go_wp2_with fail
 have hmn:=hmk;have hz1:=H.o.2.2.2.2.2.2.1;obtain⟨A,hA⟩:=qqe (w.heap.size);have HA:=qqh hA;have hW2':=HW2.o;rw[hz1]at hW2';rw[<-hW2',<-hA];refine(tD (base:Int) (m:Int) w2).mono ?_;rintro e w5 ⟨rfl,hw5⟩;obtain⟨hd,hn,hN,hgS,hu1,hu2,z1',z2,e4,e5,hZ',e0,e1,e2,e3⟩:=H.o;have hu5:Upd (fun _=>False) w2 w5:=by rw[hw5];exact((uur _ w2).alloc _).alloc _
 have hz5:w5.heap.size=A+8:=by rw[hw5];simp;omega
 have hz2:w2.heap.size=A+6:=oM;have hcb:w5.cell? ⟨A+6,0,none⟩=some (.int .i64 (base:Int)):=by
  rw[hw5,<-hz2];exact(za ((qxk _ _ _ oe).trans (zc w2 _ rfl)) 0)
 have hcm:w5.cell? ⟨A+7,0,none⟩=some (.int .i64 (m:Int)):=by
  rw[hw5,show A+7=w2.heap.size+1 by omega];exact(za (zc _ _ oe) 0)
 have hU:Upd (fun _=>False) w w5:=(hu1.trans hu2).trans hu5;obtain⟨T,hT⟩:∃T:Nat->Prop,T=fun j=>(S j/\j<A)\/(A+4<=j/\j<A+6)\/A+8<=j:=⟨_,rfl⟩
 obtain⟨D,hD⟩:∃D:Nat->Prop,D=fun j=>(S j/\j<A)\/A+8<=j:=⟨_,rfl⟩
 have hDT:∀j,D j->T j:=fun j h=>by rw[hD]at h;rw[hT];exact h.imp id .inr
 have hD5:∀j,A<=j->j<A+8->¬D j:=fun j h1 h2 h=>by rw[hD]at h;rcases h with h|h<;>omega
 have hDn:∀j,A+8<=j->D j:=fun j h=>by rw[hD];exact .inr h
 have hTn:∀j,A+8<=j->T j:=fun j hj=>by rw[hT];exact .inr (.inr hj)
 have hTo:∀j,A<=j->j<A+4\/(A+6<=j/\j<A+8)->¬T j:=fun j h1 h2 h=>by rw[hT]at h;rcases h with h|h|h<;>omega
 have hT4:T (A+4):=by rw[hT];exact .inr (.inl oM)
 have hT5:T (A+5):=by rw[hT];exact .inr (.inl oM)
 have hd5:Dv D w5 b F O []:=((hd.ku (T:=fun j=>S j/\j<A) (fun j h1 h2=>⟨h1,oM⟩)).new hU).wide (fun j h=>by rw[hD];exact .inl h);obtain⟨S1,k1,k2,k3⟩:=hd5.exact;rw[z1']at e4 e5;rw[<-hA]at e0 e1 e2 e3 e4 e5;have g0:=(hu2.trans hu5).jT e0;have g1:=(hu2.trans hu5).jT e1;have g2:=(hu2.trans hu5).jT e2;have g3:=(hu2.trans hu5).jT e3;have g4:=hu5.jT e4;have g5:=hu5.jT e5;have hsl0:Sl w5 60 64 (.slice (some ⟨A+4,0,none⟩) 0 m) 0 []:=⟨rfl,.inr ⟨A+4,0,m,Z,rfl,g4,oM,by unfold maxLen;omega,by rw[hZ];omega,fun j u h=>by cases h⟩⟩
 have H5:=Y15 hd5 hTn hTo g0 g1 g2 g3 hT hU hT4 hT5 hD hDT hD5 hDn;have HI:Hid (PrI T D w5 b (A+5) (A+4) F O base ([]:List {i:Nat//i<m}) w5):=⟨uur _ _,_,S1,g5,hsl0,fun g hg=>by cases hg;exact .inl rfl,k1,k2,k3,fun g hg hs=>by cases hg;exact hD5 (A+4) oM oM (k2 _ hs)⟩
 rw[hz2];clear hd hn hN hgS hu1 hu2 e4 e5 hZ' e0 e1 e2 e3 hu5 g0 g1 g2 g3 g4 g5 hsl0 hd5 hU hT hD k1 k2 k3 hW2' hw5 z2 hz2 hmk hmn hA z1 z1' hz1;go_wp2_with fail
 refine(wpIn_wide (n:=3)).1 ?_
 refine' wpIn_rangeFunc_ownF rfl oM (gf:=196) (lb:= #[.pointer (some ⟨A+7,0,none⟩),.pointer (some ⟨A+6,0,none⟩)]) rfl trivial (enters_of func196 kR rfl)
  (sF _ oM T (A+7) (A+6) base m w5 oM oM oM oM (hTo _ oM (.inr oM)) (hTo _ oM (.inr oM)) hcm hcb) uR (fun W l o o' hl=>wH (M:=A+8) hTn W l o o' oM) (qxl _ _) (fun _=>rfl)
  (PrI T D w5 b (A+5) (A+4) F O base)
  (fun _ _ _=>False)
  (fun pre X Y row hs hg hr=>by
   obtain⟨hu,v,S1,hv,hs,hf,hd,k2,k3,k4⟩:=hs;have hkc:∀{j:Nat} {cs:Array Value} {t:TypeId} {z:Nat×Nat},X.heap[j]?=some (Obj.cells cs t z)->Y.heap[j]?=some (Obj.cells cs t z):=fun h=>(grownBy_keeps_cells hg (fun r e=>(hr r e).2) h rfl).trans h;exact⟨xq hu hg (fun r e=>hTn r (by have:=(hr r e).1;omega)),v,S1,hkc hv,
    hs.keep (Upd.kh (S:=fun j=>row=some j) hg (fun g e _=>e)) (fun g hgv e=>by
     obtain⟨o,ho,hc⟩:=(hr g e).2;obtain⟨cs,t,z,hcs⟩:=hs.cellsAt hgv;rw[hcs]at ho;cases ho;cases hc),hf,hd.grown hg (fun r e=>(hr r e).2),k2,fun j hj=>by obtain⟨cs,t,z,h⟩:=k3 j hj;exact⟨cs,t,z,hkc h⟩,k4⟩)
  (fun _ _ _ _ _ hs _ _=>hs)
  HI.o
  _ ?assign ?body ?done ?stop
 case assign=>
  intro l x W K hK
  gi_wp2
  exact hK
 case stop=>
  rintro D c pre W _ _ h _;exact h.elim
 case body=>
  rintro l pre ⟨i,hi⟩ W ⟨hu,v,S1,hcell,hsl,hf,h0,hs0,hcs0,hv1⟩ hlt;obtain⟨-,-,-,g0,-,-,-,hT,-,hT4,hT5,hD,hDT,hD5,hDn⟩:=H5.o;have hus:=hu.size;have hG0:=(hu.block _ (zd g0) (hTo _ (qXo _) (.inl oM))).trans g0;have c0:W.cell? ⟨A,0,none⟩=some (.pointer (some ⟨b,0,none⟩)):=za hG0 0;have hrd:=vM (S:=fun j=>S1 j\/W.heap.size<=j) (h0.wide (fun _ h=> .inl h)) (fun _ h=> .inr h) (base+i) oM;have HR:=qqh hrd;have hl0:=zd hG0;have hl5:=zd hcell;have HB:=Y14 hu hcell hsl hf h0 hs0 hcs0 hv1 hus hT5 hDT hD5 hDn hT4;clear g0 hT hT4 hDn hG0 hrd hu hcell hsl hf h0 hs0 hcs0 hv1 hT5 hD hDT hD5 hus
  gi_wp2_with fail
  refine⟨trivial,?_⟩;rw[show((base:Int)+(i:Int))=((base+i:Nat):Int) by simp];refine(CallsIn.inRound l (callsIn_wide.2 HR.o)).mono ?_;rintro e W2 ⟨y,cd,rfl,hy,hcd,hyl,hd2,hu2⟩;have hcd0:cd=0:=by rw[hcd];rfl
  have hyc:y=curB F O (base+i):=by rw[hy];rfl
  subst hcd0;obtain⟨hu,hcell,hsl,hf,h0,hs0,hcs0,hv1,hus,hT5,hDT,hD5,hDn,hT4⟩:=HB.o;obtain⟨S2,d2,s2,k2⟩:=hd2.exact;have hs2:=hu2.size;have n5:¬(S1 (A+5)\/W.heap.size<=A+5):=fun h=>by
   rcases h with h|h
   .exact hD5 _ oM oM (hs0 _ h)
   .omega
  have hcell2:=(hu2.block (A+5) hl5 n5).trans hcell;have hsl2:=hsl.keep hu2 (fun g hg h=>by
   rcases h with h|h
   .exact hv1 g hg h
   .have:=hsl.lt hg;omega)
  obtain⟨W4,hW4⟩:=qqe ((W2.alloc (.cells (bkC y).toArray 60)).alloc (.cells (bkC y).toArray 60));have hu4:Upd (fun _=>False) W2 W4:=by rw[hW4];exact((uur _ W2).alloc _).alloc _
  have hz4:W4.heap.size=W2.heap.size+2:=by rw[hW4];simp
  have g4:W4.heap[W2.heap.size+1]?=some (.cells (bkC y).toArray 60 (0,0)):=by rw[hW4];exact zc _ _ oe
  have hcell4:=hu4.jT hcell2;have hsl4:=hsl2.keep hu4 (fun _ _ h=>h);obtain⟨ib,zb,hib,hzb,hzs,hisz,hiby⟩:=yj;have hpl:pre.length<=4096:=oM;obtain⟨v',w',hrun,hs',hu',hbf⟩:=yu (P:=prog) (m:=1) (x':=.slice (some ⟨W2.heap.size+1,0,none⟩) 1 1) (news:=bkC y) 32 32 ib zb 64 underlying32 hib hzb hisz hiby hzs de hsl4
   ⟨by rw[zm,hyl],de,_,_,rfl,(fun h=>by cases h),fun b hb j u hj=>by cases hb;rw[qxa,za g4];simpa using hj⟩ (zu y) (by simp only[maxLen];omega) oM
  obtain⟨ao',cc',hv'⟩:=hs'.rd.jU;subst hv';have hv5:∀g,v.ownBlock=some g->g≠A+5:=fun g hg e=>by
   have:=hf g hg;omega
  have hc':=(hu'.block (A+5) (zd hcell4) (fun h=>hv5 _ h rfl)).trans hcell4;obtain⟨w7,hw7⟩:=qqe (w'.setCell ⟨A+5,0,none⟩ (.slice ao' (pre.length+1) cc'));have hus7:Upd (fun j=>j=A+5) w' w7:=by rw[hw7];exact zi _ _ _ _
  have hc7:w7.heap[A+5]?=some (.cells #[.slice ao' (pre.length+1) cc'] 32 (0,0)):=by rw[hw7];exact zh hc' 0 _
  have cc2:=za hcell2 0;have cc4:=za hc' 0;have ff4:=zf hc' 0;have hlt2:=zd hcell2;have hyc64:(bkC y).length=64:=by rw[zm,hyl]
  have hrow:=Wp (.agg (bkC y).toArray) (by simpa[Value.cells]using hyc64) (W2.alloc (.cells (bkC y).toArray 60));have hy64:=zq y hyl;have rA:(W2.alloc (.cells (bkC y).toArray 60)).rangeAt W2.heap.size 0 (bkC y):=zg (zc W2 _ rfl);have hbf4:∀g,(Value.slice ao' (pre.length+1) cc').ownBlock=some g->(v.ownBlock=some g\/W4.heap.size<=g):=fun g hg=>by
   rcases hbf with e|⟨g2,e,hge⟩
   .rw [e]at hg;exact .inl hg
   .rw [e]at hg;cases hg;exact .inr hge
  have hTW:Upd T W w7:=by
   refine(((hu2.mono (fun j _ h=>?_)).trans (hu4.mono fE)).trans (hu'.mono (fun j _ h=>?_))).trans (hus7.mono (fun j _ h=>h▸hT5))
   .rcases h with h|h
    .exact hDT _ (hs0 _ h)
    .exact hTn _ oM
   .rcases hf j h with rfl|h
    .exact hT4
    .exact hTn _ oM
  have hS2v:∀j,S2 j->v.ownBlock≠some j:=fun j hj e=>by
   rcases s2 j hj with h|h
   .exact hv1 j e h
   .have:=hsl.lt e;omega
  have hS25:∀j,S2 j->j≠A+5:=fun j hj e=>by
   rcases s2 j hj with h|h
   .exact hD5 _ oM oM (hs0 _ (e▸h))
   .omega
  have hPOST:KeepsOthers W w7/\Upd T W w7/\PrI T D w5 b (A+5) (A+4) F O base (pre++[(⟨i,hi⟩:{i:Nat//i<m})]) w7:=by
   refine⟨?_,hTW,hu.trans hTW,_,S2,hc7,?_,fun g hg=>?_,?_,fun j hj=>?_,fun j hj=>?_,fun g hg hs=>?_⟩
   .have e1:KeepsOthers W W2:=zC hu2 (fun j hj hl=>by
     rcases hj with hj|hj
     .exact hcs0 j hj
     .omega)
    have e2:KeepsOthers W2 W4:=⟨oM,fun k o hk ho=>hu4.jT hk⟩
    exact((e1.trans e2).trans (zC hu' (fun j hj _=>hsl4.cellsAt hj))).trans (zC hus7 (fun j hj _=>⟨_,_,_,hj▸hc'⟩))
   .rw [qyy,qzg];show Sl w7 _ _ _ _ (rowC (_++[curB F O (base+i)]));rw[xt,<-hyc];exact hs'.keep hus7 (fun g hg e=>by
     rcases hbf4 g hg with h|h
     .exact hv5 g h e
     .omega)
   .rcases hbf4 g hg with h|h
    .exact hf g h
    .right;omega
   .exact ((d2.keep hu4 (fun _ _ h=>h)).keep hu' (fun j hj h=>hS2v j hj h)).keep hus7 (fun j hj e=>hS25 j hj e)
   .rcases s2 j hj with h|h
    .exact hs0 j h
    .exact hDn j oM
   .obtain ⟨cs,t,z,hc⟩:=k2 j hj;have q1:=hu4.jT hc;have q2:=(hu'.block j (zd q1) (fun h=>hS2v j hj h)).trans q1;exact⟨cs,t,z,(hus7.block j (zd q2) (fun e=>hS25 j hj e)).trans q2⟩
   .rcases hbf4 g hg with h|h
    .exact hS2v g hs h
    .obtain ⟨cs,t,z,hc⟩:=k2 g hs;have:=zd hc;omega
  have HP:=qqh hPOST;have HW7:=qqh hw7;rw[hW4]at hrun;have HRun:=qqh hrun;clear hPOST hTW hS2v hS25 hw7 hrun hW4 hu4 hz4 g4 hcell4 hsl4 hs' hu' hbf hbf4 hv5 hus7 hc7 d2 s2 k2 hs2 n5 hcell2 hsl2 hu hcell hsl hf h0 hs0 hcs0 hv1 hus hT5 hDT hD5 hDn hT4 hy hcd hyc hd2 hu2 hc'
  gi_wp2_with (first
   |(refine xz rfl _ _ _ rfl _ _ (bkC y) rfl rfl (by rw[hyc64];rfl) hy64 (zu y) ?_)
   |(refine yJ rfl 60 _ rfl _ _ rfl _ _ rA underlying60 rfl hy64 ?_)
   |(refine ZQ rfl 32 60 _ rfl (bkC y) rfl hrow ?_)
   |(gi_at_builtin;refine Stop.i ?_)
   |fail)
  refine ZR rfl _ _ 32 rfl v (.slice (some ⟨W2.heap.size+1,0,none⟩) 1 1) ?a1 ?a2 (.slice ao' (pre.length+1) cc') w' ?a3 ?a4
  case a1=>rfl
  case a2=>rfl
  case a3=>
   dsimp only
   with_reducible exact HRun.out
  case a4=>
   clear rA hrow HRun
   gi_wp2
   rw[<-HW7.o];exact HP.o
 case done=>
  rintro Dl ys W hD hys ⟨hu,v,S1,hcell,hsl,hf,h0,hs0,hcs0,hv1⟩ hK;obtain⟨-,-,-,g0,g1,g2,g3,hT,hU,hT4,hT5,hD',hDT,hD5,hDn⟩:=H5.o;have hlen:ys.length=m:=by have:=congrArg List.length hys;simpa using this
  have hsec:ys.map (fun x=>curB F O (base+x.1))=secsOf F O base m:=by
   unfold secsOf;rw[<-hys,qzi];rfl
  rw[hlen,hsec]at hsl;obtain⟨ao,cc,rfl⟩:=hsl.rd.jU;have clb:=za hcell 0;have hlb:=zd hcell;have hnl:Nib W:=H.o.2.2.1.keep (S:=fun j=>T j) ((hU.mono fE).trans hu) (fun h=>by
   rw[hT]at h;have:=H.o.2.2.1.lt;have hA:=HA.o;rcases h with h|h|h
   .exact H.o.2.2.2.1 h.1
   .omega
   .omega)
  have h64:All64 (secsOf F O base m):=fun x hx=>by
   obtain⟨i,-,rfl⟩:=qzq.1 hx;exact ql h0.good _
  have hsl':=wC F O base m;have HE:=qqh (Se (w:=W) (v:=.slice ao m cc) (l:=secsOf F O base m) (by rw[hsl'];exact hsl.rd) h64 oM oM hnl);have hA:=HA.o;have hgg:∀(j:Nat) (o:Obj),A<=j->j<A+4->w5.heap[j]?=some o->W.heap[j]?=some o:=fun j o h1 h2 h=>(hu.block j (zd h) (hTo _ h1 (.inl h2))).trans h;have q1:=hgg _ _ oM oM g1;have q2:=hgg _ _ oM oM g2;have q3:=hgg _ _ oM oM g3;have HV:=Y13 hu hsl hf h0 hs0 hcs0 hK hU hT hD' q1 q2 q3;generalize secsOf F O base m=l at*;clear g0 g1 g2 g3 hT hU hT4 hT5 hD' hDT hD5 hDn hu hcell hsl hf h0 hs0 hcs0 hv1 hK hnl h64 hsec hys hgg q1 q2 q3 hA
  gi_wp2_with fail
  go_wp2_with fail
  refine HE.o.mono ?_;rintro e W2 ⟨v2,rfl,hs2,hf2,hb2⟩;obtain⟨hu,hsl,hf,h0,hs0,hcs0,hK,hU,hT,hD',q1,q2,q3⟩:=HV.o;have hu2:=qqb hb2;have p1:=hu2.jT q1;have p2:=hu2.jT q2;have p3:=hu2.jT q3;have hK2:=hu2.jT hK;obtain⟨ao2,cc2,rfl⟩:=hs2.rd.jU;have hA:=HA.o;have hWA:A+8<=W.heap.size:=by have:=hu.size;omega
  have hn:=H.o.2.1;have hfin:∀(x y z:Value),∃W3,W3=(((W2.setCell ⟨A+1,0,none⟩ x).setCell ⟨A+1+1,0,none⟩ y).setCell ⟨A+1+1+1,0,none⟩ z).putObj Dl (.deferred none)/\
    (((W2.setCell ⟨A+1,0,none⟩ x).setCell ⟨A+1+1,0,none⟩ y).setCell ⟨A+1+1+1,0,none⟩ z).heap[Dl]?=some (.deferred (some []))/\W3.cell? ⟨A+1,0,none⟩=some x/\W3.cell? ⟨A+1+1,0,none⟩=some y/\W3.cell? ⟨A+1+1+1,0,none⟩=some z/\Dv (fun j=>S j/\j<W.heap.size) W3 b F O []/\Upd S w W3/\(∀u n xs,Sl W2 155 4 u n xs->From W.heap.size u->Sl W3 155 4 u n xs):=by
   intro x y z;have u1:=zi W2 (A+1) 0 x;have u2:=zi (W2.setCell ⟨A+1,0,none⟩ x) (A+1+1) 0 y;have u3:=zi ((W2.setCell ⟨A+1,0,none⟩ x).setCell ⟨A+1+1,0,none⟩ y) (A+1+1+1) 0 z;have s1:=zh p1 0 x;have s2:=zh ((u1.block _ (zd p2) oM).trans p2) 0 y;have s3:=zh ((u2.block _ (by simpa using zd p3) oM).trans ((u1.block _ (zd p3) oM).trans p3)) 0 z;have k1:=(u1.block _ (zd hK2) oM).trans hK2;have k2:=(u2.block _ (zd k1) oM).trans k1;have k3:=(u3.block _ (zd k2) oM).trans k2;have u4:=uF (((W2.setCell ⟨A+1,0,none⟩ x).setCell ⟨A+1+1,0,none⟩ y).setCell ⟨A+1+1+1,0,none⟩ z) Dl (.deferred none);have hUU:Upd (fun j=>j=A+1\/j=A+1+1\/j=A+1+1+1\/j=Dl) W2 _:=(((u1.mono (fun _ _ h=> .inl h)).trans (u2.mono (fun _ _ h=> .inr (.inl h)))).trans (u3.mono (fun _ _ h=> .inr (.inr (.inl h))))).trans (u4.mono (fun _ _ h=> .inr (.inr (.inr h))));refine⟨_,rfl,k3,?_,?_,?_,?_,?_,?_⟩
   .have s1':=(u2.block _ (zd s1) oM).trans s1;have s1'':=(u3.block _ (zd s1') oM).trans s1';exact(u4.cellAt (zd s1'') oM).trans (za s1'' 0)
   .have s2':=(u3.block _ (zd s2) oM).trans s2;exact(u4.cellAt (zd s2') oM).trans (za s2' 0)
   .exact (u4.cellAt (zd s3) oM).trans (za s3 0)
   .have d1:=(h0.keep hu2 (fun _ _ h=>h)).keep hUU (fun j hj h=>by
     obtain⟨cs,t,zz,hc⟩:=hcs0 j hj;rcases h with h|h|h|h
     .exact hD5 j oM oM (hs0 j hj)
     .exact hD5 j oM oM (hs0 j hj)
     .exact hD5 j oM oM (hs0 j hj)
     .rw [h,hK]at hc;cases hc)
    exact d1.wide (fun j hj=>by
     have:=hs0 j hj;obtain⟨cs,t,zz,hc⟩:=hcs0 j hj;rw[hD']at this;refine⟨?_,zd hc⟩;rcases this with h|h
     .exact h.1
     .exact hn j oM)
   .have hX:Upd (fun j=>T j\/j=A+1\/j=A+1+1\/j=A+1+1+1\/j=Dl) w5 _:=((hu.mono (fun _ _ h=> .inl h)).trans (hu2.mono fE)).trans (hUU.mono (fun _ _ h=> .inr h));refine(hU.mono fE).new hX (fun i hi hs=>?_);rcases hs with hs|hs|hs|hs|hs
    .rw [hT]at hs;rcases hs with hs|hs|hs
     .exact hs.1
     .omega
     .omega
    .omega
    .omega
    .omega
    .omega
   .intro u n xs h1 h2;exact h1.keep hUU (fun g hg h=>by
     have:=h2 g hg;rcases h with h|h|h|h
     .omega
     .omega
     .omega
     .obtain ⟨cs,t,zz,hc⟩:=h1.cellsAt hg;rw[h,hK2]at hc;cases hc)
  have HF:=Y4 hfin hs2 hf2 hWA;have f1:=zf p1 0;have f2:=zf p2 0;have f3:=zf p3 0;have d1:=za p1 0;have d2:=za p2 0;have d3:=za p3 0;have l3:=zd p3;have HP3:=Y3 p1 p2 p3;clear hfin hs2 hf2 hWA hu hsl hf h0 hs0 hcs0 hK hU hT hD' q1 q2 q3 hu2 p1 p2 p3 hK2 hA hn hb2;have hAw:w.heap.size<=W.heap.size:=by have:=HA.o;have:=HF.o.2.2.2;omega
  cases hro:readOk l with
  |false=>
   simp only[hro]at HF;rw[if_neg de]at HF⊢;have hO:=qqh hro;clear hro;go_wp2_with fail
   obtain⟨W3,hW3,k3,c1,c2,c3,dv,up,sl⟩:=HF.o.1 (.int .i64 0) (.slice none 0 0) (.int .i64 14);refine⟨oe,.inl ⟨_,_,rfl,run_takeDeferred k3,?_⟩⟩;rw[<-hW3];refine⟨.tuple #[.int .i64 0,.slice none 0 0,.int .i64 14],by simp[results,results199,go_sem,c1,c2,c3],.slice none 0 0,by rw[hO.out];rfl,by rw[hO.out];exact Sl.nil _ _ _,From.nil _ _ _,dv.wide (fun j hj=>⟨hj.1,fun g hg=>by cases hg⟩),up⟩
  |true=>
   simp only[hro]at HF⊢
   try simp only[if_true]
   have hO:=qqh hro;clear hro;go_wp2_with fail
   obtain⟨W3,hW3,k3,c1,c2,c3,dv,up,sl⟩:=HF.o.1 (.int .i64 (readSeq l:Nat)) (.slice ao2 (readEs l).length cc2) (.int .i64 0);refine⟨oe,.inl ⟨_,_,rfl,run_takeDeferred k3,?_⟩⟩;rw[<-hW3];refine⟨.tuple #[.int .i64 (readSeq l:Nat),.slice ao2 (readEs l).length cc2,.int .i64 0],by simp[results,results199,go_sem,c1,c2,c3],.slice ao2 (readEs l).length cc2,by rw[hO.out];rfl,by rw[hO.out];exact sl _ _ _ HF.o.2.1 HF.o.2.2.1,HF.o.2.2.1.mono hAw,dv.wide (fun j hj=>⟨hj.1,fun g hg=>by have:=HF.o.2.2.1 g hg;omega⟩),up⟩
end
section
def nwS(F:List Bk)(O:List (Nat×Bk))(base m:Nat):Nat->Bool×Nat×Nat×List Ent
 |0=>(false,0,0,[])
 |k+1=>if readOk (secsOf F O (base+k*m) m)&&(!(nwS F O base m k).1||decide ((nwS F O base m k).2.2.1<readSeq (secsOf F O (base+k*m) m)))then(true,k,readSeq (secsOf F O (base+k*m) m),readEs (secsOf F O (base+k*m) m))else nwS F O base m k
theorem Sf{F:List Bk}{O:List (Nat×Bk)}{base m:Nat}:∀{k:Nat},(nwS F O base m k).1=false->nwS F O base m k=(false,0,0,[])
 |0,_=>rfl
 |k+1,h=>by
  rw[nwS]at h⊢;split at h
  .cases h
  .next hc=>rw[if_neg hc];exact Sf h
theorem zaR{S:Nat->Prop}{w:World}{b:Nat}{F:List Bk}{O:List (Nat×Bk)}{P:List Int}(h:Dv S w b F O P)(base m:Nat)(h1:1<=m)(h2:base+2*m<=F.length):
  Calls prog 129 #[.pointer (some ⟨b,0,none⟩),.int .i64 (base:Int),.int .i64 (m:Int),.int .i64 2] w fun e w'=>e=.returned (.bool true)/\w=w':=by
 have hfl:=h.good.fl;have b1:¬((base:Int)>(F.length:Int)):=oM;have b2:(m:Int)<=((F.length:Int)-(base:Int)).tdiv 2:=by
  rw[Int.tdiv_eq_ediv_of_nonneg oM];omega
 have b3:¬((m:Int)<1):=oM;have b4:¬((base:Int)<0):=oM;have b5:0<=((F.length:Int)-(base:Int)):=oM;have q1:decide ((F.length:Int)<(base:Int))=false:=by simp;omega
 go_enter func129,ntmps129
 go_wp2_with (first
  |(go_at_call 78;refine(tw h).mono ?_;rintro e w' ⟨rfl,rfl⟩)
  |fail)
 go_ret
 refine⟨?_,rfl⟩;simp;omega
def NwOut(S:Nat->Prop)(w:World)(b:Nat)(F:List Bk)(O:List (Nat×Bk))(r:Bool×Nat×Nat×List Ent)(e:Ending)(w':World):Prop:=
 ∃v,e=.returned (.tuple #[.int .i64 (r.2.1:Nat),.int .i64 (r.2.2.1:Nat),v,.int .i64 (if r.1 then 0 else 14)])/\Sl w' 155 4 v r.2.2.2.length (r.2.2.2.flatMap entC)/\From w.heap.size v/\Dv (fun j=>S j/\∀g,v.ownBlock=some g->g≠j) w' b F O []/\Upd S w w'
theorem EC{S:Nat->Prop}{w:World}{b:Nat}{F:List Bk}{O:List (Nat×Bk)}(hd:Dv S w b F O [])(hn:∀j,w.heap.size<=j->S j)(base m:Nat)(hm1:1<=m)(hbm:base+2*m<=F.length)(hN:Nib w)(hgS:¬S 0):
  Calls prog 134 #[.pointer (some ⟨b,0,none⟩),.int .i64 (base:Int),.int .i64 (m:Int)] w (NwOut S w b F O (nwS F O base m 2)):=by
 have hfl:=hd.good.fl;have HT:=qqh (zaR hd base m hm1 hbm);have H:=Y4 hd hn hN hgS;clear hd hn hN hgS;go_enter func134,ntmps134
 go_wp2_with fail
 refine HT.o.mono ?_;rintro e w' ⟨rfl,rfl⟩;go_wp2_with fail
 go_loopg[6,7,8,10,22] 2 (fun gk s6 s7 s8 s10 s22 wr=>∃k:Nat,∃f q z E,k+gk=2/\s22=.int .i64 (k:Int)/\(f,q,z,E)=nwS F O base m k/\s10=.bool f/\s6=.int .i64 (q:Nat)/\s7=.int .i64 (z:Nat)/\Sl wr 155 4 s8 E.length (E.flatMap entC)/\From w.heap.size s8/\Dv (fun j=>S j/\∀g,s8.ownBlock=some g->g≠j) wr b F O []/\Upd S w wr)
 case atStart=>exact⟨0,false,0,0,[],oM,rfl,rfl,rfl,rfl,rfl,Sl.nil _ _ _,From.nil _ _ _,H.o.1.ku (fun j h1 h2=>⟨h1,fun g hg=>by cases hg⟩),uur _ _⟩
 case round=>
  obtain⟨k,f,q,z,E,hk,rfl,hS,rfl,rfl,rfl,hsl,hfr,hd,hu⟩:=hrel;have hnl:Nib wr:=H.o.2.2.1.keep hu H.o.2.2.2;by_cases hlt:k<2
  .have k1:(k:Int)<2:=oM;have hkm:k*m<=1*m:=qXu m oM;have hu8:∀g,u8.ownBlock=some g->g<wr.heap.size:=fun g hg=>hsl.lt hg;have HR:=qqh (zcN (S:=fun j=>S j/\∀g,u8.ownBlock=some g->g≠j) hd (fun j hj=>⟨H.o.2.1 j (by have:=hu.size;omega),fun g hg=>by have:=hu8 g hg;omega⟩) (base+k*m) m hm1 oM hnl (fun h=>H.o.2.2.2 h.1));rw[show((base+k*m:Nat):Int)=(base:Int)+(k:Int)*(m:Int) by simp]at HR;have hS1:nwS F O base m (k+1)=if readOk (secsOf F O (base+k*m) m)&&(!f||decide (z<readSeq (secsOf F O (base+k*m) m)))then(true,k,readSeq (secsOf F O (base+k*m) m),readEs (secsOf F O (base+k*m) m))else(f,q,z,E):=by
    rw[nwS,<-hS]
   have HH:=Y6 hsl hfr hd hu hk hS1;have b1:(0:Int)<=(k:Int)*(m:Int):=by rw[<-Int.natCast_mul];omega
   have b2:(base:Int)+(k:Int)*(m:Int)<=4096:=by rw[<-Int.natCast_mul];omega
   have b3:(k:Int)*(m:Int)<=4096:=by rw[<-Int.natCast_mul];omega
   clear hsl hfr hd hu hnl hS hS1;go_wp2_with fail
   refine HR.o.mono ?_;rintro e w2 ⟨v2,rfl,hs2,hf2,hd2,hu2⟩;generalize secsOf F O (base+k*m) m=l at*;clear HR;cases hro:readOk l with
   |false=>
    have hO:=qqh hro;rw[hro]at HH hs2;clear hro;go_wp2_with fail
    go_roundg (gk-1)
    case measure=>have:=HH.o.2.2.2.2.1;omega
    case rel=>
     obtain⟨hsl,hfr,hd,hu,hk,hS1⟩:=HH.o;exact⟨k+1,f,q,z,E,oM,by go_num,by rw[hS1,if_neg oe],rfl,rfl,rfl,hsl.keep hu2 (fun g hg h=>h.2 g hg rfl),hfr,hd2.wide (fun j hj=>hj.1),hu.trans (hu2.mono (fun _ _ h=>h.1))⟩
   |true=>
    simp only[hro,if_true]at HH hs2⊢;clear hro;cases f with
    |false=>
     go_wp2_with fail
     go_roundg (gk-1)
     case measure=>have:=HH.o.2.2.2.2.1;omega
     case rel=>
      obtain⟨hsl,hfr,hd,hu,hk,hS1⟩:=HH.o;exact⟨k+1,true,k,readSeq l,readEs l,oM,by go_num,by rw[hS1,if_pos oe],rfl,rfl,rfl,hs2,hf2.mono hu.size,hd2.wide (fun j hj=>⟨hj.1.1,hj.2⟩),hu.trans (hu2.mono (fun _ _ h=>h.1))⟩
    |true=>
     by_cases hz:z<readSeq l
     .have q1:(z:Int)<(readSeq l:Int):=oM;go_wp2_with fail
      go_roundg (gk-1)
      case measure=>have:=HH.o.2.2.2.2.1;omega
      case rel=>
       obtain⟨hsl,hfr,hd,hu,hk,hS1⟩:=HH.o;exact⟨k+1,true,k,readSeq l,readEs l,oM,by go_num,by rw[hS1,if_pos (by simp[hz])],rfl,rfl,rfl,hs2,hf2.mono hu.size,hd2.wide (fun j hj=>⟨hj.1.1,hj.2⟩),hu.trans (hu2.mono (fun _ _ h=>h.1))⟩
     .have q1:¬(z:Int)<(readSeq l:Int):=oM;go_wp2_with fail
      go_roundg (gk-1)
      case measure=>have:=HH.o.2.2.2.2.1;omega
      case rel=>
       obtain⟨hsl,hfr,hd,hu,hk,hS1⟩:=HH.o;exact⟨k+1,true,q,z,E,oM,by go_num,by rw[hS1,if_neg (by simp[hz])],rfl,rfl,rfl,hsl.keep hu2 (fun g hg h=>h.2 g hg rfl),hfr,hd2.wide (fun j hj=>hj.1),hu.trans (hu2.mono (fun _ _ h=>h.1))⟩
  .obtain rfl:k=2:=oM;have k1:¬(((2:Nat):Int)<2):=de;have hz:NwOut S w b F O (f,q,z,E) (.returned (.tuple #[.int .i64 (q:Nat),.int .i64 (z:Nat),u8,.int .i64 (if f then 0 else 14)])) wr:=⟨u8,rfl,hsl,hfr,hd,hu⟩
   rw[hS]at hz;cases f with
   |false=>
    have hq:=Sf (by rw[<-hS]);have hz:NwOut S w b F O (nwS F O base m 2) (.returned (.tuple #[.int .i64 0,.int .i64 0,.slice none 0 0,.int .i64 14])) wr:=by
     rw[hq];exact⟨.slice none 0 0,rfl,Sl.nil _ _ _,From.nil _ _ _,hd.wide (fun j hj=>⟨hj.1,fun g hg=>by cases hg⟩),hu⟩
    have HZ:=qqh hz;clear hz hsl hfr hd hu hnl hS hq;go_wp2_with fail
    exact qYp (v:=.tuple #[.int .i64 0,.int .i64 0,.slice none 0 0,.int .i64 14]) (by simp[results,results134,go_sem]) rfl HZ.o
   |true=>
    have HZ:=qqh hz;clear hz hsl hfr hd hu hnl hS;go_wp2_with fail
    exact qYp (v:=.tuple #[.int .i64 (q:Nat),.int .i64 (z:Nat),u8,.int .i64 0]) (by simp[results,results134,go_sem]) rfl HZ.o
theorem sW(A:List Bk)(base:Nat)(B:List Bk):∀k s,(flushF A (ckO base k B))[s]?=if base<=s/\s<base+k/\s<A.length then some (B.getD (s-base) zB)else A[s]?
 |0,s=>by rw[if_neg oM];rfl
 |k+1,s=>by
  rw[QN,xD,qyo,sW A base B k s,zM];show(if base+k=s then(if base+k<A.length then some (B.getD k zB)else none)else _)=_;by_cases h:base+k=s
  .subst h;rw[if_pos rfl];by_cases hl:base+k<A.length
   .rw [if_pos hl,if_pos oM,Nat.add_sub_cancel_left]
   .rw [if_neg hl,if_neg oM,qyk oM]
  .rw [if_neg h];by_cases h1:base<=s/\s<base+k/\s<A.length
   .rw [if_pos h1,if_pos oM]
   .rw [if_neg h1,if_neg oM]
theorem Uh(F:List Bk)(O:List (Nat×Bk))(base m i:Nat)(h:i<m):(secsOf F O base m).getD i zB=curB F O (base+i):=by
 unfold secsOf;rw[qyf,qym,List.getElem?_range h];rfl
end
end Go.Proofs.YtpejdgiccaijfaaGreatDoor
