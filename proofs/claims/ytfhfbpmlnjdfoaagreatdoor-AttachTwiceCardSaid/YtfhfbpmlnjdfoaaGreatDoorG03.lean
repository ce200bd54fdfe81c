/- A device: Read -/
import Derived.Test.YtfhfbpmlnjdfoaaGreatDoorG02
set_option maxRecDepth 100000
set_option maxHeartbeats 4000000
namespace Go.Proofs.YtfhfbpmlnjdfoaaGreatDoor
open Go Go.RowKit Tryz
def curB(F:List Bk)(O:List (Nat×Bk))(s:Nat):Bk:=(flushF F O).getD s zB
theorem qp(F:List Bk)(O O':List (Nat×Bk)):flushF F (O++O')=flushF (flushF F O) O':=by simp[flushF]
theorem tu{F:List Bk}{O:List (Nat×Bk)}{s:Nat}(h:∀p∈O,p.1≠s):(flushF F O)[s]?=F[s]?:=by
 induction O generalizing F with
 |nil=>rfl
 |cons p O ih=>
  have:=ih (F:=F.set p.1 p.2) (fun q hq=>h q (by simp[hq]));simp only[flushF,List.foldl_cons]at this⊢;rw[this,List.getElem?_set_ne (h p (by simp))]
theorem sD{F:List Bk}{O:List (Nat×Bk)}{s k:Nat}(h:∀p∈O.drop k,p.1≠s):curB F O s=curB F (O.take k) s:=by
 unfold curB;have:flushF F O=flushF (flushF F (O.take k)) (O.drop k):=by rw[<-qp,qXo]
 rw[this,qyh,tu h,<-qyh]
theorem TU{F:List Bk}{O:List (Nat×Bk)}{s k:Nat}(hk:k<O.length)(hs:s<F.length)(h0:O[k].1=s)(h:∀p∈O.drop (k+1),p.1≠s):curB F O s=O[k].2:=by
 rw[sD h];unfold curB;rw[tt hk,h0,qyh,List.getElem?_set_self (by rw[zC];exact hs)];rfl
theorem Ui{F:List Bk}{O:List (Nat×Bk)}{s:Nat}(hs:s<F.length)(h:∀p∈O,p.1≠s):curB F O s=F[s]:=by
 rw[sD (k:=0) (by simpa using h)];simp[curB,flushF,hs]
theorem qr{F:List Bk}{O:List (Nat×Bk)}{P:List Int}(h:DvGood F O P)(s:Nat):(curB F O s).length=64:=by
 unfold curB;have:∀(O:List (Nat×Bk)) (F:List Bk),All64 F->(∀p∈O,p.2.length=64)->All64 (flushF F O):=by
  intro O
  induction O with
  |nil=>intro F h _;exact h
  |cons p O ih=>intro F hF hO;exact ih _ (hF.set p.1 (hO p (by simp))) (fun q hq=>hO q (by simp[hq]))
 have h2:=this O F h.f64 (fun p hp=>(h.o64 p hp).1);by_cases hs:s<(flushF F O).length
 .rw [qyh,qyn hs];exact h2 _ (qyz hs)
 .rw [qyh,qyo (by omega)];exact zH
theorem ET(w:World):Calls prog 128 #[] w fun e w'=>e=.returned (.tuple #[])/\w'=w:=by
 go_enter func128,ntmps128
 go_wp2
 go_end0
 exact⟨rfl,rfl⟩
theorem zo(x:Bk)(hx:x.length=64):(bkC x).toArray.size=64:=by simp[zn,hx]
def TV(S:Nat->Prop)(w:World)(b:Nat)(F:List Bk)(O:List (Nat×Bk))(P:List Int)(s:Int)(e:Ending)(w':World):Prop:=
 (hasC F.length s≠0/\e=.returned (.tuple #[bkV zB,.int .i64 (hasC F.length s)])/\Dv S w' b F O P/\Upd S w w')\/
 (hasC F.length s=0/\fate P=1/\e=.returned (.tuple #[bkV zB,.int .i64 19])/\Dv S w' b F O P.tail/\Upd S w w')\/
 (hasC F.length s=0/\fate P≠1/\e=.returned (.tuple #[bkV (curB F O s.toNat),.int .i64 0])/\Dv S w' b F O P.tail/\Upd S w w')
theorem zM:(prog.info? 54).map (·.size)=some 64:=zw zB zH
theorem zaU{S:Nat->Prop}{w:World}{b:Nat}{F:List Bk}{O:List (Nat×Bk)}{P:List Int}(h:Dv S w b F O P)(hn:∀j,w.heap.size<=j->S j)(s:Int):
  Calls prog 67 #[.pointer (some ⟨b,0,none⟩),.int .i64 s] w (TV S w b F O P s):=by
 have H:=Y2 h hn;clear h hn;go_enter func67,ntmps67
 go_wp2
 go_step3
 go_wp2_with fail
 show Calls _ _ _ (w.alloc (.cells (bkC zB).toArray 54)) _;have hu1:Upd (fun _=>False) w (w.alloc (.cells (bkC zB).toArray 54)):=(uur _ w).alloc _;have hg1:(w.alloc (.cells (bkC zB).toArray 54)).heap[w.heap.size]?=some (.cells (bkC zB).toArray 54):=zc _ _ rfl;have hs1:(w.alloc (.cells (bkC zB).toArray 54)).heap.size=w.heap.size+1:=by simp
 generalize w.alloc (.cells (bkC zB).toArray 54)=w1 at*;obtain⟨hd0,hn⟩:=H.o;obtain⟨hSb,hlb⟩:=hd0.sb;have hd1:Dv (fun j=>(S j/\j<w.heap.size)\/w.heap.size+1<=j) w1 b F O P:=(hd0.jF (fun j hj hl=> .inl ⟨hj,hl⟩)).keep hu1 (fun _ _ h=>h);have hS':∀j,((S j/\j<w.heap.size)\/w.heap.size+1<=j)->S j:=by
  rintro j (⟨h,-⟩|h)
  .exact h
  .exact hn j (by omega)
 have HX:=Y7 hd1 hu1 hg1 hs1 hS' hSb hlb;clear hd1 hu1 hg1 hs1 hS' hSb hlb hd0 hn;refine(EQ HX.o.1 s).mono ?_;rintro e w4 ⟨rfl,rfl⟩;by_cases hz:hasC F.length s=0
 .have HZ:=qqh hz;rw[hz];clear hz;go_wp2_with fail
  refine(TN HX.o.1 19 128 #[] (fun W=>Dv (fun j=>(S j/\j<w.heap.size)\/w.heap.size+1<=j) W b F O P.tail/\Upd (fun j=>j=b) w4 W) (fun _ _=>rfl) ?_).mono ?_
  .intro h0 w1 hd1 hu1;refine(ET w1).mono ?_;rintro e w' ⟨rfl,rfl⟩;exact⟨rfl,hd1,hu1⟩
  .obtain ⟨hd1,hu1,hg1,hs1,hS',hSb,hlb⟩:=HX.o;rintro e w5 h5;have H5:Hid (Dv (fun j=>(S j/\j<w.heap.size)\/w.heap.size+1<=j) w5 b F O P.tail/\Upd (fun j=>j=b) w4 w5):=by
    rcases h5 with⟨-,-,a,b⟩|⟨-,-,a,b⟩|⟨-,-,-,a,b⟩<;>exact⟨a,b⟩
   have hth:w5.there w.heap.size 0 64:=fun j hj=>by
    have hg5:=(H5.o.2.block w.heap.size (by omega) (by omega)).trans hg1;rw[za hg5,zg hg5];exact⟨by rw[qYe,qxe (by simp[zn,zH];omega)];rfl,rfl⟩
   have hlow:Hid (Upd S w w5):=(hu1.mono (fun _ _ h=>h.elim)).trans (H5.o.2.mono (fun j _ e=>e▸hSb));have hw5:=H5.o.2.size;clear hd1 hu1 hg1;have h6:(fate P=1/\e=.returned (.int .i64 19))\/(fate P≠1/\e=.returned (.int .i64 0)):=by
    rcases h5 with⟨h1,rfl,-,-⟩|⟨h0,rfl,-,-⟩|⟨h0,h1,rfl,-,-⟩
    .exact .inl ⟨h1,rfl⟩
    .exact .inr ⟨by omega,rfl⟩
    .exact .inr ⟨h1,rfl⟩
   clear h5;rcases h6 with⟨h1,rfl⟩|⟨h1,rfl⟩
   .have H1:=qqh h1;clear h1 hs1 hS' hSb hlb hw5;go_wp2_with (first
     |(refine qZi rfl _ _ _ rfl _ _ (bkC zB).toArray rfl rfl (by rw[zo _ zH];exact hth) (by rw[zo _ zH];exact zM) (qYu (zv _)) ?_)
     |fail)
    rw[qxr];refine qYw (zp rfl _ _ w.heap.size 0 (bkC zB) _ rfl (qYr _ _ _ _ (by rw[zn,zH];exact hth)) underlying54 rfl (zw zB zH)) rfl (.inr (.inl ⟨HZ.o,H1.o,rfl,?_,?_⟩))
    .exact (H5.o.1.keep (zq _ _ _ _) (by rintro j (⟨-,h⟩|h) e<;>omega)).wide (by obtain⟨-,-,-,-,hS',-⟩:=HX.o;exact hS')
    .exact hlow.out.trans ((zq _ _ _ _).mono (fun j _ e=>e▸H.o.2 _ (qXv _)))
   .have H1:=qqh h1;clear h1;obtain⟨n,rfl⟩:∃n:Nat,s=n:=⟨s.toNat,(xO HZ.o).1.symm⟩
    have hsn:=(xO HZ.o).2;rw[qxu]at hsn;obtain⟨vf,vo,vp,hd5,hS5⟩:=H5.o.1;obtain⟨gF,oF,cF,rfl,hgF,hcF,rF,tF⟩:=hd5.jJ hsn;obtain⟨ao,co,rfl⟩:=hd5.os.rd.jd;obtain⟨e0,e1,e2⟩:=hd5.c;have hfl:=hd5.good.fl;have hol:=hd5.good.ol;have hx:(F[n]).length=64:=hd5.good.f64 _ (qyz hsn);have hua:Upd (fun _=>False) w5 (w5.alloc (.cells (bkC F[n]).toArray 54)):=(uur _ _).alloc _;have hd6:=hd5.new hua;have hg6:=zc w5 (.cells (bkC F[n]).toArray 54) rfl;have hth6:=qYt hth (.cells (bkC F[n]).toArray 54);have e16:=hd6.c.2.1;have hb1:0<=(n:Int)/\(n:Int)<F.length:=⟨by omega,by omega⟩
    have hse:Hid ((bkC F[n]).length=64):=by show _=_;rw[zn,hx]
    have hse2:Hid (F[n].length=64):=hx;have HD:=Y10 hd6 hS5 hua hg6 hth6 hw5 hs1 hS' hSb hlb;clear hd5 hS5 hx tF hgF hcF hd6 hua hg6 hth6 hw5 hs1 hS' hSb hlb hth;obtain⟨hb1,hb2⟩:=hb1;go_wp2_with (first
     |(refine qZg rfl _ _ rfl _ _ rfl _ _ rF underlying54 rfl (zw _ hse2.out) ?_)
     |(refine zk rfl _ _ _ rfl _ _ _ rfl rfl hse.out.symm (zw _ hse2.out) (zv _) ?_)
     |fail)
    clear e0 e1 e2 rF;generalize w5.alloc (.cells (bkC F[n]).toArray 54)=w6 at*
    go_step3
    go_wp2
    go_loop [9] (fun i=>∃k:Nat,k<=O.length/\i=.int .i64 ((k:Int)-1)/\∀p∈O.drop k,p.1≠n) (fun i=>(intOf i+1).toNat)
    case atStart=>exact⟨O.length,qXv _,rfl,by simp⟩
    case round=>
     obtain⟨k,hk,rfl,hno⟩:=hrel;have HN:Hid (∀p∈O.drop k,p.1≠n):=hno;clear hno;cases k with
     |zero=>
      obtain⟨hd6,hS5,hua,hg6,hth6,hw5,hs1,hS',hSb,hlb⟩:=HD.o;have r6:=zh hg6;have hzero:Hid (curB F O n=F[n]):=Ui hsn (by have:=HN.o;simpa using this);have hst:w6.there w.heap.size 0 (bkC F[n]).toArray.size:=by rw[zo _ hse2.out];exact hth6
      have hsz2:(prog.info? 54).map (·.size)=some (bkC F[n]).toArray.size:=by rw[zo _ hse2.out];exact zM
      have HST:=Y2 hst hsz2;clear hd6 hS5 hua hg6 hs1 hS' hSb hlb hst hsz2;simp only[Int.natCast_zero];go_wp2_with (first
       |(refine qZg rfl _ _ rfl _ _ rfl _ _ r6 underlying54 rfl (zw _ hse2.out) ?_)
       |(refine qZi rfl _ _ _ rfl _ _ (bkC F[n]).toArray rfl rfl HST.o.1 HST.o.2 (qYu (zv _)) ?_)
       |fail)
      try rw[qxr]
      refine qYw (zp rfl _ _ w.heap.size 0 (bkC F[n]) _ rfl (qYr _ _ _ _ (by rw[hse.out];exact hth6)) underlying54 rfl (zw _ hse2.out)) rfl (.inr (.inr ⟨HZ.o,H1.o,by rw[qxu,hzero.out];rfl,?_,?_⟩))
      .obtain ⟨hd6,hS5,hua,hg6,hth6,hw5,hs1,hS',hSb,hlb⟩:=HD.o;exact(Dv.keep ⟨_,_,_,hd6,hS5⟩ (zq _ _ _ _) (by rintro j (⟨-,h⟩|h) e<;>omega)).wide hS'
      .obtain ⟨hd6,hS5,hua,hg6,hth6,hw5,hs1,hS',hSb,hlb⟩:=HD.o;exact(hlow.out.trans (hua.mono (fun _ _ h=>h.elim))).trans ((zq _ _ _ _).mono (fun j _ e=>e▸H.o.2 _ (qXv _)))
     |succ k=>
      have hlt:k<O.length:=by omega
      have ek:((k+1:Nat):Int)-1=(k:Int):=by omega
      rw[ek];clear ek;obtain⟨hd6,hS5,hua,hg6,hth6,hw5,hs1,hS',hSb,hlb⟩:=HD.o;obtain⟨gO,oO,cO,e2,hgO,hcO,rO⟩:=hd6.opRange hlt;obtain⟨rfl,rfl⟩:ao=some ⟨gO,oO,none⟩/\co=cO:=by injection e2 with e1 _ e2;exact⟨e1,e2⟩
      clear e2;obtain⟨s',x',hO⟩:∃s x,O[k]=(s,x):=⟨_,_,rfl⟩
      have hx':x'.length=64:=by have:=(hd6.good.o64 O[k] (qyz hlt)).1;rw[hO]at this;exact this
      rw[hO]at rO;have HO:=qqh hO;clear hO;have c0:=rO 0 _ rfl;have r1:w6.rangeAt gO (oO+k*65+1) (bkC x'):=fun j v hv=>by
       have:=rO (1+j) v (by rw[Nat.add_comm];exact hv);rw[<-qXr]at this;exact this
      rw[qXs]at c0;have hO1:0<=(k:Int)/\(k:Int)<O.length:=⟨by omega,by omega⟩
      clear hd6 hS5 hua hw5 hs1 hS' hSb hlb rO hgO hcO;by_cases heq:s'=n
      .subst heq;have hcur:Hid (curB F O s'=x'):=by
        have:=TU hlt hsn (by rw[HO.o]) HN.o;rw[HO.o]at this;exact this
       obtain⟨gx,hgx⟩:∃g,g=w5.heap.size:=⟨_,rfl⟩
       have hst6:w6.there w5.heap.size 0 (bkC x').toArray.size:=by
        rw[zo _ hx'];intro j hj;rw[za hg6,zg hg6];exact⟨by rw[qYe,qxe (by rw[zo _ hse2.out];exact hj)];rfl,rfl⟩
       have hsz2:(prog.info? 54).map (·.size)=some (bkC x').toArray.size:=by rw[zo _ hx'];exact zM
       have h7:(w6.setCells w5.heap.size 0 (bkC x')).rangeAt w5.heap.size 0 (bkC x'):=qYr _ _ _ _ (by rw[zo _ hx']at hst6;rw[zn,hx'];exact hst6);have hth7:(w6.setCells w5.heap.size 0 (bkC x')).there w.heap.size 0 (bkC x').toArray.size:=by rw[zo _ hx'];exact World.there_setCells hth6 _ _ _
       have HST:=Y5 hst6 hsz2 h7 hth7 hx';clear hst6 hsz2 h7 hth7 hgx hx';go_wp2_with (first
        |(refine qZg rfl _ _ rfl _ _ rfl _ _ r1 underlying54 rfl (zw _ HST.o.2.2.2.2) ?_)
        |(refine qZg rfl _ _ rfl _ _ rfl _ _ HST.o.2.2.1 underlying54 rfl (zw _ HST.o.2.2.2.2) ?_)
        |(refine qZi rfl _ _ _ rfl _ _ (bkC x').toArray rfl rfl HST.o.1 HST.o.2.1 (qYu (zv _)) ?_)
        |(refine qZi rfl _ _ _ rfl _ _ (bkC x').toArray rfl rfl HST.o.2.2.2.1 HST.o.2.1 (qYu (zv _)) ?_)
        |fail)
       have hth8:(w6.setCells w5.heap.size 0 (bkC x')).there w.heap.size 0 (bkC x').length:=by rw[zn,HST.o.2.2.2.2];exact World.there_setCells hth6 _ _ _
       refine qYw (zp rfl _ _ w.heap.size 0 (bkC x') _ rfl (qYr _ _ _ _ hth8) underlying54 rfl (zw _ HST.o.2.2.2.2)) rfl (.inr (.inr ⟨HZ.o,H1.o,by rw[qxu,hcur.out];rfl,?_,?_⟩))
       .obtain ⟨hd6,hS5,hua,hg6,hth6,hw5,hs1,hS',hSb,hlb⟩:=HD.o;have hv:Dv (fun j=>((S j/\j<w.heap.size)\/w.heap.size+1<=j)/\j<w5.heap.size) w6 b F O P.tail:=(H5.o.1.jF (fun j hj hl=>⟨hj,hl⟩)).keep hua (fun _ _ h=>h);exact((hv.keep (zq _ _ _ _) (by rintro j ⟨-,h2⟩ e;omega)).keep (zq _ _ _ _) (by rintro j ⟨⟨-,h⟩|h,h2⟩ e<;>omega)).wide (fun j hj=>hS' j hj.1)
       .obtain ⟨hd6,hS5,hua,hg6,hth6,hw5,hs1,hS',hSb,hlb⟩:=HD.o;exact((hlow.out.trans (hua.mono (fun _ _ h=>h.elim))).trans ((zq _ _ _ _).mono (fun j _ e=>e▸H.o.2 _ (by omega)))).trans ((zq _ _ _ _).mono (fun j _ e=>e▸H.o.2 _ (qXv _)))
      .have hq:((s':Int)==(n:Int))=false:=by simpa using(fun e:(s':Int)=n=>heq (by omega))
       have hHN:Hid (∀p∈O.drop k,p.1≠n):=by
        intro p hp;rw[qyb hlt]at hp;rcases qzr.1 hp with rfl|hp
        .rw [HO.o];exact heq
        .exact HN.o p hp
       clear heq;go_wp2
       go_round
       case rel=>exact⟨k,by omega,rfl,hHN.out⟩
       case measure=>simp[intOf]
 .have HZ:=qqh hz;have hz':(hasC F.length s==0)=false:=by simpa using hz
  have hz2:(hasC F.length s !=0)=true:=by simpa using hz
  obtain⟨hd1,hu1,hg1,hs1,hS',hSb,hlb⟩:=HX.o;have hth:w4.there w.heap.size 0 64:=fun j hj=>by
   rw[za hg1,zg hg1];exact⟨by rw[qYe,qxe (by simp[zn,zH];omega)];rfl,rfl⟩
  clear hd1 hu1 hg1 hs1 hS' hSb hlb hz;go_wp2_with (first
    |(refine qZi rfl _ _ _ rfl _ _ (bkC zB).toArray rfl rfl (by rw[zo _ zH];exact hth) (by rw[zo _ zH];exact zM) (qYu (zv _)) ?_)
    |fail)
  rw[qxr];refine qYw (zp rfl _ _ w.heap.size 0 (bkC zB) _ rfl (qYr _ _ _ _ (by rw[zn,zH];exact hth)) underlying54 rfl (zw zB zH)) rfl (.inl ⟨HZ.o,rfl,?_,?_⟩)
  .exact (HX.o.1.keep (zq _ _ _ _) (by rintro j (⟨-,h⟩|h) e<;>omega)).wide (by obtain⟨-,-,-,-,hS',-⟩:=HX.o;exact hS')
  .exact (HX.o.2.1.mono (fun _ _ h=>h.elim)).trans ((zq _ _ _ _).mono (fun j _ e=>e▸H.o.2 _ (qXv _)))
def TW(w:World)(F:List Bk)(s:Int)(e:Ending)(w':World):Prop:=
 (hasC F.length s≠0/\e=.returned (.tuple #[bkV zB,.int .i64 (hasC F.length s)])/\Below w.heap.size w w')\/
 (hasC F.length s=0/\e=.returned (.tuple #[bkV (F.getD s.toNat zB),.int .i64 0])/\Below w.heap.size w w')
theorem zaV{S:Nat->Prop}{w:World}{b:Nat}{F:List Bk}{O:List (Nat×Bk)}{P:List Int}(h:Dv S w b F O P)(s:Int):
  Calls prog 49 #[.pointer (some ⟨b,0,none⟩),.int .i64 s] w (TW w F s):=by
 have H:=qqh h;clear h;go_enter func49,ntmps49
 go_wp2_with fail
 show Calls _ _ _ (w.alloc (.cells (bkC zB).toArray 54)) _;have hu1:Upd (fun _=>False) w (w.alloc (.cells (bkC zB).toArray 54)):=(uur _ w).alloc _;have hg1:(w.alloc (.cells (bkC zB).toArray 54)).heap[w.heap.size]?=some (.cells (bkC zB).toArray 54):=zc _ _ rfl;generalize w.alloc (.cells (bkC zB).toArray 54)=w1 at*;have hd1:=H.o.new hu1;have hth:w1.there w.heap.size 0 64:=fun j hj=>by
  rw[za hg1,zg hg1];exact⟨by rw[qYe,qxe (by rw[zo _ zH];exact hj)];rfl,rfl⟩
 have HX:=Y2 hd1 hu1;clear hd1 hu1 hg1;refine(EQ HX.o.1 s).mono ?_;rintro e w4 ⟨rfl,rfl⟩;by_cases hz:hasC F.length s=0
 .have HZ:=qqh hz;rw[hz];clear hz;obtain⟨n,rfl⟩:∃n:Nat,s=n:=⟨s.toNat,(xO HZ.o).1.symm⟩
  have hsn:=(xO HZ.o).2;rw[qxu]at hsn;obtain⟨vf,vo,vp,hd5,hS5⟩:=HX.o.1;obtain⟨gF,oF,cF,rfl,hgF,hcF,rF,tF⟩:=hd5.jJ hsn;obtain⟨e0,-,-⟩:=hd5.c;have hfl:=hd5.good.fl;have hx:(F[n]).length=64:=hd5.good.f64 _ (qyz hsn);have hst:w4.there w.heap.size 0 (bkC F[n]).toArray.size:=by rw[zo _ hx];exact hth
  have hst2:w4.there w.heap.size 0 (bkC F[n]).length:=by rw[zn,hx];exact hth
  have hsz2:(prog.info? 54).map (·.size)=some (bkC F[n]).toArray.size:=by rw[zo _ hx];exact zM
  have HST:=Y4 hst hsz2 hx hst2;have hb1:0<=(n:Int)/\(n:Int)<F.length:=⟨by omega,by omega⟩
  clear hst hsz2 hx hst2 hd5 hS5 tF hcF;obtain⟨hb1,hb2⟩:=hb1;go_wp2_with (first
   |(refine qZg rfl _ _ rfl _ _ rfl _ _ rF underlying54 rfl (zw _ HST.o.2.2.1) ?_)
   |(refine qZi rfl _ _ _ rfl _ _ (bkC F[n]).toArray rfl rfl HST.o.1 HST.o.2.1 (qYu (zv _)) ?_)
   |fail)
  refine qYw (zp rfl _ _ w.heap.size 0 (bkC F[n]) _ rfl (qYr _ _ _ _ HST.o.2.2.2) underlying54 rfl (zw _ HST.o.2.2.1)) rfl (.inr ⟨HZ.o,?_,(zl (Upd.below HX.o.2) (zq w4 w.heap.size 0 _) (qXv _) (fun k e=>by omega))⟩);rw[qxu,qyh,qyn hsn];rfl
 .have HZ:=qqh hz;have hz':(hasC F.length s==0)=false:=by simpa using hz
  have hz2:(hasC F.length s !=0)=true:=by simpa using hz
  clear hz;obtain⟨z,Hz⟩:∃z:Bk,Hid (z=zB):=⟨zB,rfl⟩
  have hst:w4.there w.heap.size 0 (bkC z).toArray.size:=by rw[Hz.out,zo _ zH];exact hth
  have hst2:w4.there w.heap.size 0 (bkC z).length:=by rw[Hz.out,zn,zH];exact hth
  have hsz2:(prog.info? 54).map (·.size)=some (bkC z).toArray.size:=by rw[Hz.out,zo _ zH];exact zM
  have HST:=Y3 hst hsz2 hst2;clear hst hst2 hsz2 hth;go_wp2_with (first
    |(refine qZi rfl _ _ _ rfl _ _ (bkC z).toArray rfl (by rw[Hz.out];rfl) HST.o.1 HST.o.2.1 (qYu (zv _)) ?_)
    |fail)
  exact qYw (zp rfl _ _ w.heap.size 0 (bkC z) _ rfl (qYr _ _ _ _ HST.o.2.2) underlying54 rfl (by rw[Hz.out];exact zw zB zH)) rfl (.inl ⟨HZ.o,by rw[Hz.out];rfl,(zl (Upd.below HX.o.2) (zq w4 w.heap.size 0 _) (qXv _) (fun k e=>by omega))⟩)
structure DRes where
 F:List Bk
 O:List (Nat×Bk)
 P:List Int
 cd:Int
def SK(S:Nat->Prop)(w:World)(b:Nat)(r:DRes)(e:Ending)(w':World):Prop:=e=.returned (.int .i64 r.cd)/\Dv S w' b r.F r.O r.P/\Upd S w w'
def flushR(F:List Bk)(O:List (Nat×Bk))(P:List Int):DRes:=
 if fate P=1 then⟨F,O,P.tail,21⟩else if fate P=0 then⟨flushF F O,[],P.tail,0⟩else ⟨F,O,P.tail,0⟩
def writeR(F:List Bk)(O:List (Nat×Bk))(P:List Int)(s:Nat)(y:Bk):DRes:=
 if fate P=1 then⟨F,O,P.tail,20⟩else if fate P=0 then⟨F,O++[(s,y)],P.tail,0⟩else ⟨F,O,P.tail,0⟩
theorem Ve{n s:Nat}(h:s<n):hasC n (s:Int)=0:=if_neg (by omega)
theorem xA{S:Nat->Prop}{w:World}{b:Nat}{F:List Bk}{O:List (Nat×Bk)}{P:List Int}(h:Dv S w b F O P)(hn:∀j,w.heap.size<=j->S j):
  Calls prog 46 #[.pointer (some ⟨b,0,none⟩)] w (SK S w b (flushR F O P)):=
 (ES h hn).mono fun e w' h=>by
  rcases h with⟨h1,rfl,hd,hu⟩|⟨h1,rfl,hd,hu⟩|⟨h1,h2,rfl,hd,hu⟩
  .rw [flushR,if_pos h1];exact⟨rfl,hd,hu⟩
  .rw [flushR,if_neg (by omega),if_pos h1];exact⟨rfl,hd,hu⟩
  .rw [flushR,if_neg h2,if_neg h1];exact⟨rfl,hd,hu⟩
theorem wZ{S:Nat->Prop}{w:World}{b:Nat}{F:List Bk}{O:List (Nat×Bk)}{P:List Int}(h:Dv S w b F O P)(hn:∀j,w.heap.size<=j->S j)(s:Nat)(hs:s<F.length)(x:Bk)(hx:x.length=64)(hO:O.length<65536):
  Calls prog 18 #[.pointer (some ⟨b,0,none⟩),.int .i64 (s:Int),.agg (bkC x).toArray] w (SK S w b (writeR F O P s x)):=
 (ER h hn s x hx hO).mono fun e w' h=>by
  have h0:=Ve hs;rcases h with⟨h1,-⟩|⟨-,h1,rfl,hd,hu⟩|⟨-,h1,rfl,hd,hu⟩|⟨-,h1,h2,rfl,hd,hu⟩
  .exact absurd h0 h1
  .rw [writeR,if_pos h1];exact⟨rfl,hd,hu⟩
  .rw [writeR,if_neg (by omega),if_pos h1];rw[qxu]at hd;exact⟨rfl,hd,hu⟩
  .rw [writeR,if_neg h2,if_neg h1];exact⟨rfl,hd,hu⟩
def SQ(S:Nat->Prop)(w:World)(b:Nat)(F:List Bk)(O:List (Nat×Bk))(P:List Int)(s:Nat)(e:Ending)(w':World):Prop:=
 ∃(y:Bk) (cd:Int),e=.returned (.tuple #[.agg (bkC y).toArray,.int .i64 cd])/\y=(if fate P=1 then zB else curB F O s)/\cd=(if fate P=1 then 19 else 0)/\y.length=64/\Dv S w' b F O P.tail/\Upd S w w'
theorem vL{S:Nat->Prop}{w:World}{b:Nat}{F:List Bk}{O:List (Nat×Bk)}{P:List Int}(h:Dv S w b F O P)(hn:∀j,w.heap.size<=j->S j)(s:Nat)(hs:s<F.length):
  Calls prog 67 #[.pointer (some ⟨b,0,none⟩),.int .i64 (s:Int)] w (SQ S w b F O P s):=
 (zaU h hn s).mono fun e w' h'=>by
  have h0:=Ve hs;rcases h' with⟨h1,-⟩|⟨-,h1,rfl,hd,hu⟩|⟨-,h1,rfl,hd,hu⟩
  .exact absurd h0 h1
  .exact ⟨zB,19,rfl,(if_pos h1).symm,(if_pos h1).symm,zH,hd,hu⟩
  .exact ⟨curB F O s,0,rfl,(if_neg h1).symm,(if_neg h1).symm,qr h.good s,hd,hu⟩
theorem Dv.but{S:Nat->Prop}{w:World}{b:Nat}{F:List Bk}{O:List (Nat×Bk)}{P:List Int}(h:Dv S w b F O P){q:Nat}(hq:w.heap.size<=q):Dv (fun j=>S j/\j≠q) w b F O P:=
 h.jF (fun j hj hl=>⟨hj,by omega⟩)
theorem need_any(n:Nat)(h1:1<=n)(h2:n<=100000)(w:World):Calls prog 54 #[.int .i64 (n:Int)] w fun e w'=>e=.returned (.int .i64 (((n-1)/4+1:Nat):Int))/\w=w':=by
 have q1:decide ((n:Int)<0)=false:=by simp
 have q2:((n:Int)==0)=false:=by rw[qYv];omega
 have hn:¬((n:Int)<0):=by omega
 go_enter func54,ntmps54
 go_wp2
 go_ret
 refine⟨?_,rfl⟩;show Ending.returned (Value.int .i64 _)=_
 congr 2
 omega
theorem EU(n f t:Int)(h1:f<=n)(h2:n<=t)(w:World):Calls prog 53 #[.int .i64 n,.int .i64 f,.int .i64 t] w fun e w'=>e=.returned (.bool true)/\w=w':=by
 have q1:decide (f<=n)=true:=by simpa using h1
 have q2:decide (n<=t)=true:=by simpa using h2
 go_enter func53,ntmps53
 go_wp2
 go_ret
 exact⟨rfl,rfl⟩
abbrev superC(id bl sl jo pa lo ba:Int):List Value:=[.int .i64 id,.int .i64 bl,.int .i64 sl,.int .i64 jo,.int .i64 pa,.int .i64 lo,.int .i64 ba]
abbrev layC(sl jo pa lo:Nat):List Value:=[.int .i64 1,.int .i64 (1+2*(pa:Int)),.int .i64 (1+2*(pa:Int)+(jo:Int)),.int .i64 (1+2*(pa:Int)+(jo:Int)+(lo:Int)),.int .i64 (1+2*(pa:Int)+(jo:Int)+(lo:Int)+(lo:Int)),.int .i64 (1+2*(pa:Int)+(jo:Int)+(lo:Int)+(lo:Int)+(lo:Int)),.int .i64 (1+2*(pa:Int)+(jo:Int)+(lo:Int)+(lo:Int)+(lo:Int)+(sl:Int))]
theorem Upd.jc{w w':World}(h:Upd (fun _=>False) w w'){b:Nat}{o:Obj}(e:w.heap[b]?=some o):w'.heap[b]?=some o:=by
 have:=h.block b (Array.getElem?_eq_some_iff.1 e).1 (fun h=>h);rw[this,e]
theorem TX(sl jo pa lo:Nat):(layC sl jo pa lo).toArray.all (·.oneCell')=true:=by
 refine qYu fun v hv=>?_;simp only[layC,qzr,qXd,qZb]at hv;rcases hv with rfl|rfl|rfl|rfl|rfl|rfl|rfl<;>rfl
theorem xB:(prog.info? 43).map (·.size)=some 7:=by kernel_rfl
theorem yW:(prog.info? 40).map (·.size)=some 7:=by kernel_rfl
theorem vY(id:Int)(bl sl jo pa lo ba:Nat)(b1:1<=bl)(b2:bl<=4096)(s1:1<=sl)(s2:sl<=1024)(j1:4<=jo)(j2:jo<=1024)(l1:1<=lo)(l2:lo<=1024)(a1:1<=ba)(a2:ba<=64)(p1:(sl-1)/4+1<=pa)(p2:pa<=4096)
  (hz:1+2*pa+jo+lo+lo+lo+sl<=4096) (w:World):
  Calls prog 14 #[.agg (superC id bl sl jo pa lo ba).toArray] w fun e w'=>e=.returned (.tuple #[.agg (layC sl jo pa lo).toArray,.int .i64 0])/\Below w.heap.size w w':=by
 have hg:=zc w (.cells (superC id bl sl jo pa lo ba).toArray 40) rfl;have k1:(w.alloc (.cells (superC id bl sl jo pa lo ba).toArray 40)).cell? ⟨w.heap.size,1,none⟩=some (.int .i64 (bl:Int)):=za hg 1;have k2:(w.alloc (.cells (superC id bl sl jo pa lo ba).toArray 40)).cell? ⟨w.heap.size,2,none⟩=some (.int .i64 (sl:Int)):=za hg 2;have k3:(w.alloc (.cells (superC id bl sl jo pa lo ba).toArray 40)).cell? ⟨w.heap.size,3,none⟩=some (.int .i64 (jo:Int)):=za hg 3;have k4:(w.alloc (.cells (superC id bl sl jo pa lo ba).toArray 40)).cell? ⟨w.heap.size,4,none⟩=some (.int .i64 (pa:Int)):=za hg 4;have k5:(w.alloc (.cells (superC id bl sl jo pa lo ba).toArray 40)).cell? ⟨w.heap.size,5,none⟩=some (.int .i64 (lo:Int)):=za hg 5;have k6:(w.alloc (.cells (superC id bl sl jo pa lo ba).toArray 40)).cell? ⟨w.heap.size,6,none⟩=some (.int .i64 (ba:Int)):=za hg 6;go_enter func14,ntmps14
 go_wp2_with fail
 have hua:Upd (fun _=>False) (w.alloc (.cells (superC id bl sl jo pa lo ba).toArray 40)) ((w.alloc (.cells (superC id bl sl jo pa lo ba).toArray 40)).alloc (.cells #[.int .i64 0,.int .i64 0,.int .i64 0,.int .i64 0,.int .i64 0,.int .i64 0,.int .i64 0] 43)):=(uur _ _).alloc _;have hgl:((w.alloc (.cells (superC id bl sl jo pa lo ba).toArray 40)).alloc (.cells #[.int .i64 0,.int .i64 0,.int .i64 0,.int .i64 0,.int .i64 0,.int .i64 0,.int .i64 0] 43)).heap[w.heap.size+1]?=_:=zc _ _ (by simp);have hul:Upd (fun _=>False) w ((w.alloc (.cells (superC id bl sl jo pa lo ba).toArray 40)).alloc (.cells #[.int .i64 0,.int .i64 0,.int .i64 0,.int .i64 0,.int .i64 0,.int .i64 0,.int .i64 0] 43)):=((uur _ w).alloc _).alloc _;have hs2:((w.alloc (.cells (superC id bl sl jo pa lo ba).toArray 40)).alloc (.cells #[.int .i64 0,.int .i64 0,.int .i64 0,.int .i64 0,.int .i64 0,.int .i64 0,.int .i64 0] 43)).heap.size=w.heap.size+2:=by simp
 replace k1:=hua.ja k1 (fun h=>h);replace k2:=hua.ja k2 (fun h=>h);replace k3:=hua.ja k3 (fun h=>h);replace k4:=hua.ja k4 (fun h=>h);replace k5:=hua.ja k5 (fun h=>h);replace k6:=hua.ja k6 (fun h=>h);generalize (w.alloc (.cells (superC id bl sl jo pa lo ba).toArray 40)).alloc (.cells #[.int .i64 0,.int .i64 0,.int .i64 0,.int .i64 0,.int .i64 0,.int .i64 0,.int .i64 0] 43)=w2 at*;generalize hm:w.heap.size=m at*;have HM:=Y3 hgl hul hs2;clear hg hua hgl hul hs2
 go_region_held3 (fun W=>W.cell? ⟨m,1,none⟩=some (.int .i64 (bl:Int))/\W.cell? ⟨m,2,none⟩=some (.int .i64 (sl:Int))/\W.cell? ⟨m,3,none⟩=some (.int .i64 (jo:Int))/\W.cell? ⟨m,4,none⟩=some (.int .i64 (pa:Int))/\W.cell? ⟨m,5,none⟩=some (.int .i64 (lo:Int))/\W.cell? ⟨m,6,none⟩=some (.int .i64 (ba:Int)))
  ((go_split_ands;(simp only[qYo]at*);((repeat' constructor)<;>assumption)))
  (first|(go_at_call 53;refine(EU _ _ _ (by omega) (by omega) _).mono ?_;rintro e w' ⟨rfl,rfl⟩)|(go_at_call 54;refine(need_any _ s1 (by omega) _).mono ?_;rintro e w' ⟨rfl,rfl⟩))
 obtain⟨hgl,hul,hs2⟩:=HM.o;clear HM k1 k2 k3 k4 k5 k6
 rename_i hHeld
 obtain⟨k1,k2,k3,k4,k5,k6⟩:=hHeld;have hm2:m<w2.drew.heap.size:=by show _<w2.heap.size;omega
 have hm3:m+1<w2.drew.heap.size:=by show _<w2.heap.size;omega
 have hu:Upd (fun _=>False) w w2.drew:=hul.drew;replace hgl:w2.drew.heap[m+1]?=_:=hgl;replace hs2:w2.drew.heap.size=m+2:=hs2;have HM:=Y3 hgl hu hs2;clear hgl hul hs2 hu;generalize w2.drew=w3 at*;have hth:Hid (∀X,(w3.alloc X).there (m+1) 0 7):=by
  intro X j hj;have hb:(w3.alloc X).heap[m+1]?=_:=((uur (fun _=>False) w3).alloc X).jc HM.o.1;rw[za hb,zg hb,qYe];refine⟨?_,rfl⟩;rw[qxe (by simpa using hj)];rfl
 go_upto_region 14 with fail
 have rA:=zh (zc w3 (.cells (layC sl jo pa lo).toArray 43) rfl);have hB:Below w.heap.size w (w3.alloc (.cells (layC sl jo pa lo).toArray 43)):=Upd.below ((HM.o.2.1).alloc _);have hth2:=hth.out (.cells (layC sl jo pa lo).toArray 43);clear k1 k2 k3 k4 k5 k6 HM hth;generalize w3.alloc (.cells (layC sl jo pa lo).toArray 43)=w5 at*;generalize w3.heap.size=m3 at*;have h7:(layC sl jo pa lo).length=7:=rfl;have h1:=TX sl jo pa lo;have hE:(Value.tuple #[.agg (layC sl jo pa lo).toArray,.int .i64 0])=Value.tuple #[.agg (layC sl jo pa lo).toArray,.int .i64 0]:=rfl;generalize hL:layC sl jo pa lo=L at*;have hi:(prog.info? 43).map (·.size)=some L.length:=by rw[h7];exact xB
 have hi2:(prog.info? 43).map (·.size)=some L.toArray.size:=by rw[qXm,h7];exact xB
 have hth3:w5.there (m+1) 0 L.toArray.size:=by rw[qXm,h7];exact hth2
 have hth4:w5.there (m+1) 0 L.length:=by rw[h7];exact hth2
 have HF:=Y6 hB hth3 hth4 hi hi2 h1;clear hB hth2 hth3 hth4 hi hi2 h1 h7 hE;go_wp2_with (first
  |(refine qZg rfl _ _ rfl _ _ rfl L _ rA underlying43 rfl HF.o.2.2.2.1 ?_)
  |(refine qZi rfl _ _ _ rfl (m+1) 0 L.toArray rfl rfl HF.o.2.1 HF.o.2.2.2.2.1 HF.o.2.2.2.2.2 ?_)
  |fail)
 refine qYw (zp rfl _ _ (m+1) 0 L _ rfl (qYr _ _ _ _ HF.o.2.2.1) underlying43 rfl HF.o.2.2.2.1) rfl ⟨by subst hL;rfl,zl (hm▸HF.o.1) (zq _ (m+1) 0 _) (by omega) (fun k e=>by omega)⟩
def qt(X:Int->World->Prop)(R:World->Prop)(e:Ending)(w':World):Prop:=∃c:Int,e=.returned (.int .i64 c)/\(c=0->R w')/\(c≠0->X c w')
theorem zaW{g n:Nat}(hn:n<=100)(fd:Nat->Nat)(fi ca:Nat->Array Value)(R:Nat->World->Prop)(X:Int->World->Prop)
  (hc:∀k,k<n->∀W,R k W->W.cell? ⟨g,k,none⟩=some (.func (.func (fd k)) (fi k) (ca k)))
  (he:∀k,k<n->∀args W,(callFunc (fd k) args).run prog W=.ok (.enter (fd k) args) W)
  (hs:∀k,k<n->∀W,R k W->Calls prog (fd k) (fi k++ca k) W (qt X (R (k+1))))
  {w:World} (h0:R 0 w):Calls prog 61 #[.slice (some ⟨g,0,none⟩) n n] w (qt X (R n)):=by
 have H:=Y3 hc hs h0;have HE:=qqh he;clear hc he hs h0;go_enter func61,ntmps61
 go_wp2
 go_step3
 go_wp2
 go_step3
 go_wp2_with fail
 go_loopg[3,8] n (fun gk s3 s8 wr=>∃k:Nat,k+gk=n/\s8=.int .i64 (k:Int)/\s3=.int .i64 0/\R k wr)
 case atStart=>exact⟨0,by omega,rfl,rfl,H.o.2.2⟩
 case round=>
  obtain⟨k,hk,rfl,rfl,hS⟩:=hrel;by_cases hlt:k<n
  .have k1:(k:Int)<(n:Int):=by omega
   have k0:(0:Int)<=(k:Int):=by omega
   have cg:=H.o.1 k hlt wr hS;have HC:=qqh (H.o.2.1 k hlt wr hS);have hent:=HE.o k hlt;clear hS;obtain⟨fk,hfk⟩:=qqe (fd k);obtain⟨ik,hik⟩:=qqe (fi k);obtain⟨ck,hck⟩:=qqe (ca k);rw[<-hfk,<-hik,<-hck]at cg HC;rw[<-hfk]at hent;clear hfk hik hck;go_wp2_with fail
   refine HC.o.mono ?_;rintro e w2 ⟨c,rfl,hr,hx⟩;clear HC cg hent;by_cases hc0:c=0
   .subst hc0;have HS2:=qqh (hr rfl);clear hr hx;go_wp2_with fail
    go_roundg (gk-1)
    case measure=>omega
    case rel=>exact⟨k+1,by omega,by go_num,rfl,HS2.o⟩
   .have q0:(c==0)=false:=by simpa using hc0
    have HZ:=Y2 hc0 (hx hc0);clear hr hx hc0;go_wp2_with fail
    try rw[qxr]
    go_ret
    exact⟨c,rfl,fun h=>absurd h HZ.o.1,fun _=>HZ.o.2⟩
  .obtain rfl:k=n:=by omega
   have k1:¬((k:Int)<(k:Int)):=by omega
   have HS2:=qqh hS;clear hS;go_wp2_with fail
   try rw[qxr]
   go_ret
   exact⟨0,rfl,fun _=>HS2.o,fun h=>absurd rfl h⟩
def sizeN(sl jo pa lo:Nat):Nat:=1+2*pa+jo+lo+lo+lo+sl
def qu(F G:List Bk)(z bl:Nat):Int:=if F.length=z/\G.length=bl then 0 else 22
theorem TY{S T:Nat->Prop}{w:World}{b bb:Nat}{F G:List Bk}{O Q:List (Nat×Bk)}{P R:List Int}(h:Dv S w b F O P)(h':Dv T w bb G Q R)(id:Int)(bl sl jo pa lo ba:Nat):
  Calls prog 55 #[.agg (superC id bl sl jo pa lo ba).toArray,.agg (layC sl jo pa lo).toArray,.pointer (some ⟨b,0,none⟩),.pointer (some ⟨bb,0,none⟩)] w
   fun e w'=>e=.returned (.int .i64 (qu F G (sizeN sl jo pa lo) bl))/\Upd (fun _=>False) w w':=by
 obtain⟨U,hU⟩:=qqe (superC id bl sl jo pa lo ba);obtain⟨V,hV⟩:=qqe (layC sl jo pa lo);obtain⟨w1,hw1⟩:=qqe ((w.alloc (.cells U.toArray 40)).alloc (.cells V.toArray 43));have hu1:Upd (fun _=>False) w w1:=by rw[hw1];exact((uur _ w).alloc _).alloc _
 have g1:w1.heap[w.heap.size]?=some (.cells U.toArray 40):=by
  rw[hw1];exact(((uur (fun _=>False) (w.alloc (.cells U.toArray 40))).alloc (.cells V.toArray 43))).jc (zc w _ rfl)
 have g2:w1.heap[w.heap.size+1]?=some (.cells V.toArray 43):=by rw[hw1];exact zc _ _ (by simp)
 have u1:w1.cell? ⟨w.heap.size,1,none⟩=some (.int .i64 (bl:Int)):=by rw[za g1,hU];simp[superC]
 have v6:w1.cell? ⟨w.heap.size+1,6,none⟩=some (.int .i64 ((sizeN sl jo pa lo:Nat):Int)):=by rw[za g2,hV];simp[layC,sizeN]
 have hS1:∀k,Calls prog 47 #[.pointer (some ⟨b,0,none⟩)] (w1.drewN k) fun e w'=>e=.returned (.int .i64 (F.length:Int))/\w'=w1.drewN k:=fun k=>vV (h.new (hu1.trans ((uur (fun _=>False) w1).drewN k)));have hS2:∀k,Calls prog 47 #[.pointer (some ⟨bb,0,none⟩)] (w1.drewN k) fun e w'=>e=.returned (.int .i64 (G.length:Int))/\w'=w1.drewN k:=fun k=>vV (h'.new (hu1.trans ((uur (fun _=>False) w1).drewN k)));have HS:=Y2 hS1 hS2;have HU:=qqh hu1;have HW:=qqh hw1;obtain⟨mc,hmc⟩:=qqe (qu F G (sizeN sl jo pa lo) bl);rw[<-hU,<-hV,<-hmc];unfold qu at hmc;generalize sizeN sl jo pa lo=z at*;generalize F.length=f at*;generalize G.length=g at*;have HM:=qqh hmc;clear h h' hS1 hS2 hu1 hw1 g1 g2 hU hV hmc;go_enter func55,ntmps55
 go_wp2_with fail
 rw[<-HW.o];by_cases hf:f=z
 .by_cases hg:g=bl
  .have e:mc=0:=by rw[HM.o,if_pos ⟨hf,hg⟩]
   subst hf hg e
   go_quiet((go_at_call 47;(first|with_reducible exact Calls.quiet_of_same (HS.o.1 _)|with_reducible exact Calls.quiet_of_same (HS.o.2 _))))
   have hu:=HU.o.trans ((uur (fun _=>False) w1).drewN nq);generalize w1.drewN nq=w2 at*;go_wp2
   go_ret
   exact⟨rfl,hu⟩
  .have e:mc=22:=by rw[HM.o,if_neg (fun h=>hg h.2)]
   have q1:¬(g:Int)=(bl:Int):=by omega
   have q2:((g:Int)==(bl:Int))=false:=by simpa using q1
   subst hf e;clear hg
   go_quiet((go_at_call 47;(first|with_reducible exact Calls.quiet_of_same (HS.o.1 _)|with_reducible exact Calls.quiet_of_same (HS.o.2 _))))
   have hu:=HU.o.trans ((uur (fun _=>False) w1).drewN nq);generalize w1.drewN nq=w2 at*;go_wp2
   go_ret
   exact⟨rfl,hu⟩
 .have e:mc=22:=by rw[HM.o,if_neg (fun h=>hf h.1)]
  have q1:¬(f:Int)=(z:Int):=by omega
  have q2:((f:Int)==(z:Int))=false:=by simpa using q1
  subst e;clear hf
  go_quiet((go_at_call 47;(first|with_reducible exact Calls.quiet_of_same (HS.o.1 _)|with_reducible exact Calls.quiet_of_same (HS.o.2 _))))
  have hu:=HU.o.trans ((uur (fun _=>False) w1).drewN nq);generalize w1.drewN nq=w2 at*;go_wp2
  go_ret
  exact⟨rfl,hu⟩
end Go.Proofs.YtfhfbpmlnjdfoaaGreatDoor
