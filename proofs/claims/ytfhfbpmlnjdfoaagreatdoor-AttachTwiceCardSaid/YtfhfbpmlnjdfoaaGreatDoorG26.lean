/- attach.Attach: -/
import Derived.Test.YtfhfbpmlnjdfoaaGreatDoorG25
set_option maxRecDepth 100000
set_option maxHeartbeats 4000000
namespace Go.Proofs.YtfhfbpmlnjdfoaaGreatDoor
open Go Go.RowKit Tryz
structure Dvs(own:Nat->Nat)(w:World)(ssd back:Nat)(F:List Bk)(O:List (Nat×Bk))(G:List Bk)(Q:List (Nat×Bk))(P:List Int):Prop where
 ssd:Dv (fun j=>own j=2) w ssd F O []
 back:Dv (fun j=>own j=3) w back G Q P
 far:∀j,w.heap.size<=j->own j=0
 nib:Nib w
 tur:Tur w
 on:own 0=0
 ot:own 1=0
section
variable{own own':Nat->Nat}{w w':World}{ssd back:Nat}{F G:List Bk}{O Q:List (Nat×Bk)}{P:List Int}
theorem Dvs.new(h:Dvs own w ssd back F O G Q P)(hu:Upd (fun _=>False) w w'):Dvs own w' ssd back F O G Q P:=
 ⟨h.ssd.new hu,h.back.new hu,fun j hj=>h.far j (qXx hu.size hj),h.nib.keep hu (fun h=>h),h.tur.keep hu (fun h=>h),h.on,h.ot⟩
theorem Dvs.ji(h:Dvs own w ssd back F O G Q P)(hu:Upd (fun _=>False) w w'):Did own own w w':=⟨hu.mono (fun _ _ h=>h.elim),fun _ _=>rfl,fun j hj=>by rw[h.far j hj];decide,fun j hj=>h.far j (qXx hu.size hj)⟩
theorem Dvs.jP(h:Dvs own w ssd back F O G Q P):Dv (fun j=>own j=2\/w.heap.size<=j) w ssd F O []:=(Dv.jQ _ _ _ _).open h.ssd
theorem Dvs.on2(h:Dvs own w ssd back F O G Q P):¬(own 0=2\/w.heap.size<=0):=fun h'=>by rcases h' with h'|h';rw[h.on]at h';exact absurd h' (by decide);exact absurd h.nib.lt (by omega)
theorem Dvs.jM{F':List Bk}{O':List (Nat×Bk)}(h:Dvs own w ssd back F O G Q P)(hu:Upd (fun j=>own j=2\/w.heap.size<=j) w w')(hd:Dv (fun j=>own j=2\/w.heap.size<=j) w' ssd F' O' []):Dvs (grow own 2 w.heap.size w'.heap.size) w' ssd back F' O' G Q P where
 ssd:=(Dv.jQ _ _ _ _).mine hu.size hd
 back:=(Dv.jQ _ _ _ _).other h.back (by decide) hu
 far:=(Did.step h.far (t:=2) (by decide) (by decide) hu).far
 nib:=h.nib.keep hu h.on2
 tur:=h.tur.keep hu (fun hs=>by rcases hs with hs|hs;rw[h.ot]at hs;exact absurd hs (by decide);exact absurd h.tur.lt (by omega))
 on:=(zx h.nib.lt).trans h.on
 ot:=(zx h.tur.lt).trans h.ot
theorem Dvs.did2(h:Dvs own w ssd back F O G Q P)(hu:Upd (fun j=>own j=2\/w.heap.size<=j) w w'):Did own (grow own 2 w.heap.size w'.heap.size) w w':=Did.step h.far (by decide) (by decide) hu
theorem Did.zero{b:Nat}{o:Obj}(d:Did own own' w w')(hb:w.heap[b]?=some o)(h0:own b=0):w'.heap[b]?=some o/\own' b=0:=
 ⟨(d.upd.block _ (zf hb) (fun h=>h.1 h0)).trans hb,(d.old _ (zf hb)).trans h0⟩
def Kps(own:Nat->Nat)(w:World)(Fx:Nat->Option Obj):Prop:=∀b o,Fx b=some o->w.heap[b]?=some o/\own b=0
theorem Kps.did{Fx:Nat->Option Obj}(h:Kps own w Fx)(d:Did own own' w w'):Kps own' w' Fx:=fun b o hb=>d.zero (h b o hb).1 (h b o hb).2
theorem Kps.aside{Fx:Nat->Option Obj}(h:Kps own w Fx){S:Nat->Prop}(hu:Upd S w w')(hS:∀j,S j->Fx j=none):Kps own w' Fx:=fun b o hb=>
 ⟨(hu.block _ (zf (h b o hb).1) (fun hs=>by rw[hS b hs]at hb;cases hb)).trans (h b o hb).1,(h b o hb).2⟩
theorem rk{b:Nat}{v:Array Value}{t:TypeId}(hn:Nib w)(ht:Tur w)(hb:w.heap[b]?=some (.cells v t (0,0)))(h0:own b=0)(hp:∀k x,v[0]?≠some (.int k x)):∀j,j=b->own j=0/\j≠0/\j≠1:=by
 rintro j rfl;refine⟨h0,fun e=>?_,fun e=>?_⟩
 .have h2:=za hb 0;rw[e]at h2;exact hp _ _ (h2.symm.trans (hn.c 0 (by decide)))
 .have h2:=za hb 0;rw[e]at h2;exact hp _ _ (h2.symm.trans ht.c0)
theorem Did.mine{b:Nat}{w2:World}(d:Did own own' w w')(hu:Upd (fun j=>j=b) w' w2)(hb:w.heap.size<=b):Did own own' w w2:=
 ⟨d.upd.new hu (fun i hi e=>by omega),d.old,d.new,fun j hj=>d.far j (qXx hu.size hj)⟩
theorem xJ{b:Nat}{v u:Value}{t:TypeId}(h:w.heap[b]?=some (.cells #[v] t (0,0))):(w.setCell ⟨b,0,none⟩ u).heap[b]?=some (.cells #[u] t (0,0)):=zi h 0 u
end
def zbJ(own:Nat->Nat)(w:World)(ssd back s13:Nat)(n:CaN)(a:CaS)(e:Ending)(w':World):Prop:=
 e=.returned (.int .i64 0)/\∃c p own' w2,CaAt own' w2 c n p a/\p.ssd=ssd/\p.back=back/\Did own own' w w2/\w'=w2.setCell ⟨s13,0,none⟩ (ptr c)
theorem zcO{own:Nat->Nat}{w:World}{ssd back s8 q qb s10 s11 s12 s13:Nat}{n:CaN}{ao:Option Addr}{ln lc:Nat}{a:CaS}{x:Value}(wh sq:Nat)
  (hnew:Calls prog 74 #[.agg n.C.toArray,ptr ssd,ptr back,.int .i64 (wh:Int),.int .i64 ((sq+1:Nat):Int),.slice ao ln lc] w (ZC own w ssd back n a))
  (hsq:sq<1099511627776) (h8:w.rangeAt s8 0 n.C) (cq:w.cell? ⟨q,0,none⟩=some (ptr ssd)) (cb:w.cell? ⟨qb,0,none⟩=some (ptr back)) (c10:w.cell? ⟨s10,0,none⟩=some (.int .i64 (wh:Int)))
  (c11:w.cell? ⟨s11,0,none⟩=some (.int .i64 (sq:Int))) (c12:w.cell? ⟨s12,0,none⟩=some (.slice ao ln lc)) (h13:w.heap[s13]?=some (.cells #[x] 62 (0,0))) (o13:own s13=0):
  Calls prog 73 #[ptr s8,ptr q,ptr qb,ptr s10,ptr s11,ptr s12,ptr s13] w (zbJ own w ssd back s13 n a):=by
 obtain⟨U,hU⟩:=qqe (n.C);have hN:=qqh hnew;have hsU:(prog.info? 40).map (·.size)=some U.length:=by rw[hU];exact yW
 rw[<-hU]at h8 hN;rw[show((sq+1:Nat):Int)=(sq:Int)+1 by simp]at hN;have H:=Y2 h13 o13;clear hnew hU h13 o13;go_enter func73,ntmps73
 go_wp2_with (first
  |(refine qZg rfl _ _ rfl _ _ rfl _ _ h8 underlying40 rfl hsU ?_)
  |fail)
 refine hN.out.mono ?_;rintro e w2 ⟨c,p,own2,rfl,hp1,hp2,hca,hdid⟩;have g2:=(hdid.zero H.o.1 H.o.2).1;have k2:=za g2 0;have f2:=zg g2 0;have H2:=Y4 hca hdid hp1 hp2;clear hca hdid g2 hp1 hp2 h8 cq cb c10 c11 c12 hN;go_wp2
 go_ret
 exact⟨rfl,c,p,own2,w2,H2.o.1,H2.o.2.2.1,H2.o.2.2.2,H2.o.2.1,rfl⟩
def zbK(_own:Nat->Nat)(w:World)(d s14:Nat)(n:CaN)(e:Ending)(w':World):Prop:=
 e=.returned (.int .i64 0)/\∃li lc lf w2,LogI w2 li d (1+2*n.pa+n.jo) n.lo 140/\LogC w2 lc d (1+2*n.pa+n.jo+n.lo) n.lo 144/\LogF w2 lf d (1+2*n.pa+n.jo+n.lo+n.lo) n.lo 148/\
  (w.heap.size<=li/\w.heap.size<=lc/\w.heap.size<=lf)/\Upd (fun _=>False) w w2/\w'=w2.setCells s14 0 [ptr li,ptr lc,ptr lf]
theorem xx:(prog.info? 67).map (·.size)=some 3:=by kernel_rfl
theorem zcP{own:Nat->Nat}{w:World}{c s13 s14:Nat}{n:CaN}{p:CaP}{a:CaS}{x y z:Value}(hca:CaAt own w c n p a)(h13:w.cell? ⟨s13,0,none⟩=some (ptr c))(h14:w.heap[s14]?=some (.cells #[x,y,z] 67 (0,0))):
  Calls prog 75 #[ptr s13,ptr s14] w (zbK own w p.ssd s14 n):=by
 have HO:=qqh (zbI hca);have H14:=qqh h14;clear hca h14;go_enter func75,ntmps75
 go_wp2_with fail
 refine HO.o.mono ?_;rintro e w2 ⟨li,lc,lf,rfl,hi,hc,hf,hz,hb⟩;have hu:=qqb hb;have g2:=hu.jc H14.o;have tA:=zO (n:=3) g2 (by simp);have HE:=Y5 hi hc hf hz hu;clear hi hc hf hz hu hb g2 h13 HO;go_wp2_with (first
  |(refine qZi rfl _ _ _ rfl _ _ [ptr li,ptr lc,ptr lf].toArray rfl rfl tA xx (by simp[Value.oneCell']) ?_)
  |fail)
 go_ret
 exact⟨rfl,li,lc,lf,w2,HE.o.1,HE.o.2.1,HE.o.2.2.1,HE.o.2.2.2.1,HE.o.2.2.2.2,rfl⟩
def zbL(S:Nat->Prop)(w:World)(d s15:Nat)(F:List Bk)(O:List (Nat×Bk))(e:Ending)(w':World):Prop:=
 e=.returned (.int .i64 0)/\∃w2,Dv S w2 d F O []/\Upd S w w2/\w'=w2.setCell ⟨s15,0,none⟩ (.slice none 0 0)
theorem zcQ{S:Nat->Prop}{w:World}{li lc lf d base k s14 s15:Nat}{F:List Bk}{O:List (Nat×Bk)}{x:Value}(h:LgsZ S w li lc lf d base k F O)(h14:w.heap[s14]?=some (.cells #[ptr li,ptr lc,ptr lf] 67 (0,0)))
  (h15:w.heap[s15]?=some (.cells #[x] 68 (0,0))) (o15:¬S s15):
  Calls prog 77 #[ptr s14,ptr s15] w (zbL S w d s15 F O):=by
 have HW:=qqh (WB h);have r14:w.rangeAt s14 0 [ptr li,ptr lc,ptr lf]:=zh h14;have H15:=Y2 h15 o15;clear h h14 h15 o15;go_enter func77,ntmps77
 go_wp2_with (first
  |(refine qZg rfl _ _ rfl _ _ rfl _ _ r14 underlying67 rfl xx ?_)
  |fail)
 refine HW.o.mono ?_;rintro e w2 ⟨rfl,hd,hu⟩;have g2:=(hu.block _ (zf H15.o.1) H15.o.2).trans H15.o.1;have k2:=za g2 0;have f2:=zg g2 0;have HE:=Y2 hd hu;clear hd hu g2 r14 HW;go_wp2
 go_ret
 exact⟨rfl,w2,HE.o.1,HE.o.2,rfl⟩
theorem zcR{own:Nat->Nat}{w:World}{c s13:Nat}{n:CaN}{p:CaP}{a':CaS}(hck:Calls prog 80 #[ptr c] w (zu own w c n p a' (.int .i64 0)))(h13:w.cell? ⟨s13,0,none⟩=some (ptr c)):
  Calls prog 79 #[ptr s13] w (zu own w c n p a' (.int .i64 0)):=by
 have HO:=qqh hck;clear hck;go_enter func79,ntmps79
 go_wp2_with fail
 refine HO.o.mono ?_;rintro e w2 ⟨rfl,own2,h2,d2⟩;have H2:=Y2 h2 d2;clear h2 d2 HO h13;go_wp2
 go_ret
 exact⟨rfl,own2,H2.o.1,H2.o.2⟩
def tJ(ns:List Nat)(i:Nat):Ent:=⟨ns.getD (4+4*i) 0,ns.getD (4+4*i+1) 0,ns.getD (4+4*i+2) 0==1,ns.getD (4+4*i+3) 0⟩
theorem zT(ns:List Nat)(i:Nat):(natsI ns).getD i 0=(ns.getD i 0:Nat):=by
 simp only[natsI,qyh,qyq];cases ns[i]?<;>rfl
theorem xp(xs:List Int)(i j:Nat)(hj:j<4):(rowI xs i).getD j 0=xs.getD (4+4*i+j) 0:=by
 simp only[rowI,qyh,qyu,if_pos hj,qym]
theorem Rx(ns:List Nat)(i:Nat):entX (natsI ns) i=entC (tJ ns i):=by
 unfold entX entC tJ;rw[xp _ _ _ (by omega),xp _ _ _ (by omega),xp _ _ _ (by omega),xp _ _ _ (by omega),zT,zT,zT,zT];have:((ns.getD (4+4*i+2) 0:Nat):Int)==1↔ns.getD (4+4*i+2) 0==1:=by simp;omega
 rw[Bool.eq_iff_iff.2 this];rfl
def pgSeq(b:Bk):Nat:=(numsP b).getD 0 0
def pgNo(b:Bk):Nat:=(numsP b).getD 1 0
def pgOf(b:Bk):Nat:=(numsP b).getD 2 0
def pgMany(b:Bk):Nat:=(numsP b).getD 3 0
def pgEnts(b:Bk):List Ent:=(List.range (pgMany b)).map (tJ (numsP b))
def goesP(seq of no:Nat)(b:Bk):Bool:=
 if of<=no then b==zB else okP b&&(pgSeq b==seq&&(pgNo b==no&&(pgOf b==of&&(if no+1=of then !(pgMany b==0&&decide (0<no))else pgMany b==4))))
def readSeq(l:List Bk):Nat:=pgSeq (l.getD 0 zB)
def readOf(l:List Bk):Nat:=pgOf (l.getD 0 zB)
def readOk(l:List Bk):Bool:=okP (l.getD 0 zB)&&(decide (readOf l<=l.length)&&(List.range l.length).all fun i=>goesP (readSeq l) (readOf l) i (l.getD i zB))
def entsTo(l:List Bk)(k:Nat):List Ent:=(List.range k).flatMap fun i=>pgEnts (l.getD i zB)
def readEs(l:List Bk):List Ent:=entsTo l (readOf l)
theorem VN{b:Bk}(h:okP b=true):mayP (natsI (numsP b))=true:=by
 unfold okP okGet at h;simp only[qxo]at h;exact h.2.2.2
theorem yC{b:Bk}(h:okP b=true):pgSeq b<=1099511627776/\pgNo b<=255/\1<=pgOf b/\pgOf b<=256/\pgMany b<=4:=by
 have hm:=VN h;unfold mayP at hm;rw[qxo,qxo]at hm;have hl:(natsI (numsP b)).length=20:=by simp[natsI,numsP,zP,Vw]
 have hw:=hm.1.1;have w0:=yi hw (i:=0) (by decide) (by omega);have w1:=yi hw (i:=1) (by decide) (by omega);have w2:=yi hw (i:=2) (by decide) (by omega);have w3:=yi hw (i:=3) (by decide) (by omega);have e:∀i (hi:i<(natsI (numsP b)).length),(natsI (numsP b))[i]=((numsP b).getD i 0:Nat):=fun i hi=>by
  rw[<-zT,qyh,qyn hi];rfl
 rw[e]at w0 w1 w2 w3;simp only[bndP,qyx,qyw]at w0 w1 w2 w3;unfold pgSeq pgNo pgOf pgMany;omega
theorem Xi{w:World}{p:Nat}{b:Bk}{T:TypeId}(h:w.heap[p]?=some (.cells (dsP (natsI (numsP b))).toArray T (0,0)))(hok:okP b=true):
  w.cell? ⟨p,0,none⟩=some (.int .i64 (pgSeq b:Nat))/\w.cell? ⟨p,1,none⟩=some (.int .i64 (pgNo b:Nat))/\w.cell? ⟨p,2,none⟩=some (.int .i64 (pgOf b:Nat))/\w.cell? ⟨p,3,none⟩=some (.int .i64 (pgMany b:Nat))/\w.rangeAt p 4 ((pgEnts b).flatMap entC):=by
 refine⟨?_,?_,?_,?_,?_⟩
 .rw [za h 0];show some (Value.int .i64 ((natsI (numsP b)).getD 0 0))=_;rw[zT];rfl
 .rw [za h 1];show some (Value.int .i64 ((natsI (numsP b)).getD 1 0))=_;rw[zT];rfl
 .rw [za h 2];show some (Value.int .i64 ((natsI (numsP b)).getD 2 0))=_;rw[zT];rfl
 .rw [za h 3];show some (Value.int .i64 ((natsI (numsP b)).getD 3 0))=_;rw[zT];rfl
 .obtain ⟨-,-,-,-,hm⟩:=yC hok;intro j u hj;have hlen:=(qyp.1 hj).1;rw[za h];have e:(dsP (natsI (numsP b))).toArray[4+j]?=((List.range 4).flatMap fun i=>entC (tJ (numsP b) i))[j]?:=by
   rw[qyv];unfold dsP dsPk;rw[qyj (by simp)];simp only[qze,qzh];rw[show 4+j-(0+1+1+1+1)=j by omega]
   congr 1
   rw[List.flatMap_def,List.flatMap_def]
   congr 1
   apply List.map_congr_left;intro i hi;rw[if_pos (qzx.1 hi),Rx]
  rw[e,<-hj];unfold pgEnts;rw[List.flatMap_map];rw[show List.range 4=List.range (pgMany b)++(List.range (4-pgMany b)).map (pgMany b+·) by rw[<-List.range_add,Nat.add_sub_cancel' hm],qyf,qyi];have:((List.range (pgMany b)).flatMap fun i=>entC (tJ (numsP b) i))=((pgEnts b).flatMap entC):=by unfold pgEnts;rw[List.flatMap_map]
  rw[this];exact hlen
theorem xy{seq:Nat}{E:List Ent}(hs:seq<=1099511627776)(hE:∀x∈E,qJ x)(hn:needN E.length<=256){k:Nat}(hk:k<needN E.length):
  let b:=sectP (pageXs seq (needN E.length) E k)
  okP b=true/\pgSeq b=seq/\pgNo b=k/\pgOf b=needN E.length/\pgMany b=(partE E k).length/\pgEnts b=partE E k:=by
 intro b;obtain⟨h1,h2⟩:=UQ (yP seq (needN E.length) E k) (uP hs hE hn hk);have h3:numsP b=pgN seq k (needN E.length) (partE E k).length (padE (partE E k)):=by
  have:natsI (numsP b)=natsI (pgN seq k (needN E.length) (partE E k).length (padE (partE E k))):=h2;unfold natsI at this;exact(List.map_inj_right (f:=fun(n:Nat)=>(n:Int)) (fun x y h=>Int.ofNat_inj.1 h)).1 this
 have hm:pgMany b=(partE E k).length:=by unfold pgMany;rw[h3];rfl
 refine⟨h1,?_,?_,?_,hm,?_⟩
 .unfold pgSeq;rw[h3];rfl
 .unfold pgNo;rw[h3];rfl
 .unfold pgOf;rw[h3];rfl
 .unfold pgEnts;rw[hm,h3];have hp:=tW E k;have hrow:∀i,i<(partE E k).length->tJ (pgN seq k (needN E.length) (partE E k).length (padE (partE E k))) i=(partE E k).getD i Ent.none:=by
   intro i hi;have hr:=sJ seq k (needN E.length) (partE E k).length (padE (partE E k)) (i:=i) (by rw[tX hp];omega);have hg:(padE (partE E k)).getD i Ent.none=(partE E k).getD i Ent.none:=by
    simp[padE,List.getD_eq_getElem?_getD,List.getElem?_append_left hi]
   rw[hg]at hr;generalize (partE E k).getD i Ent.none=x at*;generalize pgN seq k (needN E.length) (partE E k).length (padE (partE E k))=ns at*;have hq:∀j,j<4->ns.getD (4+4*i+j) 0=(entN x).getD j 0:=fun j hj=>by
    have:=congrArg (fun l=>l.getD j 0) hr;simp only[xp _ _ _ hj,zT]at this;exact Int.ofNat_inj.1 this
   have q0:=hq 0 (by omega);have q1:=hq 1 (by omega);have q2:=hq 2 (by omega);have q3:=hq 3 (by omega);unfold tJ;rw[qXs]at q0;rw[q0,q1,q2,q3];obtain⟨b,s,d,m⟩:=x;cases d<;>rfl
  apply qye
  .simp
  .intro i h1 h2;rw[qyy,List.getElem_range,hrow i h2,qyh,qyn h2];rfl
theorem Xj(E:List Ent):∀k,(List.range k).flatMap (partE E)=E.take (4*k)
 |0=>by simp
 |k+1=>by
  rw[qXh,qyf,Xj E k];simp only[qyg,List.flatMap_nil,qxy,partE];rw[show 4*(k+1)=4*k+4 by omega,List.take_add]
theorem Ry(E:List Ent)(k:Nat):(partE E k).length=min 4 (E.length-4*k):=by simp[partE]
theorem wy{seq:Nat}{E:List Ent}(hs:seq<=1099511627776)(hE:∀x∈E,qJ x)(hn:needN E.length<=256){l:List Bk}(hm:needN E.length<=l.length)(hl:∀i<l.length,l.getD i zB=(pagesB seq E).getD i zB):
  readOk l=true/\readSeq l=seq/\readEs l=E:=by
 have hnp:1<=needN E.length:=by unfold needN;omega
 have hpg:∀i,i<needN E.length->l.getD i zB=sectP (pageXs seq (needN E.length) E i):=fun i hi=>by
  rw[hl i (by omega),pagesB,zY,qyh,qyq,qyr hi];rfl
 have h0:=xy hs hE hn (k:=0) hnp;dsimp only at h0;rw[<-hpg 0 hnp]at h0;obtain⟨a1,a2,a3,a4,a5,a6⟩:=h0;have hof:readOf l=needN E.length:=a4;refine⟨?_,a2,?_⟩
 .unfold readOk;rw[a1,hof,qYy hm,qxp,qxp,qxw];intro i hi;have hi:=qzx.1 hi;unfold goesP;by_cases h:needN E.length<=i
  .rw [if_pos h,hl i hi,qyh,qyo (by rw[pagesB,xf];exact h)];simp
  .rw [if_neg h];obtain⟨b1,b2,b3,b4,b5,b6⟩:=xy hs hE hn (k:=i) (by omega);rw[<-hpg i (by omega)]at b1 b2 b3 b4 b5 b6;rw[b1,b2,b3,b4,b5,show readSeq l=seq from a2,Ry];unfold needN at h⊢;split
   .next he=>
    simp only[qxp,beq_self_eq_true,Bool.not_eq_true',Bool.and_eq_false_iff,qYv,qYx];by_cases hz:i=0
    .right;omega
    .left;omega
   .next he=>
    simp only[qxp,beq_self_eq_true,beq_iff_eq];omega
 .unfold readEs entsTo;rw[hof];have:(List.range (needN E.length)).flatMap (fun i=>pgEnts (l.getD i zB))=(List.range (needN E.length)).flatMap (partE E):=by
   rw[List.flatMap_def,List.flatMap_def]
   congr 1
   apply List.map_congr_left;intro i hi;obtain⟨-,-,-,-,-,b6⟩:=xy hs hE hn (k:=i) (qzx.1 hi);rw[<-hpg i (qzx.1 hi)]at b6;exact b6
  rw[this,Xj,qXp (by unfold needN;omega)]
theorem rl:okP zB=false:=by kernel_rfl
theorem Tk{H:Nat->List Ent}{top:Nat}(htop:top<=1099511627776)(hE:∀s≤top,∀x∈H s,qJ x)(hn:∀s≤top,needN (H s).length<=256){l:List Bk}
  (hl:∀i<l.length,okP (l.getD i zB)=false\/∃s≤top,i<needN (H s).length/\l.getD i zB=sectP (pageXs s (needN (H s).length) (H s) i)) (hok:readOk l=true):
  ∃s≤top,readSeq l=s/\readEs l=H s/\needN (H s).length<=l.length/\∀i<l.length,l.getD i zB=(pagesB s (H s)).getD i zB:=by
 have hok':=hok;unfold readOk at hok;rw[qxo,qxo,qxw]at hok;obtain⟨h0,hle,hall⟩:=hok;have hle:=of_decide_eq_true hle;have hpos:0<l.length:=by
  rcases qXt l.length with h|h
  .rw [List.length_eq_zero_iff.1 h]at h0;rw[show([]:List Bk).getD 0 zB=zB from rfl,rl]at h0;cases h0
  .exact h
 rcases hl 0 hpos with h|⟨s,hs,hk,e⟩
 .rw [h]at h0;cases h0
 obtain⟨a1,a2,a3,a4,a5,a6⟩:=xy (qXx hs htop) (hE s hs) (hn s hs) hk;rw[<-e]at a1 a2 a3 a4 a5 a6;have hof:readOf l=needN (H s).length:=a4;have hsq:readSeq l=s:=a2;have hget:∀i<l.length,l.getD i zB=(pagesB s (H s)).getD i zB:=by
  intro i hi;have hg:=hall i (qzx.2 hi);unfold goesP at hg;rw[hof,hsq]at hg;split at hg
  .next hge=>
   rw[beq_iff_eq.1 hg,qyh,qyo (by rw[pagesB,xf];exact hge)];rfl
  .next hge=>
   simp only[qxo,beq_iff_eq]at hg;obtain⟨g1,g2,g3,g4,-⟩:=hg;rcases hl i hi with h|⟨t,ht,hkt,et⟩
   .rw [h]at g1;cases g1
   obtain⟨b1,b2,-⟩:=xy (qXx ht htop) (hE t ht) (hn t ht) hkt;rw[<-et]at b2;have:t=s:=by rw[<-b2,g2]
   subst this;rw[et,pagesB,zY,qyh,qyq,qyr hkt];rfl
 refine⟨s,hs,hsq,?_,by rw[<-hof];exact hle,hget⟩;exact(wy (qXx hs htop) (hE s hs) (hn s hs) (by rw[<-hof];exact hle) hget).2.2
theorem Rz(w:World):(sizeOf 5).run prog w=.ok 1 w:=by
 obtain⟨i,hi,hs⟩:=qYi.1 (show(prog.info? 5).map (·.size)=some 1 by kernel_rfl);simp[sizeOf,typeInfo,hi,hs]
theorem run_eql_bk(x y:Bk)(hx:x.length=64)(hy:y.length=64)(w:World):(binOp .eql 54 (.agg (bkC x).toArray) (.agg (bkC y).toArray)).run prog w=.ok (.bool (x==y)) w:=
 run_eql_bytes w 54 5 64 underlying54 underlying5 Rz x y hx hy
theorem run_neq_bk(x y:Bk)(hx:x.length=64)(hy:y.length=64)(w:World):(binOp .neq 54 (.agg (bkC x).toArray) (.agg (bkC y).toArray)).run prog w=.ok (.bool (!(x==y))) w:=by
 have e:(Op.equalIn 10000 54 (.agg (bkC x).toArray) (.agg (bkC y).toArray)).run prog w=.ok (x==y) w:=run_equalIn_bytes w 9998 54 5 64 underlying54 underlying5 Rz x y hx hy;rw[run_neq_struct,e];rfl
theorem Xk:∃i z,prog.info? 37=some i/\i.zero=some z/\z.cells.size=4/\i.size=4/\i.bytes=32:=by
 have h:(prog.info? 37).map (fun i=>(i.zero.map (·.cells.size),i.size,i.bytes))=some (some 4,4,32):=by kernel_rfl
 obtain⟨i,hi,he⟩:=qYi.1 h;simp only[qYk]at he;obtain⟨z,hz,hz2⟩:=qYi.1 he.1;exact⟨i,z,hi,hz,hz2,he.2.1,he.2.2⟩
theorem tK{w:World}{g o:Nat}{l:List Bk}(h:∀j u,(rowC l)[j]?=some u->w.cell? ⟨g,o+j,none⟩=some u)(hl:All64 l){k:Nat}(hk:k<l.length):w.rangeAt g (o+k*64) (bkC (l.getD k zB)):=by
 intro j v hj;have e:l.getD k zB=l[k]:=by rw[qyh,qyn hk];rfl
 rw[e]at hj;have hj':=(qyp.1 hj).1;rw[zn,hl _ (qyz hk)]at hj';rw[qXr];exact h _ v ((vU hl hk hj').trans hj)
def EntsOut(w:World)(l:List Bk)(e:Ending)(w':World):Prop:=
 ∃v,e=.returned (.tuple #[.int .i64 ((if readOk l then readSeq l else 0:Nat):Int),v,.bool (readOk l)])/\Sl w' 37 4 v (if readOk l then readEs l else[]).length ((if readOk l then readEs l else[]).flatMap entC)/\From w.heap.size v/\Below w.heap.size w w'
theorem EntsOut.no{w w':World}{l:List Bk}(h:readOk l=false)(hb:Below w.heap.size w w'):EntsOut w l (.returned (.tuple #[.int .i64 0,.slice none 0 0,.bool false])) w':=
 ⟨.slice none 0 0,by rw[h];rfl,by rw[h];exact Sl.nil _ _ _,From.nil _ _ _,hb⟩
theorem RB{b:Bk}(h:okP b=false):(cdP b==0)=false:=by
 unfold okP at h;unfold cdP xe;rw[h];split
 .next h=>cases h
 .split<;>decide
theorem RD{b:Bk}(h:okP b=true):cdP b=0:=by
 unfold okP at h;unfold cdP xe;rw[h];rfl
theorem tL(l:List Bk)(k:Nat):entsTo l (k+1)=entsTo l k++pgEnts (l.getD k zB):=by simp[entsTo,List.range_succ]
theorem ZT{l:List Bk}{k:Nat}(hk:k<l.length)(h:goesP (readSeq l) (readOf l) k (l.getD k zB)=false):readOk l=false:=by
 rw[<-Bool.not_eq_true];intro e;unfold readOk at e;rw[qxo,qxo,qxw]at e;have:=e.2.2 k (qzx.2 hk);rw[h]at this;cases this
theorem sX{l:List Bk}{of:Nat}(h:∀i,i<of->okP (l.getD i zB)=true):∀k,k<=of->(entsTo l k).length<=4*k
 |0,_=>qXv _
 |k+1,hk=>by
  rw[tL,qzd];have h1:=sX h k (by omega);have h2:=(yC (h k (by omega))).2.2.2.2;have:(pgEnts (l.getD k zB)).length=pgMany (l.getD k zB):=by simp[pgEnts]
  omega
theorem RE{w:World}{v:Value}{l:List Bk}(hs:Rd w 64 v l.length (rowC l))(hl:All64 l)(hpos:0<l.length)(hl1:l.length<=4096)(hN:Nib w):Calls prog 99 #[v] w (EntsOut w l):=by
 obtain⟨g,o,cap,rfl,hg,hrow⟩:=hs.at hpos;have hr0:=tK hrow hl hpos;rw[qYg,qXs]at hr0;have h64:∀k,(l.getD k zB).length=64:=fun k=>by
  rw[qyh];cases h:l[k]? with
  |none=>rfl
  |some x=>exact hl x (List.mem_of_getElem? h)
 obtain⟨b0,hb0⟩:=qqe (l.getD 0 zB);have h640:b0.length=64:=by rw[hb0];exact h64 0
 rw[<-hb0]at hr0;have HG:=qqh (Xa hN b0 h640);have q0:(0:Int)<(l.length:Int):=by omega
 have hsz:=zw b0 h640;obtain⟨Z,hZ⟩:=qqe (dsPk [] 0);have hal:=VC;simp only[<-hZ]at hal;have hZl:Z.toArray.size=20:=by rw[hZ,qXm,xU]
 have HR:=Y7 hrow hl h64 hN hb0 hal hZl;clear hrow hl h64 hN hb0 hs hZ hZl;go_enter func99,ntmps99
 go_wp2
 go_step3
 go_wp2_with (first
  |(refine qZg rfl _ _ rfl _ _ rfl _ _ hr0 underlying54 rfl hsz ?_)
  |fail)
 refine HG.o.mono ?_;rintro e w1 ⟨⟨rs,hr1,hr2,rfl⟩,hb1⟩;have hrl:rs.length=20/\∀v∈rs,v.oneCell'=true:=by
  cases hk:okP b0 with
  |true=>rw[hr1 hk];exact⟨vq _,vr _⟩
  |false=>rw[hr2 hk];exact⟨rfl,qxw.1 (by simp[vI,Value.oneCell']:vI.all (·.oneCell')=true)⟩
 obtain⟨w2,hw2⟩:=qqe (w1.alloc (.cells rs.toArray 280));have hu2:Upd (fun _=>False) w w2:=by rw[hw2];exact(uuo hb1).alloc _
 have g2:=qqg hw2;have z2:w2.heap.size=w1.heap.size+1:=by rw[hw2];simp
 have hge:=hb1.size;have HW:=Y2 hw2 hrl;have H2:=Y4 hu2 g2 z2 hge;clear hu2 g2 z2 hge hw2 hb1 hr0;obtain⟨P,hP⟩:=qqe (w1.heap.size);rw[<-hP]at H2;go_upto_region 2 with(first
  |(refine zZ rfl _ rfl _ hal ?_)
  |(refine zk rfl _ _ _ rfl _ _ rs rfl rfl (by rw[HW.o.2.1];exact HR.o.2.2.2.2.2.2) (by rw[HW.o.2.1];exact wK) HW.o.2.2 ?_)
  |fail)
 rw[<-HW.o.1,<-hP];have HP:=qqh hP;clear hP;cases hok:okP b0 with
 |false=>
  have q1:=RB hok;have hno:readOk l=false:=by unfold readOk;rw[<-HR.o.2.2.2.2.1,hok];rfl
  generalize cdP b0=cd at*;have HN:=qqh hno;have q2:¬cd=0:=by simpa using q1
  clear hok hno hr1 hr2;go_wp2_with fail
  rw[qxr];exact qYw (v:=.tuple #[.int .i64 0,.slice none 0 0,.bool false]) (by simp[results,results99,go_sem]) rfl (EntsOut.no HN.o (Upd.below H2.o.1))
 |true=>
  have hcd:=RD hok;rw[hcd];obtain⟨hu2,g2,z2,hge⟩:=H2.o;rw[hr1 hok]at g2;obtain⟨c0,c1,c2,c3,cr⟩:=Xi g2 hok;obtain⟨-,-,ho1,ho2,-⟩:=yC hok;have hof:readOf l=pgOf b0:=by unfold readOf;rw[HR.o.2.2.2.2.1]
  have hsq:readSeq l=pgSeq b0:=by unfold readSeq;rw[HR.o.2.2.2.2.1]
  rw[<-hof]at c2 ho1 ho2;rw[<-hsq]at c0;have HB:=Y5 g2 c0 ho1 ho2 hok;clear g2 c0 c1 c3 cr hof hsq hcd hr1 hr2 hok hu2 z2 hge ho1 ho2;by_cases hle:readOf l<=l.length
  .have q2:¬((l.length:Int)<(readOf l:Int)):=by omega
   go_wp2_with fail
   go_step3
   go_wp2_with fail
   go_loopg[7,8,32] l.length (fun gk s7 s8 s32 wr=>∃k:Nat,k+gk=l.length/\s32=.int .i64 (k:Int)/\s8=.bool true/\Sl wr 37 4 s7 (entsTo l (min k (readOf l))).length ((entsTo l (min k (readOf l))).flatMap entC)/\From (P+1) s7/\Upd (fun j=>P+1<=j) w2 wr/\∀i<k,goesP (readSeq l) (readOf l) i (l.getD i zB)=true)
   case atStart=>exact⟨0,by omega,rfl,rfl,by rw[Nat.zero_min];exact Sl.nil _ _ _,From.nil _ _ _,uur _ _,fun i h=>by omega⟩
   case round=>
    obtain⟨k,hk,rfl,rfl,hsl,hfr,hu,hall⟩:=hrel;obtain⟨hrow,hl,h64,hN,hb0,hal',hZl⟩:=HR.o;obtain⟨hu2,g2,z2,hge⟩:=H2.o;obtain⟨gg2,c0,ho1,ho2,hok⟩:=HB.o;have hout:∀j,j<=P->¬(P+1<=j):=fun j hj=>by omega
    have d0:=hu.ja c0 (hout _ (qXv _));have d2:=hu.ja c2 (hout _ (qXv _));have hU:Upd (fun j=>w.heap.size<=j) w wr:=(hu2.mono (fun _ _ h=>h.elim)).trans (hu.mono (fun j _ (h:P+1<=j)=>by omega));by_cases hlt:k<l.length
    .have k1:(k:Int)<(l.length:Int):=by omega
     have k0:(0:Int)<=(k:Int):=by omega
     obtain⟨bk,hbk⟩:=qqe (l.getD k zB);have hbl:bk.length=64:=by rw[hbk];exact h64 k
     have hr1:=tK hrow hl hlt;rw[<-hbk]at hr1;have hrk:wr.rangeAt g (o+k*64) (bkC bk):=hU.range hr1 (by omega);have hszk:=zw bk hbl;obtain⟨w3,hw3⟩:=qqe (wr.alloc (.cells (bkC bk).toArray 54));have hu3:=qqu hw3;have g3:=qqg hw3;have r3:=zh g3;have e0:=hu3.ja d0 (fun h=>h);have e2:=hu3.ja d2 (fun h=>h);have hst:=zv bk;have HW3:=qqh hw3;have hzr:P+1<=wr.heap.size:=by have:=hu.size;omega
     have H3:=Y11 hu3 hsl hfr hu hall hU hN ho1 ho2 hk hzr;obtain⟨q,hq⟩:=qqe (wr.heap.size);have HQ:=qqh hq;have HBK:=Y2 hbk hb0;have hx8:(bkC bk).toArray.size=64:=zo _ hbl;rw[<-hq]at r3;have hb3:Below w.heap.size w w3:=(zl (qxl _ w) hU (qXv _) (fun _ h=>h)).trans ((Upd.below hu3).mono hU.size);have HE:=qqh hb3;clear hw3 hu3 g3 hu2 g2 z2 hge gg2 c0 ho1 ho2 hok d0 d2 hr1 hsl hfr hu hall hU hN hal' hrow hl h64 hZl hzr hq hb3 hbk hb0;go_upto_region 9 with(first
      |(refine qZg rfl _ _ rfl _ _ rfl _ _ hrk underlying54 rfl hszk ?_)
      |(refine zk rfl _ _ _ rfl _ _ (bkC bk) rfl rfl (by rw[zn,hbl];rfl) hszk hst ?_)
      |fail)
     rw[<-HW3.o,<-HQ.o];by_cases hof:readOf l<=k
     .have hgo:goesP (readSeq l) (readOf l) k bk=(bk==zB):=by unfold goesP;rw[if_pos hof]
      have q3:((readOf l:Nat):Int)<=(k:Int):=by omega
      have hneq:=fun W=>run_neq_bk bk zB hbl zH W;obtain⟨ZB,hZB⟩:=qqe (zB);have hbz:=xZ ZB hZB;rw[<-hZB]at hneq hgo;have HZB:=qqh hZB;clear hZB;by_cases hz:bk=ZB
      .have qz:(bk==ZB)=true:=by simp[hz]
       rw[qz]at hneq hgo;have HGO:=qqh hgo;clear hgo hz;go_wp2_with (first
        |(refine qZg rfl _ _ rfl _ _ rfl _ _ r3 underlying54 rfl hszk ?_)
        |(refine yg rfl rfl hbz ?_)
        |fail)
       go_roundg (gk-1)
       case measure=>omega
       case rel=>
        obtain⟨hu3,hsl,hfr,hu,hall,hU,hN,ho1,ho2,hk,hzr⟩:=H3.o;refine⟨k+1,by omega,by go_num,rfl,?_,hfr,hu.trans (hu3.mono (fun _ _ h=>h.elim)),fun i hi=>?_⟩
        .rw [Nat.min_eq_right hof]at hsl;rw[Nat.min_eq_right (by omega)];exact hsl.keep hu3 (fun _ _ h=>h)
        .rcases Nat.lt_succ_iff_lt_or_eq.1 hi with h|rfl
         .exact hall i h
         .rw [<-HBK.o.1];exact HGO.o
      .have qz:(bk==ZB)=false:=by simpa using hz
       rw[qz]at hneq hgo;have HN:=qqh (ZT hlt (HBK.o.1▸hgo));clear hgo hz;go_wp2_with (first
        |(refine qZg rfl _ _ rfl _ _ rfl _ _ r3 underlying54 rfl hszk ?_)
        |(refine yg rfl rfl hbz ?_)
        |fail)
       rw[qxr];exact qYw (v:=.tuple #[.int .i64 0,.slice none 0 0,.bool false]) (by simp[results,results99,go_sem]) rfl (EntsOut.no HN.o HE.o)
     .have q3:¬(((readOf l:Nat):Int)<=(k:Int)):=by omega
      have hgo:goesP (readSeq l) (readOf l) k bk=(okP bk&&(pgSeq bk==readSeq l&&(pgNo bk==k&&(pgOf bk==readOf l&&(if k+1=readOf l then !(pgMany bk==0&&decide (0<k))else pgMany bk==4))))):=by unfold goesP;rw[if_neg hof]
      have hGP:=qqh (Xa (H3.o.2.2.2.2.2.2.1.keep (S:=fun j=>w.heap.size<=j) (H3.o.2.2.2.2.2.1.trans (H3.o.1.mono (fun _ _ h=>h.elim))) (fun h=>by have:=H3.o.2.2.2.2.2.2.1.lt;omega)) bk hbl);go_wp2_with (first
       |(refine qZg rfl _ _ rfl _ _ rfl _ _ r3 underlying54 rfl hszk ?_)
       |fail)
      refine hGP.out.mono ?_;rintro e w4 ⟨⟨rs',hr1,hr2,rfl⟩,hb4⟩;have hrl':rs'.length=20/\∀v∈rs',v.oneCell'=true:=by
       cases hk:okP bk with
       |true=>rw[hr1 hk];exact⟨vq _,vr _⟩
       |false=>rw[hr2 hk];exact⟨rfl,qxw.1 (by simp[vI,Value.oneCell']:vI.all (·.oneCell')=true)⟩
      obtain⟨w5,hw5⟩:=qqe (w4.alloc (.cells rs'.toArray 280));have hu5:Upd (fun _=>False) w3 w5:=by rw[hw5];exact(uuo hb4).alloc _
      have g5:=qqg hw5;have hz5:w5.heap.size=w4.heap.size+1:=by rw[hw5];simp
      have f0:=hu5.ja e0 (fun h=>h);have f2:=hu5.ja e2 (fun h=>h);have HW5:=Y2 hw5 hrl';obtain⟨M,hM⟩:=qqe (w4.heap.size);rw[<-hM]at g5;have hb5:Below w.heap.size w w5:=HE.o.trans ((Upd.below hu5).mono HE.o.size);have HE5:=Y5 hb5 hu5 hz5 hM hb4.size;have HM:=qqh hM;clear hw5 hrl' hb4 hu5 hz5 hb5 e0 e2 hM r3;go_upto_region 13 with(first
       |(refine zZ rfl _ rfl _ hal ?_)
       |(refine zk rfl _ _ _ rfl _ _ rs' rfl rfl (by rw[HW5.o.2.1];exact HR.o.2.2.2.2.2.2) (by rw[HW5.o.2.1];exact wK) HW5.o.2.2 ?_)
       |fail)
      rw[<-HW5.o.1,<-HM.o];cases hok:okP bk with
      |false=>
       have q4:=RB hok;rw[hok]at hgo;have HN:=qqh (ZT hlt (HBK.o.1▸hgo));generalize cdP bk=cd at*;have q5:¬cd=0:=by simpa using q4
       clear hok hgo hr1 hr2;go_wp2_with fail
       rw[qxr];exact qYw (v:=.tuple #[.int .i64 0,.slice none 0 0,.bool false]) (by simp[results,results99,go_sem]) rfl (EntsOut.no HN.o HE5.o.1)
      |true=>
       rw[RD hok];rw[hr1 hok]at g5;obtain⟨y0,y1,y2,y3,yr⟩:=Xi g5 hok;rw[hok,qxp]at hgo;have hmany:=(yC hok).2.2.2.2;have hel:(pgEnts bk).length=pgMany bk:=by simp[pgEnts]
       obtain⟨pe,hpe⟩:=qqe (pgEnts bk);rw[<-hpe]at yr hel;have HPE:=qqh hpe;generalize pgSeq bk=a0 at*;generalize pgNo bk=a1 at*;generalize pgOf bk=a2 at*;generalize pgMany bk=a3 at*;clear hr1 hr2 hok g5 hpe;have hgn:goesP (readSeq l) (readOf l) k bk=false->readOk l=false:=fun h=>ZT hlt (HBK.o.1▸h);have hfin:goesP (readSeq l) (readOf l) k bk=true->∀v' w6,Sl w6 37 4 v' ((entsTo l k).length+a3) ((entsTo l k).flatMap entC++pe.flatMap entC)->Upd (ownS u7) w5 w6->blockFrom w5 u7 v'->
         Sl w6 37 4 v' (entsTo l (min (k+1) (readOf l))).length ((entsTo l (min (k+1) (readOf l))).flatMap entC)/\From (P+1) v'/\Upd (fun j=>P+1<=j) w2 w6/\∀i<k+1,goesP (readSeq l) (readOf l) i (l.getD i zB)=true:=by
        intro hg v' w6 hs6 hu6 hb6;obtain⟨hu3,hsl,hfr,hu,hall,hU,hN,ho1,ho2,hk,hzr⟩:=H3.o;obtain⟨hb5,hu5,hz5,hM,hMs⟩:=HE5.o;refine⟨?_,hb6.ge (by have:=hu3.size;have:=hu5.size;omega) hfr,(hu.trans (((hu3.trans hu5).mono (fun _ _ h=>h.elim)))).trans (hu6.mono (fun j _ hj=>hfr j hj)),fun i hi=>?_⟩
        .rw [Nat.min_eq_left (by omega),tL,qzd,qyf,<-HBK.o.1,<-HPE.o,hel];exact hs6
        .rcases Nat.lt_succ_iff_lt_or_eq.1 hi with h|rfl
         .exact hall i h
         .rw [<-HBK.o.1];exact hg
       have hsl5:Sl w5 37 4 u7 (entsTo l k).length ((entsTo l k).flatMap entC):=by
        have:=H3.o.2.1;rw[Nat.min_eq_left (by omega)]at this;exact this.keep (H3.o.1.trans HE5.o.2.1) (fun _ _ h=>h)
       have hel4:(entsTo l k).length<=4*k:=by
        refine sX (of:=k) (fun i hi=>?_) k (qXv _);have:=H3.o.2.2.2.2.1 i hi;unfold goesP at this;rw[if_neg (by omega)]at this;exact(qxo _ _▸this).1
       have hrd:Rd w5 4 (.slice (some ⟨M,4,none⟩) a3 a3) a3 (pe.flatMap entC):=by
        refine⟨by rw[xR,hel],by unfold maxLen;omega,some ⟨M,4,none⟩,a3,rfl,(fun h=>by cases h),(fun b hb=>?_)⟩;cases hb;intro j u hj;rw[qxa];exact yr j u hj
       have hpe1:∀u∈pe.flatMap entC,u.oneCell'=true:=fun u hu=>by
        obtain⟨x,-,hx⟩:=qzu.1 hu;exact YE x u hx
       have hofe:1<=readOf l/\readOf l<=256:=⟨HB.o.2.2.1,HB.o.2.2.2.1⟩
       obtain⟨ie,ze,hie,hze,hz4,hi4,hi32⟩:=Xk;have HF:=Y5 hfin hsl5 hrd hpe1 hel4;have HGN:=qqh hgn;clear hgn hfin hsl5 hrd hpe1 hel4 yr hel;generalize goesP (readSeq l) (readOf l) k bk=gb at*;generalize readSeq l=S0 at*;generalize readOf l=F0 at*;by_cases h0:a0=S0
       .subst h0;by_cases h1:a1=k
        .subst h1;by_cases h2:a2=F0
         .subst h2;simp only[beq_self_eq_true,qxp]at hgo;by_cases hl:a1+1=a2
          .subst hl;rw[if_pos rfl]at hgo;by_cases h3:a3=0
           .subst h3;by_cases h4:0<a1
            .have q6:((0:Nat):Int)<(a1:Int):=by omega
             have HN:=qqh (HGN.o (by rw[hgo,qYy h4];rfl));clear hgo;go_wp2_with fail
             rw[qxr];exact qYw (v:=.tuple #[.int .i64 0,.slice none 0 0,.bool false]) (by simp[results,results99,go_sem]) rfl (EntsOut.no HN.o HE5.o.1)
            .have q6:¬((0:Nat):Int)<(a1:Int):=by omega
             rw[decide_eq_false h4]at hgo;replace hgo:gb=true:=hgo;have HF2:=qqh (HF.o.1 hgo);have HS:=Y4 HF.o.2.1 HF.o.2.2.1 HF.o.2.2.2.1 HF.o.2.2.2.2;clear hgo;go_wp2_with (first
              |(at_builtin;refine zD rfl _ _ 22 rfl ie ze 32 underlying22 hie hze hi4 hi32 hz4 (by decide) rfl HS.o.1 _ _ (pe.flatMap entC) rfl HS.o.2.1 HS.o.2.2.1 (by unfold maxLen;have:=HS.o.2.2.2;omega) (by have:=HS.o.2.2.2;omega) ?_)
              |fail)
             intro v' w6 hs6 hu6 hb6;have HZ:=qqh (HF2.o v' w6 hs6 hu6 hb6);clear hs6 hu6 hb6;go_wp2_with fail
             go_roundg (gk-1)
             case measure=>have:=H3.o.2.2.2.2.2.2.2.2.2.1;omega
             case rel=>exact⟨a1+1,by have:=H3.o.2.2.2.2.2.2.2.2.2.1;omega,by go_num,rfl,HZ.o.1,HZ.o.2.1,HZ.o.2.2.1,HZ.o.2.2.2⟩
           .have q6:¬((a3:Nat):Int)=0:=by omega
            have b1:(0:Int)<=(a3:Int):=by omega
            have b2:(a3:Int)<=4:=by omega
            rw[show(a3==0)=false by simpa using h3]at hgo;replace hgo:gb=true:=hgo;have HF2:=qqh (HF.o.1 hgo);have HS:=Y4 HF.o.2.1 HF.o.2.2.1 HF.o.2.2.2.1 HF.o.2.2.2.2;clear hgo;go_wp2_with (first
             |(at_builtin;refine zD rfl _ _ 22 rfl ie ze 32 underlying22 hie hze hi4 hi32 hz4 (by decide) rfl HS.o.1 _ _ (pe.flatMap entC) rfl HS.o.2.1 HS.o.2.2.1 (by unfold maxLen;have:=HS.o.2.2.2;omega) (by have:=HS.o.2.2.2;omega) ?_)
             |fail)
            intro v' w6 hs6 hu6 hb6;have HZ:=qqh (HF2.o v' w6 hs6 hu6 hb6);clear hs6 hu6 hb6;go_wp2_with fail
            go_roundg (gk-1)
            case measure=>have:=H3.o.2.2.2.2.2.2.2.2.2.1;omega
            case rel=>exact⟨a1+1,by have:=H3.o.2.2.2.2.2.2.2.2.2.1;omega,by go_num,rfl,HZ.o.1,HZ.o.2.1,HZ.o.2.2.1,HZ.o.2.2.2⟩
          .rw [if_neg hl]at hgo;have q5:¬((a1:Nat):Int)=(a2:Int)-1:=by omega
           by_cases h3:a3=4
           .subst h3;replace hgo:gb=true:=hgo;have HF2:=qqh (HF.o.1 hgo);have HS:=Y4 HF.o.2.1 HF.o.2.2.1 HF.o.2.2.2.1 HF.o.2.2.2.2;clear hgo;go_wp2_with (first
             |(at_builtin;refine zD rfl _ _ 22 rfl ie ze 32 underlying22 hie hze hi4 hi32 hz4 (by decide) rfl HS.o.1 _ _ (pe.flatMap entC) rfl HS.o.2.1 HS.o.2.2.1 (by unfold maxLen;have:=HS.o.2.2.2;omega) (by have:=HS.o.2.2.2;omega) ?_)
             |fail)
            intro v' w6 hs6 hu6 hb6;have HZ:=qqh (HF2.o v' w6 hs6 hu6 hb6);clear hs6 hu6 hb6;go_wp2_with fail
            go_roundg (gk-1)
            case measure=>have:=H3.o.2.2.2.2.2.2.2.2.2.1;omega
            case rel=>exact⟨a1+1,by have:=H3.o.2.2.2.2.2.2.2.2.2.1;omega,by go_num,rfl,HZ.o.1,HZ.o.2.1,HZ.o.2.2.1,HZ.o.2.2.2⟩
           .have q6:¬((a3:Nat):Int)=4:=by omega
            have HN:=qqh (HGN.o (by rw[hgo];simpa using h3));clear hgo;go_wp2_with fail
            rw[qxr];exact qYw (v:=.tuple #[.int .i64 0,.slice none 0 0,.bool false]) (by simp[results,results99,go_sem]) rfl (EntsOut.no HN.o HE5.o.1)
         .have q6:¬((a2:Nat):Int)=(F0:Int):=by omega
          have q7:(a2==F0)=false:=by simpa using h2
          simp only[beq_self_eq_true,qxp]at hgo;rw[q7]at hgo;have HN:=qqh (HGN.o hgo);clear hgo;go_wp2_with fail
          rw[qxr];exact qYw (v:=.tuple #[.int .i64 0,.slice none 0 0,.bool false]) (by simp[results,results99,go_sem]) rfl (EntsOut.no HN.o HE5.o.1)
        .have q6:¬((a1:Nat):Int)=(k:Int):=by omega
         have q7:(a1==k)=false:=by simpa using h1
         simp only[beq_self_eq_true,qxp]at hgo;rw[q7]at hgo;have HN:=qqh (HGN.o hgo);clear hgo;go_wp2_with fail
         rw[qxr];exact qYw (v:=.tuple #[.int .i64 0,.slice none 0 0,.bool false]) (by simp[results,results99,go_sem]) rfl (EntsOut.no HN.o HE5.o.1)
       .have q6:¬((a0:Nat):Int)=(S0:Int):=by omega
        have q7:(a0==S0)=false:=by simpa using h0
        rw[q7]at hgo;have HN:=qqh (HGN.o hgo);clear hgo h0;go_wp2_with fail
        rw[qxr];exact qYw (v:=.tuple #[.int .i64 0,.slice none 0 0,.bool false]) (by simp[results,results99,go_sem]) rfl (EntsOut.no HN.o HE5.o.1)
    .obtain rfl:k=l.length:=by omega
     have k1:¬((l.length:Int)<(l.length:Int)):=by omega
     have hro:readOk l=true:=by
      unfold readOk;rw[<-hb0,hok,qYy hle,qxp,qxp,qxw];exact fun i hi=>hall i (qzx.1 hi)
     rw[Nat.min_eq_right hle]at hsl;have hz:EntsOut w l (.returned (.tuple #[.int .i64 (readSeq l:Int),u7,.bool true])) wr:=
      ⟨u7,by rw[hro];rfl,by rw[hro];exact hsl,hfr.mono (by omega),zl (qxl _ w) hU (qXv _) (fun _ h=>h)⟩
     have HZ:=qqh hz;clear hz hro hsl hfr hu hall hU hrow hl h64 hN hb0 hal' hZl hu2 g2 z2 hge gg2 ho1 ho2 hok;go_wp2_with fail
     try rw[qxr]
     exact qYw (v:=.tuple #[.int .i64 (readSeq l:Int),u7,.bool true]) (by simp[results,results99,go_sem]) rfl HZ.o
  .have q2:((l.length:Int)<(readOf l:Int)):=by omega
   have hno:readOk l=false:=by unfold readOk;rw[decide_eq_false hle];simp
   have HN:=qqh hno;clear hno hle;go_wp2_with fail
   rw[qxr];exact qYw (v:=.tuple #[.int .i64 0,.slice none 0 0,.bool false]) (by simp[results,results99,go_sem]) rfl (EntsOut.no HN.o (Upd.below H2.o.1))
def Stop(G:Prop):Prop:=G
theorem Stop.i{G:Prop}(h:Stop G):G:=h
end Go.Proofs.YtfhfbpmlnjdfoaaGreatDoor
