/- attach.Entries -/
import Derived.Test.YtpejdgiccaijfaaGreatDoorG28
import Derived.Test.YtpejdgiccaijfaaGreatDoorG29
import Derived.Test.YtpejdgiccaijfaaGreatDoorG25
set_option maxRecDepth 100000
set_option maxHeartbeats 2000000
namespace Go.Proofs.YtpejdgiccaijfaaGreatDoor
open Go Go.RowKit Go.Shelf Go.Lib Tryz
def Uq(S:Nat->Prop)(w:World)(b:Nat)(F:List Bk)(O:List (Nat×Bk))(jo pa:Nat)(e:Ending)(w':World):Prop:=
 ∃(v:Value) (L:List EI) (wh sq:Nat) (c:Int),e=.returned (.tuple #[.int .i64 (wh:Int),.int .i64 (sq:Int),v,.int .i64 c])/\Sl w' 155 4 v L.length (L.flatMap EI.cs)/\From w.heap.size v/\Dv (fun j=>S j/\∀g,v.ownBlock=some g->g≠j) w' b F O []/\Upd S w w'/\
  ((c=14/\L=[]/\(nwS F O 1 pa 2).1=false)\/
   (nwS F O 1 pa 2).1=true/\∃R:List (List Nat),R.Perm (scanTo F O (1+2*pa) jo jo)/\R.Pairwise (fun x y=>rseq x<=rseq y)/\
    ∃r:RepS,r=repS R (nwS F O 1 pa 2).2.2.1/\
    ((c=12/\L=[]/\(¬(((nwS F O 1 pa 2).2.2.2.map Ent.toI).map EI.b).Nodup\/∃L0,Lists (apRs (apM ((nwS F O 1 pa 2).2.2.2.map Ent.toI)) (r.d.map natsI)) L0/\¬(L0.map EI.s).Nodup))\/
    (c=0/\wh=(nwS F O 1 pa 2).2.1/\sq=r.g/\Lists (apRs (apM ((nwS F O 1 pa 2).2.2.2.map Ent.toI)) (r.d.map natsI)) L/\(L.map EI.s).Nodup/\L.Pairwise (fun x y=>x.b<y.b))))
theorem Sy{S:Nat->Prop}{w:World}{b:Nat}{F:List Bk}{O:List (Nat×Bk)}(hd:Dv S w b F O [])(hn:∀j,w.heap.size<=j->S j)(hN:Nib w)(hgS:¬S 0)
  (id:Int) (bl sl jo pa lo ba:Nat) (b1:1<=bl) (b2:bl<=4096) (s1:1<=sl) (s2:sl<=1024) (j1:4<=jo) (j2:jo<=1024) (l1:1<=lo) (l2:lo<=1024) (a1:1<=ba) (a2:ba<=64) (p1:(sl-1)/4+1<=pa) (p2:pa<=4096)
  (hz:1+2*pa+jo+lo+lo+lo+sl<=4096) (hF:F.length=1+2*pa+jo+lo+lo+lo+sl):
  Calls prog 85 #[.agg (superC id bl sl jo pa lo ba).toArray,.pointer (some ⟨b,0,none⟩)] w (Uq S w b F O jo pa):=by
 obtain⟨w1,hw1⟩:=qqe (w.alloc (.cells (superC id bl sl jo pa lo ba).toArray 44));have HP:=qqh (un id bl sl jo pa lo ba b1 b2 s1 s2 j1 j2 l1 l2 a1 a2 p1 p2 hz w1);have HW:=qqh hw1;have H:=Y4 hd hn hN hgS;clear hd hn hN hgS hw1;go_enter func85,ntmps85
 go_wp2_with fail
 rw[<-HW.o];refine HP.o.mono ?_;rintro e w2 ⟨rfl,hb2⟩;have hu1:Upd (fun _=>False) w w1:=by rw[HW.o];exact(uur _ w).alloc _
 have hu2:Upd (fun _=>False) w w2:=hu1.trans (uuo hb2);have g1:w1.heap[w.heap.size]?=some (.cells (superC id bl sl jo pa lo ba).toArray 44 (0,0)):=by rw[HW.o];exact zc w _ rfl
 obtain⟨q,hq⟩:=qqe (w.heap.size);obtain⟨w3,hw3⟩:=qqe (w2.alloc (.cells (layC sl jo pa lo).toArray 73));have hu3:Upd (fun _=>False) w w3:=by rw[hw3];exact hu2.alloc _
 have hu23:=qqu hw3;have gm:=qqg hw3;have z3:w3.heap.size=w2.heap.size+1:=by rw[hw3];simp
 have gq:=hu23.jT ((uuo (S:=fun _=>False) hb2).jT g1);have hsz:w.heap.size<w2.heap.size:=by have:=hb2.size;have:=zd g1;omega
 obtain⟨m,hm⟩:=qqe (w2.heap.size);have dv3:Dv (fun j=>(S j/\j<w.heap.size)\/w3.heap.size<=j) w3 b F O []:=((H.o.1.ku (T:=fun j=>S j/\j<w.heap.size) (fun j h1 h2=>⟨h1,h2⟩)).keep hu3 (fun _ _ h=>h)).wide (fun j h=> .inl h);have hN3:Nib w3:=H.o.2.2.1.keep hu3 (fun h=>h);have HNw:=qqh (EC dv3 (fun j hj=> .inr hj) 1 pa oM oM hN3 (fun h=>by rcases h with h|h;exact H.o.2.2.2 h.1;have:=hN3.lt;omega));have HL:=Y3 hw3 hm hq;rw[<-hq]at gq;rw[<-hm]at gm;have c3:w3.cell? ⟨q,3,none⟩=some (.int .i64 (jo:Int)):=za gq 3;have c4:w3.cell? ⟨q,4,none⟩=some (.int .i64 (pa:Int)):=za gq 4;have m0:w3.cell? ⟨m,0,none⟩=some (.int .i64 1):=za gm 0;have m1:w3.cell? ⟨m,1,none⟩=some (.int .i64 (1+2*(pa:Int))):=za gm 1;have H3:=Y7 hu3 dv3 hN3 z3 hsz gq gm;clear hu1 hu2 hu3 hu23 g1 gm z3 gq hsz dv3 hN3 hw3 hq hm hb2;go_wp2_with (first
  |(refine zk rfl _ _ _ rfl _ _ (layC sl jo pa lo) rfl rfl rfl kR (fun v hv=>by simp at hv;rcases hv with rfl|rfl|rfl|rfl|rfl|rfl|rfl<;>rfl) ?_;refine Stop.i ?_)
  |fail)
 rw[<-HL.o.1,<-HL.o.2.1,<-HL.o.2.2];unfold Stop;go_wp2_with fail
 refine HNw.out.mono ?_;rintro e w4 ⟨v,rfl,sl4,f4,dv4,hu4⟩;obtain⟨nr,hnr⟩:=qqe (nwS F O 1 pa 2);rw[<-hnr]at sl4
 try rw[<-hnr]
 have HNR:=qqh hnr;have hbnd:=EP F O 1 pa (fun B=>wC F O B pa) 2;rw[<-hnr]at hbnd;obtain⟨nok,nwh,nsq,nes⟩:=nr;dsimp only at sl4 hbnd⊢;obtain⟨ao4,cc4,rfl⟩:=sl4.rd.jU;have c3':=hu4.jS c3 (fun h=>by have:=H3.o;have h1:=HL.o.2.2;omega);have m1':=hu4.jS m1 (fun h=>by have:=H3.o;have h1:=HL.o.2.1;omega);have H4:=Y5 sl4 f4 dv4 hu4 hbnd;clear hnr sl4 f4 dv4 hu4 hbnd c3 c4 m0 m1;cases nok with
 |false=>
  go_wp2_with fail
  refine qYp (v:=.tuple #[.int .i64 0,.int .i64 0,.slice none 0 0,.int .i64 14]) jf rfl ?_;obtain⟨sl4,f4,dv4,hu4,-⟩:=H4.o;refine⟨.slice none 0 0,[],0,0,14,rfl,Sl.nil _ _ _,From.nil _ _ _,?_,?_,.inl ⟨rfl,rfl,by rw[<-HNR.o]⟩⟩
  .refine dv4.wide (fun j h=>⟨?_,fun g hg=>by cases hg⟩);rcases h.1 with h|h
   .exact h.1
   .have:=H3.o;exact H.o.2.1 j oM
  .refine H3.o.1.mono fE|>.new hu4 (fun j hj h=>?_)
   rcases h with h|h
   .exact h.1
   .have:=H3.o;omega
 |true=>
  have HSc:=qqh (zcT H4.o.2.2.1 (fun j hj=>⟨.inr (by have:=H4.o.2.2.2.1.size;omega),fun g hg e=>by have:=H4.o.1.lt hg;omega⟩) (1+2*pa) jo oM j2 oM (H3.o.2.2.1.keep H4.o.2.2.2.1 (fun h=>by rcases h with h|h;exact H.o.2.2.2 h.1;have:=H3.o.2.2.1.lt;omega)) (fun h=>by rcases h.1 with h|h;exact H.o.2.2.2 h.1;have:=H3.o.2.2.1.lt;omega));go_wp2_with fail
  refine HSc.out.mono ?_;rintro e w5 ⟨v5,R,rfl,hp,hs,sl5,f5,dv5,hu5⟩;obtain⟨ao5,cc5,rfl⟩:=sl5.rd.jU;have sl45:=H4.o.1.keep hu5 (fun g hg h=>h.2 g hg rfl);have HRp:=qqh (ED sl5.rd nsq H4.o.2.2.2.2.2.2 (fun r hr=>(rG F O (1+2*pa) jo jo r (hp.mem_iff.1 hr)).1) (by rw[hp.length_eq];exact qXq (xY F O _ jo jo) j2));have H5:=Y5 hp hs sl45 dv5 hu5;clear hp hs sl5 f5 dv5 hu5 sl45;go_wp2_with fail
  refine HRp.out.mono ?_;rintro e w6 ⟨v6,rfl,sl6,f6,hb6⟩;obtain⟨ao6,cc6,rfl⟩:=sl6.rd.jU;have hRl:R.length<=1024:=by rw[H5.o.1.length_eq];exact qXq (xY F O _ jo jo) j2
  have hdl:=(ZS (L:=R) (after:=nsq) (N:=1099511627776) H4.o.2.2.2.2.2.2 (fun r hr=>(rG F O (1+2*pa) jo jo r (H5.o.1.mem_iff.1 hr)).1) R.length (qXo _)).2.2;rw[List.take_length]at hdl;have hrm:=EQ R nsq;obtain⟨r,hr⟩:=qqe (repS R nsq);rw[<-hr]at sl6 hdl hrm;rw[<-hr];have sl46:=H5.o.2.2.1.keep (uuo (S:=fun _=>False) hb6) (fun _ _ h=>h);have i1:Rd w6 4 (.slice ao4 nes.length cc4) (nes.map Ent.toI).length ((nes.map Ent.toI).flatMap EI.cs):=by
   rw[XG,qzb];exact sl46.rd
  have i2:Rd w6 7 (.slice ao6 r.d.length cc6) (r.d.map natsI).length ((r.d.map natsI).flatMap dsR):=by
   rw[WS,qzb];exact sl6.rd
  have HAp:=qqh (zbf i1 i2 (by rw[qzb];have:=H4.o.2.2.2.2.2.1;omega) (by rw[qzb];omega)
   (fun e he=>by
    obtain⟨x,hx,rfl⟩:=qzq.1 he;have:=H4.o.2.2.2.2.1 x hx;unfold Ent.In at this;unfold Jc Ent.toI;dsimp only;omega)
   (fun y hy=>by
    obtain⟨x,hx,rfl⟩:=qzq.1 hy;have:=rG F O (1+2*pa) jo jo x (H5.o.1.mem_iff.1 (hrm x hx));rw[zT,zT];unfold Jc;omega))
  have H6:=Y2 hb6 hr;clear hRl hdl hrm sl46 i1 i2 sl6 f6 hb6 hr;go_wp2_with fail
  refine HAp.out.mono ?_;rintro e w7 ⟨v7,L,c,rfl,sl7,f7,hb7,hc⟩;obtain⟨ao7,cc7,rfl⟩:=sl7.rd.jU;have z5:=H4.o.2.2.2.1.size;have z6:=H5.o.2.2.2.2.size;have z7:=H6.o.1.size;have hu7:Upd (fun _=>False) w5 w7:=(uuo H6.o.1).trans (uuo hb7);have dv7:Dv (fun j=>S j/\j<w6.heap.size) w7 b F O []:=((H5.o.2.2.2.1.ku (T:=fun j=>S j/\j<w6.heap.size) (fun j h hj=>⟨by
    rcases h.1.1 with h|h
    .exact h.1
    .have:=H3.o;exact H.o.2.1 j oM,oM⟩)).new hu7)
  have hU:Upd S w w7:=by
   refine(((H3.o.1.mono fE).new H4.o.2.2.2.1 (fun j hj h=>?_)).new H5.o.2.2.2.2 (fun j hj h=>?_)).trans (hu7.mono fE)
   .rcases h with h|h
    .exact h.1
    .have:=H3.o;omega
   .rcases h.1 with h|h
    .exact h.1
    .have:=H3.o;omega
  have H7:=Y4 dv7 hU sl7 f7;have h36:w.heap.size<=w6.heap.size:=by have:=H3.o;omega
  have HS6:=qqh h36;clear sl7 f7 hb7 z5 z6 z7 hu7 dv7 hU h36;rcases hc with⟨rfl,rfl,hc⟩|⟨rfl,hc1,hc2,hc3,hc4⟩
  .have HC:=qqh hc;clear hc;go_wp2_with fail
   refine qYp (v:=.tuple #[.int .i64 0,.int .i64 0,.slice none 0 0,.int .i64 12]) jf rfl ?_;refine⟨.slice none 0 0,[],0,0,12,rfl,Sl.nil _ _ _,From.nil _ _ _,H7.o.1.wide (fun j h=>⟨h.1,fun g hg=>by cases hg⟩),H7.o.2.1,.inr ⟨by rw[<-HNR.o],R,H5.o.1,H5.o.2.1,r,by rw[<-HNR.o];exact H6.o.2,.inl ⟨rfl,rfl,by rw[<-HNR.o];exact HC.o⟩⟩⟩
  .have HC:=Y4 hc1 hc2 hc3 hc4;clear hc1 hc2 hc3 hc4;go_wp2_with fail
   refine qYp (v:=.tuple #[.int .i64 (nwh:Int),.int .i64 (r.g:Int),.slice ao7 L.length cc7,.int .i64 0]) jf rfl ?_;refine⟨.slice ao7 L.length cc7,L,nwh,r.g,0,rfl,H7.o.2.2.1,H7.o.2.2.2.mono HS6.o,H7.o.1.wide (fun j h=>⟨h.1,fun g hg e=>by have:=H7.o.2.2.2 g hg;omega⟩),H7.o.2.1,.inr ⟨by rw[<-HNR.o],R,H5.o.1,H5.o.2.1,r,by rw[<-HNR.o];exact H6.o.2,.inr ⟨rfl,by rw[<-HNR.o],rfl,by rw[<-HNR.o];exact HC.o.2.1,HC.o.2.2.1,HC.o.2.2.2⟩⟩⟩
def uK(own:Nat->Nat)(w:World)(ssd back:Nat)(n:CaN)(a:CaS)(e:Ending)(w':World):Prop:=
 ∃c p own' li lc lf,e=.returned (.tuple #[ptr c,.agg #[ptr li,ptr lc,ptr lf],.slice none 0 0,.int .i64 0])/\CaAt own' w' c n p a/\p.ssd=ssd/\p.back=back/\Did own own' w w'/\
  LogI w' li ssd (1+2*n.pa+n.jo) n.lo 150/\LogC w' lc ssd (1+2*n.pa+n.jo+n.lo) n.lo 154/\LogF w' lf ssd (1+2*n.pa+n.jo+n.lo+n.lo) n.lo 158/\own' li=0/\own' lc=0/\own' lf=0
structure Emp(n:CaN)(F:List Bk)(O:List (Nat×Bk))(wh sq:Nat):Prop where
 ok:n.Ok
 fl:F.length=n.size
 su:okS (curB F O 0)=true
 ns:dsS (natsI (numsS (curB F O 0)))=n.C
 nw:nwS F O 1 n.pa 2=(true,wh,sq,[])
 js:scanTo F O (1+2*n.pa) n.jo n.jo=[]
 wh1:wh<=1
 sq1:sq+1<1099511627776
 zs:∀j,j<n.lo+n.lo+n.lo->curB F O (1+2*n.pa+n.jo+j)=zB
 o5:O.length<=50000
theorem TU{L:List EI}(h:Lists (fun _=>none) L):L=[]:=by
 cases L with
 |nil=>rfl
 |cons e L=>have:=(h.2 e).1 qzo;cases this
theorem WV{w:World}{p:Nat}{cs:Array Value}{vs:List Value}{t:TypeId}(h:w.heap[p]?=some (.cells cs t (0,0)))(hl:cs.size=vs.length):(w.setCells p 0 vs).heap[p]?=some (.cells vs.toArray t (0,0)):=by
 obtain⟨cur',h2,h3,h4⟩:=zy vs 0 w p _ t (0,0) h;rw[h2];have:cur'=vs.toArray:=by
  apply qxd
  intro k;have e:vs.toArray[k]?=vs[k]?:=oe;rw[h4 k,e,hl];by_cases hk:k<vs.length
  .rw [if_pos ⟨oM,oM,oM⟩];rfl
  .rw [if_neg oM,qxf oM,qyk oM]
 rw[this]
def Bx(own:Nat->Nat)(w:World)(m:Nat)(c:Value)(l:List Value):Prop:=
 (w.heap[m+1+1+1]?=some (.cells #[c] 98 (0,0))/\own (m+1+1+1)=0)/\(w.heap[m+1+1+1+1]?=some (.cells l.toArray 103 (0,0))/\own (m+1+1+1+1)=0)/\
  (w.heap[m+1+1+1+1+1]?=some (.cells #[.slice none 0 0] 104 (0,0))/\own (m+1+1+1+1+1)=0)
theorem Bx.did{own own':Nat->Nat}{w w':World}{m:Nat}{c:Value}{l:List Value}(h:Bx own w m c l)(d:Did own own' w w'):Bx own' w' m c l:=
 ⟨d.zero h.1.1 h.1.2,d.zero h.2.1.1 h.2.1.2,d.zero h.2.2.1 h.2.2.2⟩
def Lg3(own:Nat->Nat)(w:World)(n:CaN)(d li lc lf:Nat):Prop:=
 (LogI w li d (1+2*n.pa+n.jo) n.lo 150/\LogC w lc d (1+2*n.pa+n.jo+n.lo) n.lo 154/\LogF w lf d (1+2*n.pa+n.jo+n.lo+n.lo) n.lo 158)/\own li=0/\own lc=0/\own lf=0
theorem Lg3.did{own own':Nat->Nat}{w w':World}{n:CaN}{d li lc lf:Nat}(h:Lg3 own w n d li lc lf)(g:Did own own' w w'):Lg3 own' w' n d li lc lf:=
 ⟨⟨h.1.1.keep g.upd (fun hs=>hs.1 h.2.1),h.1.2.1.keep g.upd (fun hs=>hs.1 h.2.2.1),h.1.2.2.keep g.upd (fun hs=>hs.1 h.2.2.2)⟩,(g.old _ h.1.1.lt).trans h.2.1,(g.old _ h.1.2.1.lt).trans h.2.2.1,(g.old _ h.1.2.2.lt).trans h.2.2.2⟩
theorem Lg3.aside{own:Nat->Nat}{w w':World}{n:CaN}{d li lc lf b:Nat}(h:Lg3 own w n d li lc lf)(hu:Upd (fun j=>j=b) w w')(h1:li≠b)(h2:lc≠b)(h3:lf≠b):Lg3 own w' n d li lc lf:=
 ⟨⟨h.1.1.keep hu h1,h.1.2.1.keep hu h2,h.1.2.2.keep hu h3⟩,h.2⟩
def zcX(own:Nat->Nat)(w:World)(ssd back m:Nat)(n:CaN)(F:List Bk)(O:List (Nat×Bk))(G:List Bk)(Q:List (Nat×Bk))(a:CaS)(Fx:Nat->Option Obj):Nat->World->Prop
 |0=>fun W=>∃own',Dvs own' W ssd back F O G Q []/\Did own own' w W/\Kps own' W Fx/\Bx own' W m (.pointer none) [.pointer none,.pointer none,.pointer none]
 |1=>fun W=>∃own' c p,CaAt own' W c n p a/\(p.ssd=ssd/\p.back=back)/\Did own own' w W/\Kps own' W Fx/\Bx own' W m (ptr c) [.pointer none,.pointer none,.pointer none]
 |2=>fun W=>∃own' c p li lc lf,CaAt own' W c n p a/\(p.ssd=ssd/\p.back=back)/\Did own own' w W/\Kps own' W Fx/\Bx own' W m (ptr c) [ptr li,ptr lc,ptr lf]/\Lg3 own' W n ssd li lc lf
 |3=>fun W=>∃own' c p li lc lf,CaAt own' W c n p a/\(p.ssd=ssd/\p.back=back)/\Did own own' w W/\Kps own' W Fx/\Bx own' W m (ptr c) [ptr li,ptr lc,ptr lf]/\Lg3 own' W n ssd li lc lf
 |_=>fun W=>∃own' c p li lc lf,CaAt own' W c n p (a.ckpt n).1/\(p.ssd=ssd/\p.back=back)/\Did own own' w W/\Kps own' W Fx/\Bx own' W m (ptr c) [ptr li,ptr lc,ptr lf]/\Lg3 own' W n ssd li lc lf
theorem vT{P:Program}{fn:Func}{p0 p r s:Tmp}{ty:TypeId}(h:fn.results= #[.tmp p0,.cell p ty,.tmp r,.tmp s])(tmps:Array Value)(w:World)(b o:Nat)(cs:List Value)(d:TypeDesc)
  (hp:tmps.getD p undef=.pointer (some ⟨b,o,none⟩)) (hc:w.rangeAt b o cs) (hu:P.underlying ty=some d) (hd:d.isRow=true) (hi:(P.info? ty).map (·.size)=some cs.length):
  (results fn tmps).run P w=.ok (.tuple #[tmps.getD p0 undef,.agg cs.toArray,tmps.getD r undef,tmps.getD s undef]) w:=by
 have hp':tmps[p]?.getD undef=.pointer (some ⟨b,o,none⟩):=by simpa using hp
 simp[results,h,hp',asAddr,run_loadVar_mid w b o ty cs d hc hu hd hi,Result.andThen]
def XI(s8 q m0 m:Nat):Array Value:= #[.func (.func 88) #[] #[ptr s8,ptr q,ptr (q+1),ptr m0,ptr (m0+1),ptr (m0+1+1),ptr (m+1+1+1)],.func (.func 90) #[] #[ptr (m+1+1+1),ptr (m+1+1+1+1)],
 .func (.func 92) #[] #[ptr (m+1+1+1+1),ptr (m+1+1+1+1+1)],.func (.func 94) #[] #[ptr (m+1+1+1)]]
def zcY(bad:Prop)(own:Nat->Nat)(w:World)(ssd back:Nat)(F:List Bk)(O:List (Nat×Bk))(G:List Bk)(Q:List (Nat×Bk))(Fx:Nat->Option Obj)(c:Int)(W:World):Prop:=
 bad/\c=12/\∃o,Dvs o W ssd back F O G Q []/\Did own o w W/\Kps o W Fx
theorem Sz{bad:Prop}{own own':Nat->Nat}{w W:World}{ssd back g m m0 s8 q:Nat}{F G:List Bk}{O Q:List (Nat×Bk)}{n:CaN}{wh sq:Nat}{Fx:Nat->Option Obj}{ao:Option Addr}{ln cap:Nat}{a:CaS}(hsq:sq<1099511627776)(hfl:F.length=n.size)(hzs:∀j,j<n.lo+n.lo+n.lo->curB F O (1+2*n.pa+n.jo+j)=zB\/bad/\sealB (curB F O (1+2*n.pa+n.jo+j))≠curB F O (1+2*n.pa+n.jo+j))
  (ha:a.dF=F/\a.dO=O/\a.dP=[]) (hbk:a.bF=G/\a.bO=Q/\a.bP=[]) (hck0:(a.ckpt n).2=0) (hsm:∀k v,a.sums k=some v->v<=4294967295) (hO5:O.length<=50000)
  (hnew:∀o W,Dvs o W ssd back F O G Q []->Did own o w W->Kps o W Fx->Calls prog 89 #[.agg n.C.toArray,ptr ssd,ptr back,.int .i64 (wh:Int),.int .i64 ((sq+1:Nat):Int),.slice ao ln cap] W (Zz o W ssd back n a)) (hm:w.heap.size<=m)
  (h0:Dvs own' W ssd back F O G Q []) (hd:Did own own' w W) (hk:Kps own' W Fx) (hb:Bx own' W m (.pointer none) [.pointer none,.pointer none,.pointer none])
  (fg:Fx g=some (.cells (XI s8 q m0 m) 93 (0,0))) (f8:Fx s8=some (.cells n.C.toArray 44 (0,0))) (fq:Fx q=some (.cells #[ptr ssd] 38 (0,0))) (fq1:Fx (q+1)=some (.cells #[ptr back] 38 (0,0)))
  (f10:Fx m0=some (.cells #[.int .i64 (wh:Int)] 3 (0,0))) (f11:Fx (m0+1)=some (.cells #[.int .i64 (sq:Int)] 3 (0,0))) (f12:Fx (m0+1+1)=some (.cells #[.slice ao ln cap] 146 (0,0)))
  (f13:Fx (m+1+1+1)=none) (f14:Fx (m+1+1+1+1)=none) (f15:Fx (m+1+1+1+1+1)=none):
  Calls prog 53 #[.slice (some ⟨g,0,none⟩) 4 4] W (qI (zcY bad own w ssd back F O G Q Fx) (zcX own w ssd back m n F O G Q a Fx 4)):=by
 refine zcn (g:=g) (n:=4) oM
  (fun k=>[88,90,92,94].getD k 0) (fun _=> #[])
  (fun k=>[#[ptr s8,ptr q,ptr (q+1),ptr m0,ptr (m0+1),ptr (m0+1+1),ptr (m+1+1+1)],#[ptr (m+1+1+1),ptr (m+1+1+1+1)],#[ptr (m+1+1+1+1),ptr (m+1+1+1+1+1)],#[ptr (m+1+1+1)]].getD k #[])
  (zcX own w ssd back m n F O G Q a Fx) (zcY bad own w ssd back F O G Q Fx) ?_ ?_ ?_ ⟨own',h0,hd,hk,hb⟩
 .intro k hk W hW;have hK:∃own',Kps own' W Fx:=by
   rcases(show k=0\/k=1\/k=2\/k=3 by omega)with rfl|rfl|rfl|rfl
   .obtain ⟨o,-,-,h,-⟩:=hW;exact⟨o,h⟩
   .obtain ⟨o,c,p,-,-,-,h,-⟩:=hW;exact⟨o,h⟩
   .obtain ⟨o,c,p,-,-,-,-,-,-,h,-⟩:=hW;exact⟨o,h⟩
   .obtain ⟨o,c,p,-,-,-,-,-,-,h,-⟩:=hW;exact⟨o,h⟩
  obtain⟨o,h⟩:=hK;rw[za (h _ _ fg).1];rcases(show k=0\/k=1\/k=2\/k=3 by omega)with rfl|rfl|rfl|rfl<;>rfl
 .intro k hk args W;rcases(show k=0\/k=1\/k=2\/k=3 by omega)with rfl|rfl|rfl|rfl<;>rfl
 .intro k hk W hW;have np:∀(x:Option Addr) (k:IntKind) (y:Int),(#[Value.pointer x]:Array Value)[0]?≠some (.int k y):=fun x k y h=>by simp at h
  rcases(show k=0\/k=1\/k=2\/k=3 by omega)with rfl|rfl|rfl|rfl
  .obtain ⟨o,hD,hd,hk,hb⟩:=hW;have h2:=zeo (own:=o) (w:=W) (n:=n) wh sq (hnew o W hD hd hk) hsq (zg (hk _ _ f8).1) (za (hk _ _ fq).1 0) (za (hk _ _ fq1).1 0) (za (hk _ _ f10).1 0) (za (hk _ _ f11).1 0) (za (hk _ _ f12).1 0) hb.1.1 hb.1.2;refine h2.mono fun e W' ⟨he,c,p,o2,w2,hca,hp1,hp2,d2,hw⟩=>⟨0,he,fun _=>?_,fun h=>absurd rfl h⟩;subst hw;have b2:=hb.did d2;have hu:=zi w2 (m+1+1+1) 0 (ptr c);refine⟨o2,c,p,hca.j9 hu (th hca.nib hca.tur b2.1.1 b2.1.2 (np _)),⟨hp1,hp2⟩,(hd.trans d2).mine hu oM,(hk.did d2).aside hu (fun j e=>by subst e;exact f13),⟨yZ b2.1.1,b2.1.2⟩,⟨(hu.block _ (zd b2.2.1.1) oM).trans b2.2.1.1,b2.2.1.2⟩,⟨(hu.block _ (zd b2.2.2.1) oM).trans b2.2.2.1,b2.2.2.2⟩⟩
  .obtain ⟨o,c,p,hca,hp,hd,hk,hb⟩:=hW;have h3:=zep hca (za hb.1.1 0) hb.2.1.1;refine h3.mono fun e W' ⟨he,li,lc,lf,w2,hi,hc,hf,hz,hu2,hw⟩=>⟨0,he,fun _=>?_,fun h=>absurd rfl h⟩;subst hw;rw[hp.1]at hi hc hf;have d2:=hca.jY hu2;have b2:=hb.did d2;have hca2:=hca.new hu2;have hu:=zo w2 (m+1+1+1+1) 0 [ptr li,ptr lc,ptr lf];have lb:=zd hb.2.1.1;have hL:Lg3 o w2 n ssd li lc lf:=⟨⟨hi,hc,hf⟩,hca.far _ hz.1,hca.far _ hz.2.1,hca.far _ hz.2.2⟩
   refine⟨o,c,p,li,lc,lf,hca2.j9 hu (th hca2.nib hca2.tur b2.2.1.1 b2.2.1.2 (fun k y h=>by simp at h)),hp,(hd.trans d2).mine hu oM,(hk.did d2).aside hu (fun j e=>by subst e;exact f14),⟨⟨(hu.block _ (zd b2.1.1) oM).trans b2.1.1,b2.1.2⟩,⟨WV b2.2.1.1 rfl,b2.2.1.2⟩,⟨(hu.block _ (zd b2.2.2.1) oM).trans b2.2.2.1,b2.2.2.2⟩⟩,hL.aside hu oM oM oM⟩
  .obtain ⟨o,c,p,li,lc,lf,hca,hp,hd,hk,hb,hL⟩:=hW;have hlz:LgsY bad (fun j=>o j=2\/W.heap.size<=j) W li lc lf ssd (1+2*n.pa+n.jo) n.lo F O:={
    i:=hL.1.1
    c:=hL.1.2.1
    f:=hL.1.2.2
    dv:=by have:=hca.kA;rw[hp.1,ha.1,ha.2.1,ha.2.2]at this;exact this
    fl:=by rw[hfl];unfold CaN.size;omega
    nS:=fun j hj=> .inr hj
    iS:=fun h=>by have:=hL.1.1.lt;rcases h with h|h;rw[hL.2.1]at h;cases h;omega
    cS:=fun h=>by have:=hL.1.2.1.lt;rcases h with h|h;rw[hL.2.2.1]at h;cases h;omega
    fS:=fun h=>by have:=hL.1.2.2.lt;rcases h with h|h;rw[hL.2.2.2]at h;cases h;omega
    nib:=hca.nib
    nibS:=fun h=>by have:=hca.nib.lt;rcases h with h|h;rw[hca.on]at h;cases h;omega
    zs:=fun j hj=>hzs j hj}
   have h4:=zcR hlz hb.2.1.1 hb.2.2.1 (fun h=>by have:=zd hb.2.2.1;rcases h with h|h;rw[hb.2.2.2]at h;cases h;omega);refine h4.mono fun e W' ⟨cd,hcd,he,w2,hdv,hu2,hw⟩=>?_;subst hw;have hca2:=hca.kx (F:=F) (O:=O) (P:=[]) hu2 (by rw[hp.1];exact hdv) (by rw[ha.1]);have hea:({a with dF:=F,dO:=O,dP:=[]}:CaS)=a:=by rw[<-ha.1,<-ha.2.1,<-ha.2.2]
   rw[hea]at hca2;have d2:=hca.did2 hu2;have b2:=hb.did d2;have L2:=hL.did d2;have hu:=zi w2 (m+1+1+1+1+1) 0 (.slice none 0 0);have hbn:=th hca2.nib hca2.tur b2.2.2.1 b2.2.2.2 (fun k y h=>by simp at h);have ln:∀{l:Nat} {v:Array Value} {t:TypeId},w2.heap[l]?=some (.cells v t (0,0))->(∃x,v[0]?=some (.pointer x))->l≠m+1+1+1+1+1:=by
    rintro l v t h ⟨x,hx⟩ e;rw[e,b2.2.2.1]at h;cases h;simp at hx
   have hN:=hca2.j9 hu hbn;have dN:=(hd.trans d2).mine hu oM;have kN:=(hk.did d2).aside hu (fun j e=>by subst e;exact f15);refine⟨cd,he,fun _=>?_,fun h0=>⟨(hcd.resolve_left h0).1,(hcd.resolve_left h0).2,_,⟨?_,?_,hN.far,hN.nib,hN.tur,hN.on,hN.ot⟩,dN,kN⟩⟩
   .refine ⟨_,c,p,li,lc,lf,hca2.j9 hu hbn,hp,(hd.trans d2).mine hu oM,(hk.did d2).aside hu (fun j e=>by subst e;exact f15),⟨⟨(hu.block _ (zd b2.1.1) oM).trans b2.1.1,b2.1.2⟩,⟨(hu.block _ (zd b2.2.1.1) oM).trans b2.2.1.1,b2.2.1.2⟩,⟨yZ b2.2.2.1,b2.2.2.2⟩⟩,L2.aside hu (ln L2.1.1.str ⟨_,rfl⟩) (ln L2.1.2.1.str ⟨_,rfl⟩) (ln L2.1.2.2.str ⟨_,rfl⟩)⟩
   .have h9:=hN.ssd;rw[hp.1,ha.1,ha.2.1,ha.2.2]at h9;exact h9
   .have h9:=hN.back;rw[hp.2,hbk.1,hbk.2.1,hbk.2.2]at h9;exact h9
  .obtain ⟨o,c,p,li,lc,lf,hca,hp,hd,hk,hb,hL⟩:=hW;have hck:=Uc hca hsm (by rw[ha.2.1];exact hO5);rw[hck0]at hck;have h5:=zeq hck (za hb.1.1 0);refine h5.mono fun e W' ⟨he,o2,hca2,d2⟩=>⟨0,he,fun _=>?_,fun h=>absurd rfl h⟩;exact⟨o2,c,p,li,lc,lf,hca2,hp,hd.trans d2,hk.did d2,hb.did d2,hL.did d2⟩
end Go.Proofs.YtpejdgiccaijfaaGreatDoor
namespace Go.Proofs.YtpejdgiccaijfaaGreatDoor
open Go Go.RowKit Tryz
theorem SA{l:List Bk}{s:Nat}{x:Bk}(h:l[s]?=some x):l.getD s zB=x:=by rw[qyf,h];rfl
theorem XJ(A:List Bk):∀k s,(flushF A (zW k))[s]?=if 1<=s/\s<=k/\s<A.length then some zB else A[s]?
 |0,s=>by rw[if_neg oM];rfl
 |k+1,s=>by
  rw[VP,xD,qyo,XJ A k s,zM];by_cases h:k+1=s
  .subst h;rw[if_pos rfl];by_cases hl:k+1<A.length
   .rw [if_pos hl,if_pos oM]
   .rw [if_neg hl,if_neg oM,qyk oM]
  .rw [if_neg h];by_cases h1:1<=s/\s<=k/\s<A.length
   .rw [if_pos h1,if_pos oM]
   .rw [if_neg h1,if_neg oM]
def zew:Bk:=(pagesB 0 []).getD 0 zB
theorem Ur(i:Nat)(h:1<=i):(pagesB 0 []).getD i zB=zB:=by
 rw[qyf,qyk (by rw[pagesB,xH];exact h)];rfl
theorem WW{n:CaN}{F:List Bk}{O:List (Nat×Bk)}(hok:n.Ok)(hF:F.length=n.size)(s:Nat)(hs:s<n.size):
  curB (fmtF n F O) [] s=if s=0 then n.sec else if s=1 then zew else if s<n.s0 then zB else curB F O s:=by
 have hz:=n.s0_size;have hp1:1<=n.pa:=by have:=hok.p1;omega
 have hs0:1+2*n.pa<=n.s0:=by unfold CaN.s0;omega
 have h1:(fmt1 F O)=(flushF F O).set 0 zB:=xD _ _ _;have hl1:=uH F O;have e:(fmtF n F O)[s]?=if 0=s then(if s<n.size then some n.sec else none)else if 1<=s/\s<1+n.pa/\s<n.size then some ((pagesB 0 []).getD (s-1) zB)else if 1<=s/\s<=n.s0-1/\s<n.size then some zB else(fmt1 F O)[s]?:=by
  show(flushF (Xv n F O) [(0,n.sec)])[s]?=_;rw[show flushF (Xv n F O) [(0,n.sec)]=(Xv n F O).set 0 n.sec from rfl,qyo,ri,hF];unfold Xv;rw[qk,sW,zM,XJ,hl1,hF];by_cases h0:0=s
  .subst h0;rfl
  .rw [if_neg h0,if_neg h0]
 show(flushF (fmtF n F O) []).getD s zB=_;rw[show flushF (fmtF n F O) []=fmtF n F O from rfl];refine SA ?_;rw[e];by_cases h0:s=0
 .subst h0;rw[if_pos rfl,if_pos hs,if_pos rfl]
 rw[if_neg (fun e=>h0 e.symm),if_neg h0];by_cases h11:s=1
 .subst h11;rw[if_pos oM,if_pos rfl];rfl
 rw[if_neg h11];by_cases hsp:1<=s/\s<1+n.pa/\s<n.size
 .rw [if_pos hsp,Ur _ oM,if_pos oM]
 rw[if_neg hsp];by_cases hss:s<n.s0
 .rw [if_pos hss,if_pos oM]
 .rw [if_neg hss,if_neg oM,h1,qyo,if_neg (fun e=>h0 e.symm)];have hl:s<(flushF F O).length:=by rw[zM,hF];exact hs
  rw[qyj hl]
  congr 1
  exact(SA (qyj hl)).symm
theorem WX{xs:List Int}(hx:xs.length=7)(h:mayS xs=true):okS (sectS xs)=true/\natsI (numsS (sectS xs))=xs:=by
 obtain⟨h0,hf⟩:=sD hx h;obtain⟨s1,s2⟩:=sM (k:=1) de (sz:=szS) (by rw[hx];rfl) h0 hf (mayS (natsI (numsS (sectS xs))));have h3:natsI (numsS (sectS xs))=xs:=s2;refine⟨?_,h3⟩;unfold okS;rw[show okGet (sectS xs) 1 szS (mayS (natsI (numsS (sectS xs))))=mayS (natsI (numsS (sectS xs)))from s1,h3];exact h
theorem SB:okR zB=false:=kR
theorem XK{l:List Bk}(h:l.getD 0 zB=zB):readOk l=false:=by unfold readOk;rw[h,RB];rfl
theorem Ze{F:List Bk}{O:List (Nat×Bk)}{base n:Nat}:∀{k:Nat},(∀i,i<k->curB F O (base+i)=zB)->scanTo F O base n k=[]
 |0,_=>rfl
 |k+1,h=>by
  rw[scanTo,Ze (fun i hi=>h i oM),h k oM];unfold scL Sg;rw[SB];rfl
theorem EW{n:CaN}{F:List Bk}{O:List (Nat×Bk)}(hok:n.Ok)(hm:mayS n.I=true)(hF:F.length=n.size):Emp n (fmtF n F O) [] 0 0:=by
 have hz:=n.s0_size;have hp1:1<=n.pa:=by have:=hok.p1;omega
 have hsl:=hok.s1;have at0:=WW (O:=O) hok hF 0 oM;rw[if_pos rfl]at at0;have hsb:=WX (xs:=n.I) rfl hm;have zat:∀s,2<=s->s<n.s0->curB (fmtF n F O) [] s=zB:=fun s h1 h2=>by rw[WW hok hF s oM,if_neg oM,if_neg oM,if_pos h2]
 have hs0:n.s0=1+2*n.pa+n.jo+n.lo+n.lo+n.lo:=rfl;have r0:=WF (seq:=0) (E:=[]) de (fun x hx=>by cases hx) de (l:=secsOf (fmtF n F O) [] 1 n.pa) (by rw[wC];exact hp1) (fun i hi=>by
  rw[wC]at hi;rw[Uh _ _ _ _ _ hi];by_cases h0:i=0
  .subst h0;rw[WW hok hF 1 oM,if_neg oM,if_pos rfl];rfl
  .rw [zat _ oM oM,Ur _ oM])
 have r1:readOk (secsOf (fmtF n F O) [] (1+1*n.pa) n.pa)=false:=XK (by rw[Uh _ _ _ _ _ oM,zat _ oM oM]);refine⟨hok,(RN n F O).trans hF,?_,?_,?_,Ze (fun i hi=>zat _ oM oM),oM,de,fun j hj=>zat _ oM oM,qXy _⟩
 .rw [at0];exact hsb.1
 .rw [at0,show natsI (numsS n.sec)=n.I from hsb.2];rfl
 .have e0:nwS (fmtF n F O) [] 1 n.pa 1=(true,0,0,[]):=by
   rw[nwS];have e:(1+0*n.pa)=1:=oM;rw[e,r0.1,r0.2.1,r0.2.2];rfl
  rw[nwS,r1,e0];rfl
def zex(own:Nat->Nat)(w:World)(ssd back:Nat)(F:List Bk)(O:List (Nat×Bk))(G:List Bk)(Q:List (Nat×Bk))(P:List Int)(cd:Int)(e:Ending)(w':World):Prop:=
 e=.returned (.tuple #[.pointer none,.agg #[.pointer none,.pointer none,.pointer none],.slice none 0 0,.int .i64 cd])/\∃own',Dvs own' w' ssd back F O G Q P/\Did own own' w w'
theorem se:∀w:World,(Instr.build 103 #[]).run prog w=.ok (.agg #[.pointer none,.pointer none,.pointer none]) w:=by
 intro w;kernel_rfl
end Go.Proofs.YtpejdgiccaijfaaGreatDoor
