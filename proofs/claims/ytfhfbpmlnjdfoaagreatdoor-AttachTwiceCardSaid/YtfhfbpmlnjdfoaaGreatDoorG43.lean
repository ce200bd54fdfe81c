/- attach.Entries -/
import Derived.Test.YtfhfbpmlnjdfoaaGreatDoorG42
import Derived.Test.YtfhfbpmlnjdfoaaGreatDoorG37
import Derived.Test.YtfhfbpmlnjdfoaaGreatDoorG39
set_option maxRecDepth 100000
set_option maxHeartbeats 4000000
namespace Go.Proofs.YtfhfbpmlnjdfoaaGreatDoor
open Go Go.RowKit Go.Shelf Go.Lib Tryz
def EnOut(S:Nat->Prop)(w:World)(b:Nat)(F:List Bk)(O:List (Nat×Bk))(jo pa:Nat)(e:Ending)(w':World):Prop:=
 ∃(v:Value) (L:List EI) (wh sq:Nat) (c:Int),e=.returned (.tuple #[.int .i64 (wh:Int),.int .i64 (sq:Int),v,.int .i64 c])/\Sl w' 37 4 v L.length (L.flatMap EI.cs)/\From w.heap.size v/\Dv (fun j=>S j/\∀g,v.ownBlock=some g->g≠j) w' b F O []/\Upd S w w'/\
  ((c=14/\L=[]/\(nwS F O 1 pa 2).1=false)\/
   (nwS F O 1 pa 2).1=true/\∃R:List (List Nat),R.Perm (scanTo F O (1+2*pa) jo jo)/\R.Pairwise (fun x y=>rseq x<=rseq y)/\
    ∃r:RepS,r=repS R (nwS F O 1 pa 2).2.2.1/\
    ((c=12/\L=[]/\(¬(((nwS F O 1 pa 2).2.2.2.map Ent.toI).map EI.b).Nodup\/∃L0,Lists (apRs (apM ((nwS F O 1 pa 2).2.2.2.map Ent.toI)) (r.d.map natsI)) L0/\¬(L0.map EI.s).Nodup))\/
    (c=0/\wh=(nwS F O 1 pa 2).2.1/\sq=r.g/\Lists (apRs (apM ((nwS F O 1 pa 2).2.2.2.map Ent.toI)) (r.d.map natsI)) L/\(L.map EI.s).Nodup/\L.Pairwise (fun x y=>x.b<y.b))))
theorem Sx{S:Nat->Prop}{w:World}{b:Nat}{F:List Bk}{O:List (Nat×Bk)}(hd:Dv S w b F O [])(hn:∀j,w.heap.size<=j->S j)(hN:Nib w)(hgS:¬S 0)
  (id:Int) (bl sl jo pa lo ba:Nat) (b1:1<=bl) (b2:bl<=4096) (s1:1<=sl) (s2:sl<=1024) (j1:4<=jo) (j2:jo<=1024) (l1:1<=lo) (l2:lo<=1024) (a1:1<=ba) (a2:ba<=64) (p1:(sl-1)/4+1<=pa) (p2:pa<=4096)
  (hz:1+2*pa+jo+lo+lo+lo+sl<=4096) (hF:F.length=1+2*pa+jo+lo+lo+lo+sl):
  Calls prog 22 #[.agg (superC id bl sl jo pa lo ba).toArray,.pointer (some ⟨b,0,none⟩)] w (EnOut S w b F O jo pa):=by
 obtain⟨w1,hw1⟩:=qqe (w.alloc (.cells (superC id bl sl jo pa lo ba).toArray 40));have HP:=qqh (vY id bl sl jo pa lo ba b1 b2 s1 s2 j1 j2 l1 l2 a1 a2 p1 p2 hz w1);have HW:=qqh hw1;have H:=Y4 hd hn hN hgS;clear hd hn hN hgS hw1;go_enter func22,ntmps22
 go_wp2_with fail
 rw[<-HW.o];refine HP.o.mono ?_;rintro e w2 ⟨rfl,hb2⟩;have hu1:Upd (fun _=>False) w w1:=by rw[HW.o];exact(uur _ w).alloc _
 have hu2:Upd (fun _=>False) w w2:=hu1.trans (uuo hb2);have g1:w1.heap[w.heap.size]?=some (.cells (superC id bl sl jo pa lo ba).toArray 40 (0,0)):=by rw[HW.o];exact zc w _ rfl
 obtain⟨q,hq⟩:=qqe (w.heap.size);obtain⟨w3,hw3⟩:=qqe (w2.alloc (.cells (layC sl jo pa lo).toArray 43));have hu3:Upd (fun _=>False) w w3:=by rw[hw3];exact hu2.alloc _
 have hu23:=qqu hw3;have gm:=qqg hw3;have z3:w3.heap.size=w2.heap.size+1:=by rw[hw3];simp
 have gq:=hu23.jc ((uuo (S:=fun _=>False) hb2).jc g1);have hsz:w.heap.size<w2.heap.size:=by have:=hb2.size;have:=zf g1;omega
 obtain⟨m,hm⟩:=qqe (w2.heap.size);have dv3:Dv (fun j=>(S j/\j<w.heap.size)\/w3.heap.size<=j) w3 b F O []:=((H.o.1.jF (T:=fun j=>S j/\j<w.heap.size) (fun j h1 h2=>⟨h1,h2⟩)).keep hu3 (fun _ _ h=>h)).wide (fun j h=> .inl h);have hN3:Nib w3:=H.o.2.2.1.keep hu3 (fun h=>h);have HNw:=qqh (JU dv3 (fun j hj=> .inr hj) 1 pa (by omega) (by omega) hN3 (fun h=>by rcases h with h|h;exact H.o.2.2.2 h.1;have:=hN3.lt;omega));have HL:=Y3 hw3 hm hq;rw[<-hq]at gq;rw[<-hm]at gm;have c3:w3.cell? ⟨q,3,none⟩=some (.int .i64 (jo:Int)):=za gq 3;have c4:w3.cell? ⟨q,4,none⟩=some (.int .i64 (pa:Int)):=za gq 4;have m0:w3.cell? ⟨m,0,none⟩=some (.int .i64 1):=za gm 0;have m1:w3.cell? ⟨m,1,none⟩=some (.int .i64 (1+2*(pa:Int))):=za gm 1;have H3:=Y7 hu3 dv3 hN3 z3 hsz gq gm;clear hu1 hu2 hu3 hu23 g1 gm z3 gq hsz dv3 hN3 hw3 hq hm hb2;go_wp2_with (first
  |(refine zk rfl _ _ _ rfl _ _ (layC sl jo pa lo) rfl rfl rfl (by kernel_rfl) (fun v hv=>by simp at hv;rcases hv with rfl|rfl|rfl|rfl|rfl|rfl|rfl<;>rfl) ?_;refine Stop.i ?_)
  |fail)
 rw[<-HL.o.1,<-HL.o.2.1,<-HL.o.2.2];unfold Stop;go_wp2_with fail
 refine HNw.out.mono ?_;rintro e w4 ⟨v,rfl,sl4,f4,dv4,hu4⟩;obtain⟨nr,hnr⟩:=qqe (nwS F O 1 pa 2);rw[<-hnr]at sl4
 try rw[<-hnr]
 have HNR:=qqh hnr;have hbnd:=JZ F O 1 pa (fun B=>yq F O B pa) 2;rw[<-hnr]at hbnd;obtain⟨nok,nwh,nsq,nes⟩:=nr;dsimp only at sl4 hbnd⊢;obtain⟨ao4,cc4,rfl⟩:=sl4.rd.jd;have c3':=hu4.ja c3 (fun h=>by have:=H3.o;have h1:=HL.o.2.2;omega);have m1':=hu4.ja m1 (fun h=>by have:=H3.o;have h1:=HL.o.2.1;omega);have H4:=Y5 sl4 f4 dv4 hu4 hbnd;clear hnr sl4 f4 dv4 hu4 hbnd c3 c4 m0 m1;cases nok with
 |false=>
  go_wp2_with fail
  refine qYw (v:=.tuple #[.int .i64 0,.int .i64 0,.slice none 0 0,.int .i64 14]) (by simp[results,results22,go_sem]) rfl ?_;obtain⟨sl4,f4,dv4,hu4,-⟩:=H4.o;refine⟨.slice none 0 0,[],0,0,14,rfl,Sl.nil _ _ _,From.nil _ _ _,?_,?_,.inl ⟨rfl,rfl,by rw[<-HNR.o]⟩⟩
  .refine dv4.wide (fun j h=>⟨?_,fun g hg=>by cases hg⟩);rcases h.1 with h|h
   .exact h.1
   .have:=H3.o;exact H.o.2.1 j (by omega)
  .refine H3.o.1.mono (fun _ _ h=>h.elim)|>.new hu4 (fun j hj h=>?_)
   rcases h with h|h
   .exact h.1
   .have:=H3.o;omega
 |true=>
  have HSc:=qqh (zbV H4.o.2.2.1 (fun j hj=>⟨.inr (by have:=H4.o.2.2.2.1.size;omega),fun g hg e=>by have:=H4.o.1.lt hg;omega⟩) (1+2*pa) jo (by omega) j2 (by omega) (H3.o.2.2.1.keep H4.o.2.2.2.1 (fun h=>by rcases h with h|h;exact H.o.2.2.2 h.1;have:=H3.o.2.2.1.lt;omega)) (fun h=>by rcases h.1 with h|h;exact H.o.2.2.2 h.1;have:=H3.o.2.2.1.lt;omega));go_wp2_with fail
  refine HSc.out.mono ?_;rintro e w5 ⟨v5,R,rfl,hp,hs,sl5,f5,dv5,hu5⟩;obtain⟨ao5,cc5,rfl⟩:=sl5.rd.jd;have sl45:=H4.o.1.keep hu5 (fun g hg h=>h.2 g hg rfl);have HRp:=qqh (JY sl5.rd nsq H4.o.2.2.2.2.2.2 (fun r hr=>(ro F O (1+2*pa) jo jo r (hp.mem_iff.1 hr)).1) (by rw[hp.length_eq];exact qXx (xX F O _ jo jo) j2));have H5:=Y5 hp hs sl45 dv5 hu5;clear hp hs sl5 f5 dv5 hu5 sl45;go_wp2_with fail
  refine HRp.out.mono ?_;rintro e w6 ⟨v6,rfl,sl6,f6,hb6⟩;obtain⟨ao6,cc6,rfl⟩:=sl6.rd.jd;have hRl:R.length<=1024:=by rw[H5.o.1.length_eq];exact qXx (xX F O _ jo jo) j2
  have hdl:=(ZY (L:=R) (after:=nsq) (N:=1099511627776) H4.o.2.2.2.2.2.2 (fun r hr=>(ro F O (1+2*pa) jo jo r (H5.o.1.mem_iff.1 hr)).1) R.length (qXv _)).2.2;rw[List.take_length]at hdl;have hrm:=Ea R nsq;obtain⟨r,hr⟩:=qqe (repS R nsq);rw[<-hr]at sl6 hdl hrm;rw[<-hr];have sl46:=H5.o.2.2.1.keep (uuo (S:=fun _=>False) hb6) (fun _ _ h=>h);have i1:Rd w6 4 (.slice ao4 nes.length cc4) (nes.map Ent.toI).length ((nes.map Ent.toI).flatMap EI.cs):=by
   rw[rp,qzg];exact sl46.rd
  have i2:Rd w6 7 (.slice ao6 r.d.length cc6) (r.d.map natsI).length ((r.d.map natsI).flatMap dsR):=by
   rw[WK,qzg];exact sl6.rd
  have HAp:=qqh (zaj i1 i2 (by rw[qzg];have:=H4.o.2.2.2.2.2.1;omega) (by rw[qzg];omega)
   (fun e he=>by
    obtain⟨x,hx,rfl⟩:=qzv.1 he;have:=H4.o.2.2.2.2.1 x hx;unfold Ent.In at this;unfold SN Ent.toI;dsimp only;omega)
   (fun y hy=>by
    obtain⟨x,hx,rfl⟩:=qzv.1 hy;have:=ro F O (1+2*pa) jo jo x (H5.o.1.mem_iff.1 (hrm x hx));rw[zT,zT];unfold SN;omega))
  have H6:=Y2 hb6 hr;clear hRl hdl hrm sl46 i1 i2 sl6 f6 hb6 hr;go_wp2_with fail
  refine HAp.out.mono ?_;rintro e w7 ⟨v7,L,c,rfl,sl7,f7,hb7,hc⟩;obtain⟨ao7,cc7,rfl⟩:=sl7.rd.jd;have z5:=H4.o.2.2.2.1.size;have z6:=H5.o.2.2.2.2.size;have z7:=H6.o.1.size;have hu7:Upd (fun _=>False) w5 w7:=(uuo H6.o.1).trans (uuo hb7);have dv7:Dv (fun j=>S j/\j<w6.heap.size) w7 b F O []:=((H5.o.2.2.2.1.jF (T:=fun j=>S j/\j<w6.heap.size) (fun j h hj=>⟨by
    rcases h.1.1 with h|h
    .exact h.1
    .have:=H3.o;exact H.o.2.1 j (by omega),by omega⟩)).new hu7)
  have hU:Upd S w w7:=by
   refine(((H3.o.1.mono (fun _ _ h=>h.elim)).new H4.o.2.2.2.1 (fun j hj h=>?_)).new H5.o.2.2.2.2 (fun j hj h=>?_)).trans (hu7.mono (fun _ _ h=>h.elim))
   .rcases h with h|h
    .exact h.1
    .have:=H3.o;omega
   .rcases h.1 with h|h
    .exact h.1
    .have:=H3.o;omega
  have H7:=Y4 dv7 hU sl7 f7;have h36:w.heap.size<=w6.heap.size:=by have:=H3.o;omega
  have HS6:=qqh h36;clear sl7 f7 hb7 z5 z6 z7 hu7 dv7 hU h36;rcases hc with⟨rfl,rfl,hc⟩|⟨rfl,hc1,hc2,hc3,hc4⟩
  .have HC:=qqh hc;clear hc;go_wp2_with fail
   refine qYw (v:=.tuple #[.int .i64 0,.int .i64 0,.slice none 0 0,.int .i64 12]) (by simp[results,results22,go_sem]) rfl ?_;refine⟨.slice none 0 0,[],0,0,12,rfl,Sl.nil _ _ _,From.nil _ _ _,H7.o.1.wide (fun j h=>⟨h.1,fun g hg=>by cases hg⟩),H7.o.2.1,.inr ⟨by rw[<-HNR.o],R,H5.o.1,H5.o.2.1,r,by rw[<-HNR.o];exact H6.o.2,.inl ⟨rfl,rfl,by rw[<-HNR.o];exact HC.o⟩⟩⟩
  .have HC:=Y4 hc1 hc2 hc3 hc4;clear hc1 hc2 hc3 hc4;go_wp2_with fail
   refine qYw (v:=.tuple #[.int .i64 (nwh:Int),.int .i64 (r.g:Int),.slice ao7 L.length cc7,.int .i64 0]) (by simp[results,results22,go_sem]) rfl ?_;refine⟨.slice ao7 L.length cc7,L,nwh,r.g,0,rfl,H7.o.2.2.1,H7.o.2.2.2.mono HS6.o,H7.o.1.wide (fun j h=>⟨h.1,fun g hg e=>by have:=H7.o.2.2.2 g hg;omega⟩),H7.o.2.1,.inr ⟨by rw[<-HNR.o],R,H5.o.1,H5.o.2.1,r,by rw[<-HNR.o];exact H6.o.2,.inr ⟨rfl,by rw[<-HNR.o],rfl,by rw[<-HNR.o];exact HC.o.2.1,HC.o.2.2.1,HC.o.2.2.2⟩⟩⟩
def EP(own:Nat->Nat)(w:World)(ssd back:Nat)(n:CaN)(a:CaS)(e:Ending)(w':World):Prop:=
 ∃c p own' li lc lf,e=.returned (.tuple #[ptr c,.agg #[ptr li,ptr lc,ptr lf],.slice none 0 0,.int .i64 0])/\CaAt own' w' c n p a/\p.ssd=ssd/\p.back=back/\Did own own' w w'/\
  LogI w' li ssd (1+2*n.pa+n.jo) n.lo 140/\LogC w' lc ssd (1+2*n.pa+n.jo+n.lo) n.lo 144/\LogF w' lf ssd (1+2*n.pa+n.jo+n.lo+n.lo) n.lo 148/\own' li=0/\own' lc=0/\own' lf=0
structure Emp(n:CaN)(F:List Bk)(O:List (Nat×Bk))(wh sq:Nat):Prop where
 ok:n.Ok
 fl:F.length=n.size
 su:okS (curB F O 0)=true
 ns:dsS (natsI (numsS (curB F O 0)))=n.C
 nw:nwS F O 1 n.pa 2=(true,wh,sq,[])
 js:scanTo F O (1+2*n.pa) n.jo n.jo=[]
 wh1:wh<=1
 sq1:sq+1<1099511627776
 zs:∀j,j<n.lo+n.lo+n.lo->curB F O (1+2*n.pa+n.jo+j)=zB
 o5:O.length<=50000
theorem WY{w:World}{p:Nat}{cs:Array Value}{vs:List Value}{t:TypeId}(h:w.heap[p]?=some (.cells cs t (0,0)))(hl:cs.size=vs.length):(w.setCells p 0 vs).heap[p]?=some (.cells vs.toArray t (0,0)):=by
 obtain⟨cur',h2,h3,h4⟩:=zA vs 0 w p _ t (0,0) h;rw[h2];have:cur'=vs.toArray:=by
  apply qxd
  intro k;have e:vs.toArray[k]?=vs[k]?:=by simp
  rw[h4 k,e,hl];by_cases hk:k<vs.length
  .rw [if_pos ⟨by omega,by omega,by omega⟩];rfl
  .rw [if_neg (by omega),qxf (by omega),qyo (by omega)]
 rw[this]
def Bx(own:Nat->Nat)(w:World)(m:Nat)(c:Value)(l:List Value):Prop:=
 (w.heap[m+1+1+1]?=some (.cells #[c] 62 (0,0))/\own (m+1+1+1)=0)/\(w.heap[m+1+1+1+1]?=some (.cells l.toArray 67 (0,0))/\own (m+1+1+1+1)=0)/\
  (w.heap[m+1+1+1+1+1]?=some (.cells #[.slice none 0 0] 68 (0,0))/\own (m+1+1+1+1+1)=0)
theorem Bx.did{own own':Nat->Nat}{w w':World}{m:Nat}{c:Value}{l:List Value}(h:Bx own w m c l)(d:Did own own' w w'):Bx own' w' m c l:=
 ⟨d.zero h.1.1 h.1.2,d.zero h.2.1.1 h.2.1.2,d.zero h.2.2.1 h.2.2.2⟩
def Lg3(own:Nat->Nat)(w:World)(n:CaN)(d li lc lf:Nat):Prop:=
 (LogI w li d (1+2*n.pa+n.jo) n.lo 140/\LogC w lc d (1+2*n.pa+n.jo+n.lo) n.lo 144/\LogF w lf d (1+2*n.pa+n.jo+n.lo+n.lo) n.lo 148)/\own li=0/\own lc=0/\own lf=0
theorem Lg3.did{own own':Nat->Nat}{w w':World}{n:CaN}{d li lc lf:Nat}(h:Lg3 own w n d li lc lf)(g:Did own own' w w'):Lg3 own' w' n d li lc lf:=
 ⟨⟨h.1.1.keep g.upd (fun hs=>hs.1 h.2.1),h.1.2.1.keep g.upd (fun hs=>hs.1 h.2.2.1),h.1.2.2.keep g.upd (fun hs=>hs.1 h.2.2.2)⟩,(g.old _ h.1.1.lt).trans h.2.1,(g.old _ h.1.2.1.lt).trans h.2.2.1,(g.old _ h.1.2.2.lt).trans h.2.2.2⟩
theorem Lg3.aside{own:Nat->Nat}{w w':World}{n:CaN}{d li lc lf b:Nat}(h:Lg3 own w n d li lc lf)(hu:Upd (fun j=>j=b) w w')(h1:li≠b)(h2:lc≠b)(h3:lf≠b):Lg3 own w' n d li lc lf:=
 ⟨⟨h.1.1.keep hu h1,h.1.2.1.keep hu h2,h.1.2.2.keep hu h3⟩,h.2⟩
def zbX(own:Nat->Nat)(w:World)(ssd back m:Nat)(n:CaN)(F:List Bk)(O:List (Nat×Bk))(G:List Bk)(Q:List (Nat×Bk))(a:CaS)(Fx:Nat->Option Obj):Nat->World->Prop
 |0=>fun W=>∃own',Dvs own' W ssd back F O G Q []/\Did own own' w W/\Kps own' W Fx/\Bx own' W m (.pointer none) [.pointer none,.pointer none,.pointer none]
 |1=>fun W=>∃own' c p,CaAt own' W c n p a/\(p.ssd=ssd/\p.back=back)/\Did own own' w W/\Kps own' W Fx/\Bx own' W m (ptr c) [.pointer none,.pointer none,.pointer none]
 |2=>fun W=>∃own' c p li lc lf,CaAt own' W c n p a/\(p.ssd=ssd/\p.back=back)/\Did own own' w W/\Kps own' W Fx/\Bx own' W m (ptr c) [ptr li,ptr lc,ptr lf]/\Lg3 own' W n ssd li lc lf
 |3=>fun W=>∃own' c p li lc lf,CaAt own' W c n p a/\(p.ssd=ssd/\p.back=back)/\Did own own' w W/\Kps own' W Fx/\Bx own' W m (ptr c) [ptr li,ptr lc,ptr lf]/\Lg3 own' W n ssd li lc lf
 |_=>fun W=>∃own' c p li lc lf,CaAt own' W c n p (a.ckpt n).1/\(p.ssd=ssd/\p.back=back)/\Did own own' w W/\Kps own' W Fx/\Bx own' W m (ptr c) [ptr li,ptr lc,ptr lf]/\Lg3 own' W n ssd li lc lf
theorem rN{P:Program}{fn:Func}{p0 p r s:Tmp}{ty:TypeId}(h:fn.results= #[.tmp p0,.cell p ty,.tmp r,.tmp s])(tmps:Array Value)(w:World)(b o:Nat)(cs:List Value)(d:TypeDesc)
  (hp:tmps.getD p undef=.pointer (some ⟨b,o,none⟩)) (hc:w.rangeAt b o cs) (hu:P.underlying ty=some d) (hd:d.isRow=true) (hi:(P.info? ty).map (·.size)=some cs.length):
  (results fn tmps).run P w=.ok (.tuple #[tmps.getD p0 undef,.agg cs.toArray,tmps.getD r undef,tmps.getD s undef]) w:=by
 have hp':tmps[p]?.getD undef=.pointer (some ⟨b,o,none⟩):=by simpa using hp
 simp[results,h,hp',asAddr,run_loadVar_mid w b o ty cs d hc hu hd hi,Result.andThen]
def XH(s8 q m0 m:Nat):Array Value:= #[.func (.func 73) #[] #[ptr s8,ptr q,ptr (q+1),ptr m0,ptr (m0+1),ptr (m0+1+1),ptr (m+1+1+1)],.func (.func 75) #[] #[ptr (m+1+1+1),ptr (m+1+1+1+1)],
 .func (.func 77) #[] #[ptr (m+1+1+1+1),ptr (m+1+1+1+1+1)],.func (.func 79) #[] #[ptr (m+1+1+1)]]
theorem Sy{own own':Nat->Nat}{w W:World}{ssd back g m m0 s8 q:Nat}{F G:List Bk}{O Q:List (Nat×Bk)}{n:CaN}{wh sq:Nat}{Fx:Nat->Option Obj}{ao:Option Addr}{ln cap:Nat}{a:CaS}(hsq:sq<1099511627776)(hfl:F.length=n.size)(hzs:∀j,j<n.lo+n.lo+n.lo->curB F O (1+2*n.pa+n.jo+j)=zB)
  (ha:a.dF=F/\a.dO=O/\a.dP=[]) (hck0:(a.ckpt n).2=0) (hsm:∀k v,a.sums k=some v->v<=4294967295) (hO5:O.length<=50000)
  (hnew:∀o W,Dvs o W ssd back F O G Q []->Did own o w W->Kps o W Fx->Calls prog 74 #[.agg n.C.toArray,ptr ssd,ptr back,.int .i64 (wh:Int),.int .i64 ((sq+1:Nat):Int),.slice ao ln cap] W (ZC o W ssd back n a)) (hm:w.heap.size<=m)
  (h0:Dvs own' W ssd back F O G Q []) (hd:Did own own' w W) (hk:Kps own' W Fx) (hb:Bx own' W m (.pointer none) [.pointer none,.pointer none,.pointer none])
  (fg:Fx g=some (.cells (XH s8 q m0 m) 71 (0,0))) (f8:Fx s8=some (.cells n.C.toArray 40 (0,0))) (fq:Fx q=some (.cells #[ptr ssd] 46 (0,0))) (fq1:Fx (q+1)=some (.cells #[ptr back] 46 (0,0)))
  (f10:Fx m0=some (.cells #[.int .i64 (wh:Int)] 3 (0,0))) (f11:Fx (m0+1)=some (.cells #[.int .i64 (sq:Int)] 3 (0,0))) (f12:Fx (m0+1+1)=some (.cells #[.slice ao ln cap] 22 (0,0)))
  (f13:Fx (m+1+1+1)=none) (f14:Fx (m+1+1+1+1)=none) (f15:Fx (m+1+1+1+1+1)=none):
  Calls prog 61 #[.slice (some ⟨g,0,none⟩) 4 4] W (qt (fun _ _=>False) (zbX own w ssd back m n F O G Q a Fx 4)):=by
 refine zaW (g:=g) (n:=4) (by omega)
  (fun k=>[73,75,77,79].getD k 0) (fun _=> #[])
  (fun k=>[#[ptr s8,ptr q,ptr (q+1),ptr m0,ptr (m0+1),ptr (m0+1+1),ptr (m+1+1+1)],#[ptr (m+1+1+1),ptr (m+1+1+1+1)],#[ptr (m+1+1+1+1),ptr (m+1+1+1+1+1)],#[ptr (m+1+1+1)]].getD k #[])
  (zbX own w ssd back m n F O G Q a Fx) (fun _ _=>False) ?_ ?_ ?_ ⟨own',h0,hd,hk,hb⟩
 .intro k hk W hW;have hK:∃own',Kps own' W Fx:=by
   rcases(show k=0\/k=1\/k=2\/k=3 by omega)with rfl|rfl|rfl|rfl
   .obtain ⟨o,-,-,h,-⟩:=hW;exact⟨o,h⟩
   .obtain ⟨o,c,p,-,-,-,h,-⟩:=hW;exact⟨o,h⟩
   .obtain ⟨o,c,p,-,-,-,-,-,-,h,-⟩:=hW;exact⟨o,h⟩
   .obtain ⟨o,c,p,-,-,-,-,-,-,h,-⟩:=hW;exact⟨o,h⟩
  obtain⟨o,h⟩:=hK;rw[za (h _ _ fg).1];rcases(show k=0\/k=1\/k=2\/k=3 by omega)with rfl|rfl|rfl|rfl<;>rfl
 .intro k hk args W;rcases(show k=0\/k=1\/k=2\/k=3 by omega)with rfl|rfl|rfl|rfl<;>rfl
 .intro k hk W hW;have np:∀(x:Option Addr) (k:IntKind) (y:Int),(#[Value.pointer x]:Array Value)[0]?≠some (.int k y):=fun x k y h=>by simp at h
  rcases(show k=0\/k=1\/k=2\/k=3 by omega)with rfl|rfl|rfl|rfl
  .obtain ⟨o,hD,hd,hk,hb⟩:=hW;have h2:=zcO (own:=o) (w:=W) (n:=n) wh sq (hnew o W hD hd hk) hsq (zh (hk _ _ f8).1) (za (hk _ _ fq).1 0) (za (hk _ _ fq1).1 0) (za (hk _ _ f10).1 0) (za (hk _ _ f11).1 0) (za (hk _ _ f12).1 0) hb.1.1 hb.1.2;refine h2.mono fun e W' ⟨he,c,p,o2,w2,hca,hp1,hp2,d2,hw⟩=>⟨0,he,fun _=>?_,fun h=>absurd rfl h⟩;subst hw;have b2:=hb.did d2;have hu:=zj w2 (m+1+1+1) 0 (ptr c);refine⟨o2,c,p,hca.jt hu (rk hca.nib hca.tur b2.1.1 b2.1.2 (np _)),⟨hp1,hp2⟩,(hd.trans d2).mine hu (by omega),(hk.did d2).aside hu (fun j e=>by subst e;exact f13),⟨xJ b2.1.1,b2.1.2⟩,⟨(hu.block _ (zf b2.2.1.1) (by omega)).trans b2.2.1.1,b2.2.1.2⟩,⟨(hu.block _ (zf b2.2.2.1) (by omega)).trans b2.2.2.1,b2.2.2.2⟩⟩
  .obtain ⟨o,c,p,hca,hp,hd,hk,hb⟩:=hW;have h3:=zcP hca (za hb.1.1 0) hb.2.1.1;refine h3.mono fun e W' ⟨he,li,lc,lf,w2,hi,hc,hf,hz,hu2,hw⟩=>⟨0,he,fun _=>?_,fun h=>absurd rfl h⟩;subst hw;rw[hp.1]at hi hc hf;have d2:=hca.ji hu2;have b2:=hb.did d2;have hca2:=hca.new hu2;have hu:=zq w2 (m+1+1+1+1) 0 [ptr li,ptr lc,ptr lf];have lb:=zf hb.2.1.1;have hL:Lg3 o w2 n ssd li lc lf:=⟨⟨hi,hc,hf⟩,hca.far _ hz.1,hca.far _ hz.2.1,hca.far _ hz.2.2⟩
   refine⟨o,c,p,li,lc,lf,hca2.jt hu (rk hca2.nib hca2.tur b2.2.1.1 b2.2.1.2 (fun k y h=>by simp at h)),hp,(hd.trans d2).mine hu (by omega),(hk.did d2).aside hu (fun j e=>by subst e;exact f14),⟨⟨(hu.block _ (zf b2.1.1) (by omega)).trans b2.1.1,b2.1.2⟩,⟨WY b2.2.1.1 rfl,b2.2.1.2⟩,⟨(hu.block _ (zf b2.2.2.1) (by omega)).trans b2.2.2.1,b2.2.2.2⟩⟩,hL.aside hu (by omega) (by omega) (by omega)⟩
  .obtain ⟨o,c,p,li,lc,lf,hca,hp,hd,hk,hb,hL⟩:=hW;have hlz:LgsZ (fun j=>o j=2\/W.heap.size<=j) W li lc lf ssd (1+2*n.pa+n.jo) n.lo F O:={
    i:=hL.1.1
    c:=hL.1.2.1
    f:=hL.1.2.2
    dv:=by have:=hca.jP;rw[hp.1,ha.1,ha.2.1,ha.2.2]at this;exact this
    fl:=by rw[hfl];unfold CaN.size;omega
    nS:=fun j hj=> .inr hj
    iS:=fun h=>by have:=hL.1.1.lt;rcases h with h|h;rw[hL.2.1]at h;cases h;omega
    cS:=fun h=>by have:=hL.1.2.1.lt;rcases h with h|h;rw[hL.2.2.1]at h;cases h;omega
    fS:=fun h=>by have:=hL.1.2.2.lt;rcases h with h|h;rw[hL.2.2.2]at h;cases h;omega
    nib:=hca.nib
    nibS:=fun h=>by have:=hca.nib.lt;rcases h with h|h;rw[hca.on]at h;cases h;omega
    zs:=fun j hj=>hzs j hj}
   have h4:=zcQ hlz hb.2.1.1 hb.2.2.1 (fun h=>by have:=zf hb.2.2.1;rcases h with h|h;rw[hb.2.2.2]at h;cases h;omega);refine h4.mono fun e W' ⟨he,w2,hdv,hu2,hw⟩=>⟨0,he,fun _=>?_,fun h=>absurd rfl h⟩;subst hw;have hca2:=hca.jM (F:=F) (O:=O) (P:=[]) hu2 (by rw[hp.1];exact hdv) (by rw[ha.1]);have hea:({a with dF:=F,dO:=O,dP:=[]}:CaS)=a:=by rw[<-ha.1,<-ha.2.1,<-ha.2.2]
   rw[hea]at hca2;have d2:=hca.did2 hu2;have b2:=hb.did d2;have L2:=hL.did d2;have hu:=zj w2 (m+1+1+1+1+1) 0 (.slice none 0 0);have hbn:=rk hca2.nib hca2.tur b2.2.2.1 b2.2.2.2 (fun k y h=>by simp at h);have ln:∀{l:Nat} {v:Array Value} {t:TypeId},w2.heap[l]?=some (.cells v t (0,0))->(∃x,v[0]?=some (.pointer x))->l≠m+1+1+1+1+1:=by
    rintro l v t h ⟨x,hx⟩ e;rw[e,b2.2.2.1]at h;cases h;simp at hx
   refine⟨_,c,p,li,lc,lf,hca2.jt hu hbn,hp,(hd.trans d2).mine hu (by omega),(hk.did d2).aside hu (fun j e=>by subst e;exact f15),⟨⟨(hu.block _ (zf b2.1.1) (by omega)).trans b2.1.1,b2.1.2⟩,⟨(hu.block _ (zf b2.2.1.1) (by omega)).trans b2.2.1.1,b2.2.1.2⟩,⟨xJ b2.2.2.1,b2.2.2.2⟩⟩,L2.aside hu (ln L2.1.1.str ⟨_,rfl⟩) (ln L2.1.2.1.str ⟨_,rfl⟩) (ln L2.1.2.2.str ⟨_,rfl⟩)⟩
  .obtain ⟨o,c,p,li,lc,lf,hca,hp,hd,hk,hb,hL⟩:=hW;have hck:=ZS hca hsm (by rw[ha.2.1];exact hO5);rw[hck0]at hck;have h5:=zcR hck (za hb.1.1 0);refine h5.mono fun e W' ⟨he,o2,hca2,d2⟩=>⟨0,he,fun _=>?_,fun h=>absurd rfl h⟩;exact⟨o2,c,p,li,lc,lf,hca2,hp,hd.trans d2,hk.did d2,hb.did d2,hL.did d2⟩
def newS(n:CaN)(wh sq:Nat)(F:List Bk)(O:List (Nat×Bk))(G:List Bk)(Q:List (Nat×Bk))(L:List Ent):CaS:=(caS0 n wh (sq+1) F O [] G Q []).ldTo n (dirE L L.length)
theorem wC(L:List Ent):dirE L L.length=L.filter (fun x=>x.d):=by unfold dirE;rw[List.take_length]
theorem qm{n:CaN}{wh sq:Nat}{F G:List Bk}{O Q:List (Nat×Bk)}{L:List Ent}(h:EnOk n L)(hok:n.Ok):
  ((newS n wh sq F O G Q L).dF=F/\(newS n wh sq F O G Q L).dO=O/\(newS n wh sq F O G Q L).dP=[])/\((newS n wh sq F O G Q L).ckpt n).2=0/\(∀k v,(newS n wh sq F O G Q L).sums k=some v->v<=4294967295)/\
   CaS.Ld n (caS0 n wh (sq+1) F O [] G Q []) (dirE L L.length) (newS n wh sq F O G Q L)/\
   ((∀x∈dirE L L.length,x.b<n.bl/\x.s<n.sl/\x.m<=4294967295)/\((dirE L L.length).map (·.s)).Nodup/\((dirE L L.length).map (·.b)).Nodup/\0+(dirE L L.length).length<maxLen):=by
 have hm:∀x∈dirE L L.length,x∈L:=fun x hx=>by rw[wC]at hx;exact(List.mem_filter.1 hx).1
 have hsub:(dirE L L.length).Sublist L:=by rw[wC];exact List.filter_sublist
 have h1:∀x∈dirE L L.length,x.b<n.bl/\x.s<n.sl/\x.m<=4294967295:=fun x hx=>h.1 x (hm x hx);have h2:((dirE L L.length).map (·.s)).Nodup:=h.2.1.sublist (hsub.map _);have h3:((dirE L L.length).map (·.b)).Nodup:=List.Nodup.sublist (hsub.map _) (qXf.2 (h.2.2.imp (fun h=>qYd h)));have h4:=xo n.sl _ h2 (fun s hs=>by obtain⟨x,hx,rfl⟩:=qzv.1 hs;exact(h1 x hx).2.1);rw[qzg]at h4;have hl:=CaS.ldTo_ok (n:=n) (dirE L L.length) (a:=caS0 n wh (sq+1) F O [] G Q []) (tf n.bl n.sl) (fun x hx=>⟨(h1 x hx).1,(h1 x hx).2.1⟩) h2 h3 (fun x _=>⟨wW _ _,xq _ _⟩);obtain⟨-,e1,e2,e3,-,-,e6,-⟩:=hl.oth;exact⟨⟨e1,e2,e3⟩,CaS.NoP.ckpt ⟨e3,e6⟩,CaS.ldTo_sums _ (fun x hx=>(h1 x hx).2.2) (fun k v h=>by cases h),hl,h1,h2,h3,by have:=hok.s2;unfold maxLen;omega⟩
structure Tel(n:CaN)(F:List Bk)(O:List (Nat×Bk))(Q:List Ent->Nat->Nat->Prop):Prop where
 ok:n.Ok
 fl:F.length=n.size
 su:okS (curB F O 0)=true
 ns:dsS (natsI (numsS (curB F O 0)))=n.C
 zs:∀j,j<n.lo+n.lo+n.lo->curB F O (1+2*n.pa+n.jo+j)=zB
 o5:O.length<=50000
 en:∀{S:Nat->Prop} {w w':World} {b:Nat} {e:Ending},EnOut S w b F O n.jo n.pa e w'->∃(v:Value) (L:List Ent) (wh sq:Nat),Q L wh sq/\e=.returned (.tuple #[.int .i64 (wh:Int),.int .i64 (sq:Int),v,.int .i64 0])/\Sl w' 37 4 v L.length (L.flatMap entC)/\From w.heap.size v/\
  Dv (fun j=>S j/\∀g,v.ownBlock=some g->g≠j) w' b F O []/\Upd S w w'
 qq:∀{L:List Ent} {wh sq:Nat},Q L wh sq->EnOk n L/\wh<=1/\sq+1<1099511627776
theorem rQ{own:Nat->Nat}{w:World}{ssd back:Nat}{F G:List Bk}{O Q:List (Nat×Bk)}{n:CaN}{Qp:List Ent->Nat->Nat->Prop}(hD:Dvs own w ssd back F O G Q [])(hE:Tel n F O Qp)(hG:G.length=n.bl):
  Calls prog 23 #[ptr ssd,ptr back] w (fun e w'=>∃L wh sq,Qp L wh sq/\EP own w ssd back n ((newS n wh sq F O G Q L).ckpt n).1 e w'):=by
 obtain⟨U,hU⟩:=qqe (n.C);obtain⟨w1,hw1⟩:=qqe (((w.alloc (.cells #[ptr ssd] 46)).alloc (.cells #[ptr back] 46)).alloc (.cells #[.pointer none,.pointer none,.pointer none] 67));have hu1:Upd (fun _=>False) w w1:=by rw[hw1];exact(((uur _ w).alloc _).alloc _).alloc _
 have z1:w1.heap.size=w.heap.size+3:=by rw[hw1];simp
 obtain⟨ga1,gb1,gc1,-,-⟩:=xQ w (.cells #[ptr ssd] 46) (.cells #[ptr back] 46) (.cells #[.pointer none,.pointer none,.pointer none] 67);rw[<-hw1]at ga1 gb1 gc1;have D1:=hD.new hu1;have hsup:=QY D1.jP (fun j hj=> .inr hj) D1.back (fun j h3 h2=>by rcases h2 with h2|h2;rw[h3]at h2;exact absurd h2 (by decide);rw[D1.far j h2]at h3;exact absurd h3 (by decide)) D1.nib D1.on2 (by rw[hE.fl];have:=hE.ok.s1;unfold CaN.size;omega) n hE.ok (fun _=>hE.ns);have hR:supR n F G (curB F O 0)=(n.C,0):=by unfold supR;rw[if_pos hE.su,if_pos ⟨hE.fl,hG⟩]
 rw[hR]at hsup;have HS:Hid (Calls prog 21 #[ptr ssd,ptr back] w1 (fun e w'=>e=.returned (.tuple #[.agg n.C.toArray,.int .i64 0])/\Dv (fun j=>own j=2\/w1.heap.size<=j) w' ssd F O []/\Upd (fun j=>own j=2\/w1.heap.size<=j) w1 w')):=hsup;have H:=Y4 hD hE hG hU;have H1:=Y7 hw1 hu1 z1 ga1 gb1 gc1 D1;have ca:=za ga1 0;have cb:=za gb1 0;have hUl:U.length=7:=by rw[hU];rfl
 have hU1:∀v∈U,v.oneCell'=true:=by rw[hU];exact n.C_one
 have hsU:(prog.info? 40).map (·.size)=some U.length:=by rw[hU];exact yW
 rw[<-hU]at HS;clear hD hE hG hU hw1 hu1 z1 ga1 gb1 gc1 D1 hsup hR;go_enter func23,ntmps23
 go_wp2_with fail
 rw[<-H1.o.1];refine HS.o.mono ?_;rintro e w2 ⟨rfl,hd2,hu2⟩;have D2:=H1.o.2.2.2.2.2.2.jM hu2 hd2;have did2:=H1.o.2.2.2.2.2.2.did2 hu2;have hu2s:Hid (w1.heap.size<=w2.heap.size):=hu2.size;obtain⟨own2,hown2⟩:=qqe (grow own 2 w1.heap.size w2.heap.size);rw[<-hown2]at D2 did2;obtain⟨w3,hw3⟩:=qqe (w2.alloc (.cells U.toArray 40));have hu3:=qqu hw3;have D3:=D2.new hu3;have did3:=did2.trans (D2.ji hu3);have o0:∀i,w.heap.size<=i->own i=0:=H.o.1.far;have ga3:=did3.zero H1.o.2.2.2.1 (o0 _ (qXv _));have gb3:=did3.zero H1.o.2.2.2.2.1 (o0 _ (by omega));have gc3:=did3.zero H1.o.2.2.2.2.2.1 (o0 _ (by omega));have g83:=qqg hw3;have o83:own2 w2.heap.size=0:=D2.far _ (qXv _);have r83:=zh g83;have ca3:=za ga3.1 0;have hEn:Hid (Calls prog 22 #[.agg U.toArray,ptr ssd] w3 (EnOut (fun j=>own2 j=2\/w3.heap.size<=j) w3 ssd F O n.jo n.pa)):=by
  show Calls _ _ _ _ _;rw[H.o.2.2.2];obtain⟨b1,b2,s1,s2,j1,j2,l1,l2,a1,a2,p1,p2,z⟩:=H.o.2.1.ok;exact Sx D3.jP (fun j hj=> .inr hj) D3.nib D3.on2 n.id n.bl n.sl n.jo n.pa n.lo n.ba b1 b2 s1 s2 j1 j2 l1 l2 a1 a2 p1 p2 z H.o.2.1.fl
 have H3:=Y8 hw3 D3 did3 ga3 gb3 gc3 g83 o83;rw[hw3]at r83 ca3;clear hd2 hu2 D2 did2 hown2 hu3 D3 did3 ga3 gb3 gc3 g83 o83 hw3 o0 HS ca cb;go_wp2_with (first
  |(refine zk rfl _ _ _ rfl _ _ U rfl rfl (by rw[hUl];rfl) hsU hU1 ?_)
  |(refine qZg rfl _ _ rfl _ _ rfl _ _ r83 underlying40 rfl hsU ?_)
  |fail)
 rw[<-H3.o.1];refine hEn.out.mono ?_;intro e w4 he;obtain⟨v,L,wh,sq,hQ,rfl,hsl,hfr,hd4,hu4⟩:=H.o.2.1.en he;obtain⟨own4,D4,did34,ho4⟩:=H3.o.2.1.handed hfr (fun g hg=>hsl.lt hg) hu4 hd4;have did4:=H3.o.2.2.1.trans did34;obtain⟨ao0,cap0,hva⟩:=hsl.rd.jd;subst hva;have HD4:=Y3 D4 did4 did34;have HQ:=Y4 hQ hsl hfr ho4;obtain⟨w4a,hw4a⟩:=qqe (((w4.alloc (.cells #[.int .i64 (wh:Int)] 3)).alloc (.cells #[.int .i64 (sq:Int)] 3)).alloc (.cells #[.slice ao0 L.length cap0] 22));have hu4a:Upd (fun _=>False) w4 w4a:=by rw[hw4a];exact(((uur _ w4).alloc _).alloc _).alloc _
 have hdel:=zcT (hsl.keep hu4a (fun _ _ h=>h));have HDel:=qqh hdel;have HW4:=Y2 hw4a hu4a;clear he hd4 hu4 D4 did4 did34 r83 ca3 hQ hsl hfr ho4 hw4a hu4a hdel;have hmf:=qqf;go_wp2_with fail
 rw[<-HW4.o.1];refine HDel.out.mono ?_;rintro e w4b ⟨v',rfl,hsl',hob,hub⟩;obtain⟨ao,cap,hva⟩:=hsl'.rd.jd;subst hva;obtain⟨ln,hln⟩:=qqe ((dirE L L.length).length);rw[<-hln]at hsl'⊢;have c12:w4b.cell? ⟨w4.heap.size+1+1,0,none⟩=some (.slice ao0 L.length cap0):=by
  have g:w4a.heap[w4.heap.size+1+1]?=some (.cells #[.slice ao0 L.length cap0] 22 (0,0)):=by rw[HW4.o.1];exact zc _ _ (by simp)
  rw[za ((hub.block _ (zf g) (fun e=>by have:=HQ.o.2.1.lt (g:=w4.heap.size+1+1) (by simpa[Value.ownBlock]using e);omega)).trans g)];rfl
 have f12:w4b.frozen? ⟨w4.heap.size+1+1,0,none⟩=false:=by
  have g:w4a.heap[w4.heap.size+1+1]?=some (.cells #[.slice ao0 L.length cap0] 22 (0,0)):=by rw[HW4.o.1];exact zc _ _ (by simp)
  exact zg ((hub.block _ (zf g) (fun e=>by have:=HQ.o.2.1.lt (g:=w4.heap.size+1+1) (by simpa[Value.ownBlock]using e);omega)).trans g) 0
 have HB:=Y4 hsl' hob hub hln;clear hsl' hob hub hln;go_wp2_with fail
 have hsz:w4.heap.size+3<=w4b.heap.size:=by
  have h1:=HB.o.2.2.1.size;have h2:w4a.heap.size=w4.heap.size+3:=by rw[HW4.o.1];simp
  omega
 obtain⟨m,hm⟩:∃m,m+1+1+1=w4b.heap.size:=⟨w4b.heap.size-3,by omega⟩
 obtain⟨m0,hm0⟩:=qqe (w4.heap.size);obtain⟨q,hq⟩:=qqe (w.heap.size);obtain⟨s8,hs8⟩:=qqe (w2.heap.size);rw[<-hm,<-hm0,<-hq,<-hs8];obtain⟨w4c,hw4c⟩:=qqe (w4b.setCell ⟨m0+1+1,0,none⟩ (.slice ao ln cap));rw[<-hw4c];obtain⟨w5,hw5⟩:=qqe ((((w4c.alloc (.cells #[.pointer none] 62)).alloc (.cells #[.pointer none,.pointer none,.pointer none] 67)).alloc (.cells #[.slice none 0 0] 68)).alloc (.cells (XH s8 q m0 m) 71))
 change Calls _ _ _ ((((w4c.alloc (.cells #[.pointer none] 62)).alloc (.cells #[.pointer none,.pointer none,.pointer none] 67)).alloc (.cells #[.slice none 0 0] 68)).alloc (.cells (XH s8 q m0 m) 71)) _
 rw[<-hw5];have HR:Hid (Calls prog 61 #[.slice (some ⟨m+1+1+1+1+1+1,0,none⟩) 4 4] w5 (qt (fun _ _=>False) (fun W=>∃own' c p li lc lf,CaAt own' W c n p ((newS n wh sq F O G Q L).ckpt n).1/\(p.ssd=ssd/\p.back=back)/\Did own own' w W/\(W.heap[q+1+1]?=some (.cells #[.pointer none,.pointer none,.pointer none] 67 (0,0))/\own' (q+1+1)=0)/\Bx own' W m (ptr c) [ptr li,ptr lc,ptr lf]/\Lg3 own' W n ssd li lc lf))):=by
  show Calls _ _ _ _ _;obtain⟨hD0,hE,hG,hU⟩:=H.o;obtain⟨-,hu1,z1,-,-,-,D1⟩:=H1.o;obtain⟨-,D3,did3,ga3,gb3,gc3,g83,o83⟩:=H3.o;obtain⟨D4,did4,did34⟩:=HD4.o;obtain⟨hw4a,hu4a⟩:=HW4.o;obtain⟨hsl',hob,hub,hln⟩:=HB.o;obtain⟨hQ,hsl,hfr,ho4⟩:=HQ.o;rw[<-hq]at ga3 gb3 gc3 z1;rw[<-hs8,hU]at g83;rw[<-hs8]at o83;have hn4:=D4.nib.lt;have ht4:=D4.tur.lt;have hn3:=D3.nib.lt;have ht3:=D3.tur.lt;have hz34:=did34.upd.size;have l8:=zf g83;have lc:=zf gc3.1;have hs18:w1.heap.size<=s8:=by rw[hs8];exact hu2s.out
  have gW:∀j,(Value.slice ao0 L.length cap0).ownBlock=some j->own4 j=0/\j≠0/\j≠1:=fun j hj=>by
   have h:=ho4 j hj;exact⟨h.2,by omega,by omega⟩
  have D4b:=(D4.new hu4a).jt hub gW;have n12:own4 (m0+1+1)=0:=D4.far _ (by omega);have hu4c:Upd (fun j=>j=m0+1+1) w4b w4c:=by rw[hw4c];exact zj _ _ _ _
  have D4c:=D4b.jt hu4c (fun j e=>by subst e;exact⟨n12,by omega,by omega⟩);obtain⟨e3,e4,e5,e6,-,hu5⟩:=xP w4c (.cells #[.pointer none] 62) (.cells #[.pointer none,.pointer none,.pointer none] 67) (.cells #[.slice none 0 0] 68) (.cells (XH s8 q m0 m) 71);have hzc:w4c.heap.size=m+1+1+1:=by rw[hm,hw4c];simp
  rw[<-hw5,hzc]at e3 e4 e5 e6;rw[<-hw5]at hu5;have D5:=D4c.new hu5;have hkeep:∀{b:Nat} {o:Obj},w3.heap[b]?=some o/\own2 b=0->w5.heap[b]?=some o/\own4 b=0:=fun{b o} h=>by
   have h4:=did34.zero h.1 h.2;have hl:=zf h.1;refine⟨?_,h4.2⟩;rw[hu5.block _ (by have:=zf h4.1;have:=hub.size;have:=hu4a.size;have:=hu4c.size;omega) (fun h=>h),hu4c.block _ (by have:=zf h4.1;have:=hub.size;have:=hu4a.size;omega) (by omega),hub.block _ (by have:=zf h4.1;have:=hu4a.size;omega) (fun e=>by have:=(ho4 b e).1;omega),hu4a.block _ (zf h4.1) (fun h=>h)];exact h4.1
  have hww3:w.heap.size<=w3.heap.size:=qXx hu1.size did3.upd.size;have dwa:Did own own4 w w4a:=((hD0.ji hu1).trans did4).trans (D4.ji hu4a);have dwb:Did own own4 w w4b:=⟨dwa.upd.new hub (fun i hi e=>by have:=(ho4 i e).1;omega),dwa.old,dwa.new,fun j hj=>dwa.far j (by have:=hub.size;omega)⟩
  have dw:Did own own4 w w5:=(dwb.mine hu4c (by omega)).trans (D4c.ji hu5);have ka:=hkeep ga3;have kb:=hkeep gb3;have kc:=hkeep gc3;have k8:=hkeep ⟨g83,o83⟩;have of:∀i,m0<=i->own4 i=0:=fun i hi=>D4.far i (by omega);rw[<-hln]at hob;have hms:w3.heap.size<=m0:=by rw[hm0];exact hz34
  have hmm:m0<=m:=by have:=hsz;omega
  obtain⟨b0,b1,b2,bz,-⟩:=xQ w4 (.cells #[.int .i64 (wh:Int)] 3) (.cells #[.int .i64 (sq:Int)] 3) (.cells #[.slice ao0 L.length cap0] 22);rw[<-hw4a,<-hm0]at b0 b1 b2;rw[<-hw4a]at bz;have hgm:∀i,(Value.slice ao0 L.length cap0).ownBlock=some i->w3.heap.size<=i/\i<m0/\own4 i=0:=fun i e=>⟨(ho4 i e).1,by rw[hm0];exact hsl.lt e,(ho4 i e).2⟩
  have up:∀{i:Nat} {o:Obj},w4a.heap[i]?=some o->m0<=i->i≠m0+1+1->w5.heap[i]?=some o:=fun{i o} h h1 h2=>by
   have hl:=zf h;rw[hu5.block _ (by have:=hub.size;have:=hu4c.size;omega) (fun h=>h),hu4c.block _ (by have:=hub.size;omega) h2,hub.block _ hl (fun e=>by have:=(hgm i e).2.1;omega)];exact h
  have e0:=up b0 (qXv _) (by omega);have e1:=up b1 (by omega) (by omega);have e2:w5.heap[m0+1+1]?=some (.cells #[.slice ao ln cap] 22 (0,0)):=by
   have h4b:w4b.heap[m0+1+1]?=some (.cells #[.slice ao0 L.length cap0] 22 (0,0)):=(hub.block _ (zf b2) (fun e=>by have:=(hgm _ e).2.1;omega)).trans b2;rw[hu5.block _ (by have:=hu4c.size;have:=zf h4b;omega) (fun h=>h),hw4c];exact xJ h4b
  have hv5:Sl w5 37 4 (.slice ao ln cap) ln ((dirE L L.length).flatMap entC):=
   (hsl'.keep hu4c (fun i e h=>by rw[hob]at e;have:=(hgm i e).2.1;omega)).keep hu5 (fun _ _ h=>h)
  obtain⟨Fx,hFx⟩:∃Fx:Nat->Option Obj,Fx=fun b=>if b=m+1+1+1+1+1+1 then some (.cells (XH s8 q m0 m) 71)else if b=s8 then some (.cells n.C.toArray 40)else if b=q then some (.cells #[ptr ssd] 46)else if b=q+1 then some (.cells #[ptr back] 46)
   else if b=q+1+1 then some (.cells #[.pointer none,.pointer none,.pointer none] 67)else if b=m0 then some (.cells #[.int .i64 (wh:Int)] 3)else if b=m0+1 then some (.cells #[.int .i64 (sq:Int)] 3)else if b=m0+1+1 then some (.cells #[.slice ao ln cap] 22)
   else if(Value.slice ao0 L.length cap0).ownBlock=some b then w5.heap[b]? else none:=⟨_,rfl⟩
  have hK:Kps own4 w5 Fx:=by
   intro b o hb;rw[hFx]at hb;simp only[]at hb;split at hb
   .rename_i h;subst h;cases hb;exact⟨e6,of _ (by omega)⟩
   split at hb
   .rename_i h;subst h;cases hb;exact k8
   split at hb
   .rename_i h;subst h;cases hb;exact ka
   split at hb
   .rename_i h;subst h;cases hb;exact kb
   split at hb
   .rename_i h;subst h;cases hb;exact kc
   split at hb
   .rename_i h;subst h;cases hb;exact⟨e0,of _ (by omega)⟩
   split at hb
   .rename_i h;subst h;cases hb;exact⟨e1,of _ (by omega)⟩
   split at hb
   .rename_i h;subst h;cases hb;exact⟨e2,of _ (by omega)⟩
   split at hb
   .rename_i h;exact⟨hb,(hgm _ h).2.2⟩
   .cases hb
  have hFv:∀i,(Value.slice ao ln cap).ownBlock=some i->Fx i=w5.heap[i]?:=fun i e=>by
   rw[hob]at e;have h:=hgm i e;rw[hFx];simp only[];rw[if_neg (by omega),if_neg (by omega),if_neg (by omega),if_neg (by omega),if_neg (by omega),if_neg (by omega),if_neg (by omega),if_neg (by omega),if_pos e]
  obtain⟨en,hwh,hsq⟩:=hE.qq hQ;obtain⟨n1,n2,n3,n4,n5⟩:=qm (n:=n) (wh:=wh) (sq:=sq) (F:=F) (G:=G) (O:=O) (Q:=Q) en hE.ok;have hnew:∀o W,Dvs o W ssd back F O G Q []->Did own o w W->Kps o W Fx->Calls prog 74 #[.agg n.C.toArray,ptr ssd,ptr back,.int .i64 (wh:Int),.int .i64 ((sq+1:Nat):Int),.slice ao ln cap] W (ZC o W ssd back n (newS n wh sq F O G Q L)):=fun o W hD _ hk=>
   zbz hD.ssd hD.back hD.far hD.nib hD.tur hD.on hD.ot hE.ok hE.fl hG wh (sq+1) hwh hsq ao ln cap (newS n wh sq F O G Q L) (fun o2 W2 c p d2 h=>by
    have hk2:=hk.did d2;have hv2:Sl W2 37 4 (.slice ao ln cap) ln ((dirE L L.length).flatMap entC):=hv5.same (fun i e=>by
     obtain⟨x,hx⟩:∃x,w5.heap[i]?=some x:=⟨_,qxe (hv5.lt e)⟩
     rw[hx];exact(hk2 i x ((hFv i e).trans hx)).1)
    rw[hln]at hv2⊢;exact Tz h hv2 (fun i e=>by
     obtain⟨x,hx⟩:∃x,w5.heap[i]?=some x:=⟨_,qxe (hv5.lt (by rw[hln];exact e))⟩
     exact(hk2 i x ((hFv i (by rw[hln];exact e)).trans hx)).2) (tf n.bl n.sl) n5.1 n5.2.1 n5.2.2.1 (fun x _=>⟨wW _ _,xq _ _⟩) ⟨n5.2.2.2,n5.2.2.2,n5.2.2.2⟩)
  have hr:=Sy (own:=own) (own':=own4) (w:=w) (W:=w5) (g:=m+1+1+1+1+1+1) (m:=m) (m0:=m0) (s8:=s8) (q:=q) (Fx:=Fx) (ao:=ao) (ln:=ln) (cap:=cap) (by omega) hE.fl hE.zs n1 n2 n3 hE.o5 hnew (by omega) D5 dw hK ⟨⟨e3,of _ (by omega)⟩,⟨e4,of _ (by omega)⟩,⟨e5,of _ (by omega)⟩⟩
   (by rw[hFx];simp) (by rw[hFx];simp only[];rw[if_neg (by omega),if_pos trivial]) (by rw[hFx];simp only[];rw[if_neg (by omega),if_neg (by omega),if_pos trivial]) (by rw[hFx];simp only[];rw[if_neg (by omega),if_neg (by omega),if_neg (by omega),if_pos trivial])
   (by rw[hFx];simp only[];rw[if_neg (by omega),if_neg (by omega),if_neg (by omega),if_neg (by omega),if_neg (by omega),if_pos trivial]) (by rw[hFx];simp only[];rw[if_neg (by omega),if_neg (by omega),if_neg (by omega),if_neg (by omega),if_neg (by omega),if_neg (by omega),if_pos trivial])
   (by rw[hFx];simp only[];rw[if_neg (by omega),if_neg (by omega),if_neg (by omega),if_neg (by omega),if_neg (by omega),if_neg (by omega),if_neg (by omega),if_pos trivial])
   (by rw[hFx];simp only[];rw[if_neg (by omega),if_neg (by omega),if_neg (by omega),if_neg (by omega),if_neg (by omega),if_neg (by omega),if_neg (by omega),if_neg (by omega),if_neg (fun e=>by have:=(hgm _ e).2.1;omega)])
   (by rw[hFx];simp only[];rw[if_neg (by omega),if_neg (by omega),if_neg (by omega),if_neg (by omega),if_neg (by omega),if_neg (by omega),if_neg (by omega),if_neg (by omega),if_neg (fun e=>by have:=(hgm _ e).2.1;omega)])
   (by rw[hFx];simp only[];rw[if_neg (by omega),if_neg (by omega),if_neg (by omega),if_neg (by omega),if_neg (by omega),if_neg (by omega),if_neg (by omega),if_neg (by omega),if_neg (fun e=>by have:=(hgm _ e).2.1;omega)])
  refine hr.mono fun e W ⟨c,he,h1,h2⟩=>⟨c,he,fun hc=>?_,h2⟩;obtain⟨o6,c6,p6,li,l2,l3,hca,hp,hd,hk,hb,hL⟩:=h1 hc;exact⟨o6,c6,p6,li,l2,l3,hca,hp,hd,hk _ _ (by rw[hFx];simp only[];rw[if_neg (by omega),if_neg (by omega),if_neg (by omega),if_neg (by omega),if_pos trivial]),hb,hL⟩
 have HM:Hid (q+1+1<m0/\m0<=m):=by
  have h1:=H1.o.2.2.1;have h2:=zf (H3.o.2.2.2.2.2.1.1);have h3:=HD4.o.2.2.upd.size;exact⟨by omega,by omega⟩
 clear hw5 hm hm0 hs8 H3 HD4 hEn hw4c hsz c12 f12;refine HR.o.mono ?_;rintro e w6 ⟨c0,rfl,h1,h2⟩;by_cases hc0:c0=0
 rotate_left
 .exact (h2 hc0).elim
 subst hc0;obtain⟨o6,c6,p6,li,l2,l3,hca,hp,hd,hk,hb,hL⟩:=h1 rfl;have H6:=Y6 hca hp hd hk hb hL;have c13:=za hb.1.1 0;have r14:=zh hb.2.1.1;have c15:=za hb.2.2.1 0;have hqq:=hq;have HQw:Hid (w.heap.size<=q+1+1):=by show _<=_;omega
 clear h1 h2 hca hp hd hk hb hL HR;go_wp2_with fail
 rw[<-hqq];clear hq hqq;have tA:=zO (n:=3) H6.o.2.2.2.1.1 (by simp);refine qZj (S:=fun W=>W.cell? ⟨m+1+1+1,0,none⟩=some (ptr c6)/\W.rangeAt (m+1+1+1+1) 0 [ptr li,ptr l2,ptr l3]/\W.cell? ⟨m+1+1+1+1+1,0,none⟩=some (.slice none 0 0)) (by kernel_rfl) (⟨by rw[qYo];exact c13,by rw[qYq];exact r14,by rw[qYo];exact c15⟩) (fun hHeld=>?_);refine Wl.i [0,2] ?_;iterate 2 refine Wl.t hHeld ?_
 refine Wl.o ?_;refine Wl.l 1 (fun w h=>h.2.1) underlying67 xx hHeld ?_;refine Wl.r 3 (fun K hK=>?_);go_simp
 refine hK.o _ _ (hHeld) (fun hHeld2=>?_);clear hK K;have hud:Upd (fun _=>False) w6 w6.drew:=(uur _ w6).drew;have tA7:w6.drew.there (q+1+1) 0 3:=zO (n:=3) (hud.jc H6.o.2.2.2.1.1) (by simp);have hur:=zq w6.drew (q+1+1) 0 [ptr li,ptr l2,ptr l3];have hHeld3:(w6.drew.setCells (q+1+1) 0 [ptr li,ptr l2,ptr l3]).cell? ⟨m+1+1+1,0,none⟩=some (ptr c6)/\(w6.drew.setCells (q+1+1) 0 [ptr li,ptr l2,ptr l3]).rangeAt (m+1+1+1+1) 0 [ptr li,ptr l2,ptr l3]/\(w6.drew.setCells (q+1+1) 0 [ptr li,ptr l2,ptr l3]).cell? ⟨m+1+1+1+1+1,0,none⟩=some (.slice none 0 0):=
  ⟨hur.ja hHeld2.1 (by have:=HM.o;omega),hur.range hHeld2.2.1 (by have:=HM.o;omega),hur.ja hHeld2.2.2 (by have:=HM.o;omega)⟩
 refine Wl.r 4 (fun K hK=>?_);rw[if_pos (by rfl)];refine qZk _ _ _ rfl _ _ [ptr li,ptr l2,ptr l3].toArray rfl rfl tA7 xx (by simp[Value.oneCell']) ?_;simp only[Act.put,qXi];refine hK.o _ _ (hHeld3) (fun _=>?_);clear hK K hHeld hHeld2;refine Wl.r 5 (fun K hK=>?_);go_simp
 refine hK.o _ _ (hHeld3) (fun _=>?_);clear hK K;refine Wl.r 6 (fun K hK=>?_);go_simp
 refine hK.o _ _ (hHeld3) (fun _=>?_);clear hK K;refine Wl.d ?_;have HE:=Y2 hud hur;clear hHeld3 hud hur c13 r14 c15 tA;go_wp2
 refine qYw (rN rfl _ _ (q+1+1) 0 [ptr li,ptr l2,ptr l3] _ rfl (qYr _ _ _ _ tA7) underlying67 rfl xx) rfl ?_;obtain⟨hca,hp,hd,hk,hb,hL⟩:=H6.o;obtain⟨hud,hur⟩:=HE.o;have d7:=hca.ji hud;have hca7:=hca.new hud;have k7:=d7.zero hk.1 hk.2;have L7:=hL.did d7;have hbn:=rk hca7.nib hca7.tur k7.1 k7.2 (fun k y h=>by simp at h);have ln:∀{l:Nat} {v:Array Value} {t:TypeId},w6.drew.heap[l]?=some (.cells v t (0,0))->(∃x,v[0]?=some (.pointer (some x)))->l≠q+1+1:=by
  rintro l v t h ⟨x,hx⟩ e;rw[e,k7.1]at h;cases h;simp at hx
 have hqw:w.heap.size<=q+1+1:=HQw.out;exact⟨L,wh,sq,HQ.o.1,c6,p6,o6,li,l2,l3,rfl,hca7.jt hur hbn,hp.1,hp.2,(hd.trans d7).mine hur hqw,L7.1.1.keep hur (ln L7.1.1.str ⟨_,rfl⟩),L7.1.2.1.keep hur (ln L7.1.2.1.str ⟨_,rfl⟩),L7.1.2.2.keep hur (ln L7.1.2.2.str ⟨_,rfl⟩),L7.2.1,L7.2.2.1,L7.2.2.2⟩
end Go.Proofs.YtfhfbpmlnjdfoaaGreatDoor
namespace Go.Proofs.YtfhfbpmlnjdfoaaGreatDoor
open Go Go.RowKit Tryz
theorem xN{α β:Type}{f:α->β}:∀{l:List α},(l.map f).Nodup->∀{x y:α},x∈l->y∈l->f x=f y->x=y
 |[],_,x,_,hx,_,_=>by cases hx
 |z::l,h,x,y,hx,hy,e=>by
  rw[qzm,qXb]at h;rcases qzr.1 hx with e1|h1
  .rcases qzr.1 hy with e2|h2
   .rw [e1,e2]
   .exact absurd (by rw[<-e1,e];exact List.mem_map_of_mem h2) h.1
  .rcases qzr.1 hy with e2|h2
   .exact absurd (by rw[<-e2,<-e];exact List.mem_map_of_mem h1) h.1
   .exact xN h.2 h1 h2 e
theorem EnOk.nd{n:CaN}{L:List Ent}(h:EnOk n L):((L.map Ent.toI).map EI.b).Nodup:=by
 rw[qzn];refine qXf.2 (h.2.2.imp fun h e=>?_);simp only[Function.comp,Ent.toI]at e;omega
section
variable{n:CaN}{Z:Nat->Bk}{a:CaS}{E:Nat->List Ent}{R:Nat->List Int}{f0 com fp:Nat}
def EnHi(S:Nat->Prop)(w:World)(b:Nat)(F:List Bk)(n:CaN)(E:Nat->List Ent)(com fp:Nat)(e:Ending)(w':World):Prop:=
 ∃(v:Value) (t wh sq:Nat),e=.returned (.tuple #[.int .i64 (wh:Int),.int .i64 (sq:Int),v,.int .i64 0])/\com<=t/\t<=fp/\wh<=1/\t<=sq/\sq<=fp/\(∀r∈scanTo F [] n.jb n.jo n.jo,rseq r<=sq)/\
  Sl w' 37 4 v (E t).length ((E t).flatMap entC)/\From w.heap.size v/\Dv (fun j=>S j/\∀g,v.ownBlock=some g->g≠j) w' b F [] []/\Upd S w w'
theorem Hs.entries(h:Hs n Z a E R f0 com fp)(hok:n.Ok)(hN:a.next<=1099511627776){S:Nat->Prop}{w w':World}{b:Nat}{e:Ending}(he:EnOut S w b a.dF [] n.jo n.pa e w'):EnHi S w b a.dF n E com fp e w':=by
 obtain⟨v,L,wh',sq',c,rfl,hsl,hfr,hd,hu,hx⟩:=he;obtain⟨wh,s0,w1,w2,w3,hnw⟩:=h.newest hok hN;have c4:=h.c4;have c3:=h.c3;have c1:=h.c1;rw[hnw]at hx;rcases hx with⟨-,-,hx⟩|⟨-,Rs,hp,hle,r,hr,hx⟩
 .cases hx
 dsimp only at hr hx;obtain⟨sc1,sc2,sc3⟩:=h.scan n.jo (qXv _);have hlt:Rs.Pairwise (fun x y=>rseq x<rseq y):=by
  have hne:Rs.Pairwise (fun x y=>rseq x≠rseq y):=(hp.pairwise_iff (fun h=>fun e=>h e.symm)).2 sc2;exact(hle.and hne).imp (fun h=>by have:=h.1;have:=h.2;omega)
 obtain⟨r1,r2,r3,r4,r5,r6,r7⟩:=VV hlt s0 Rs.length (qXv _);rw[List.take_length]at r1 r2 r3 r4 r5 r6 r7;rw[<-hr]at r1 r2 r3 r4 r5 r6 r7;have hmem:∀x∈Rs,∃t,f0<t/\t<=fp/\x=rcN R t:=fun x hx=>by
  obtain⟨t,t1,t2,-,e⟩:=sc1 x (hp.mem_iff.1 hx);exact⟨t,t1,t2,e⟩
 have hdi:∀i (hi:i<r.d.length),f0<s0+1+i/\s0+1+i<=fp/\natsI r.d[i]=R (s0+1+i):=fun i hi=>by
  obtain⟨q1,q2⟩:=r2 i hi;obtain⟨t,t1,t2,e⟩:=hmem _ q2;obtain⟨n1,n2,-⟩:=h.recN t1 (by omega);rw[e,n2]at q1;subst q1;rw[e];exact⟨t1,t2,n1⟩
 obtain⟨tE,htE⟩:=qqe (s0+r.d.length);have hchain:∀k,k<=r.d.length->apRs (enM (E s0)) ((r.d.map natsI).take k)=enM (E (s0+k)):=by
  intro k
  induction k with
  |zero=>intro _;rw[List.take_zero];rfl
  |succ k ih=>
   intro hk;obtain⟨q1,q2,q3⟩:=hdi k (by omega);have hkl:k<(r.d.map natsI).length:=by rw[qzg];omega
   rw[sY _ _ hkl,ih (by omega),qyy,q3];have:=(h.rc (s0+1+k) q1 (by omega)).2;rw[show s0+1+k-1=s0+k by omega]at this;rw[show s0+(k+1)=s0+1+k by omega,this]
 have hF:apRs (apM ((E s0).map Ent.toI)) (r.d.map natsI)=enM (E tE):=by
  have:=hchain r.d.length (qXv _);rw[qXp (by simp)]at this;rw[htE];exact this
 have htfp:tE<=fp:=by
  rcases qXt r.d.length with h0|h0
  .omega
  .have:=(hdi (r.d.length-1) (by omega)).2.1;omega
 have hcomt:com<=tE:=by
  refine Nat.le_of_not_lt fun hlt2=>?_;have hml:=qYa (tE+1-1) (show 0<n.jo by have:=hok.j1;omega);have hin:=hp.mem_iff.2 (sc3 (tE+1) (by omega) (by omega) hml);have hq:=r3 _ hin;rw[(h.recN (t:=tE+1) (by have:=h.f1;omega) (by omega)).2.1,r1]at hq;omega
 have hen:=h.en tE (by omega);have hmL:∀e,e∈(E tE).map Ent.toI↔enM (E tE) e.b=some e:=fun e=>by
  unfold enM;rw[qk hen.nd];exact⟨fun h=>⟨h,rfl⟩,fun h=>h.1⟩
 have hsq:r.g<=fp:=by
  rcases r7 with e|⟨x,hx,e⟩
  .omega
  .obtain ⟨t,t1,t2,rfl⟩:=hmem x hx;rw[(h.recN t1 (by omega)).2.1]at e;omega
 rw[hF]at hx;rcases hx with⟨-,-,hx|⟨L0,hL0,hx⟩⟩|⟨rfl,rfl,rfl,hL,hns,hst⟩
 .exact absurd (h.en s0 (by omega)).nd hx
 .refine absurd (qXf.2 ((qXf.1 hL0.1).imp_of_mem fun{x y} hx hy hb hs=>hb ?_)) hx;obtain⟨x',hx',rfl⟩:=qzv.1 ((hmL x).2 ((hL0.2 x).1 hx));obtain⟨y',hy',rfl⟩:=qzv.1 ((hmL y).2 ((hL0.2 y).1 hy));have hs:(x'.s:Int)=(y'.s:Int):=hs;rw[xN hen.2.1 hx' hy' (by omega)]
 .have hLe:L=(E tE).map Ent.toI:=ql EI.b hst (qXf.2 (hen.2.2.imp fun h=>by show(_:Int)<_;simp only[Ent.toI];omega)) (fun x=>(hL.2 x).trans (hmL x).symm);rw[hLe,qzg,rp]at hsl;exact⟨v,tE,_,r.g,rfl,hcomt,htfp,w1,by omega,hsq,fun x hx=>r4 x (hp.mem_iff.2 hx),hsl,hfr,hd,hu⟩
end
end Go.Proofs.YtfhfbpmlnjdfoaaGreatDoor
