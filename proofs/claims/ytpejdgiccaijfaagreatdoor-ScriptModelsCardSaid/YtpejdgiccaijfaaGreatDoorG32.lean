/- A volume's Wri -/
import Derived.Test.YtpejdgiccaijfaaGreatDoorG27
import Derived.Test.YtpejdgiccaijfaaGreatDoorG26
set_option maxRecDepth 100000
set_option maxHeartbeats 4000000
namespace Go.Proofs.YtpejdgiccaijfaaGreatDoor
open Go Go.RowKit Tryz
def Rz(own:Nat->Nat)(W:World)(v:Value)(F:List Bk):Prop:=Sl W 60 64 v F.length (rowC F)/\∀g,v.ownBlock=some g->own g=0
section
variable{own0 own own':Nat->Nat}{w0 W W':World}{v:Nat}{q:VoP}{n:CaN}{p:CaP}{a a':CaS}{md:Int}
theorem Rz.did{u:Value}{F:List Bk}(h:Rz own W u F)(d:Did own own' W W'):Rz own' W' u F:=
 ⟨h.1.keep d.upd (fun g hg hs=>hs.1 (h.2 g hg)),fun g hg=>(d.old g (h.1.lt hg)).trans (h.2 g hg)⟩
theorem Rz.new{u:Value}{F:List Bk}(h:Rz own W u F)(hu:Upd (fun _=>False) W W'):Rz own W' u F:=⟨h.1.keep hu (fun _ _ h=>h),h.2⟩
structure WrSt(own0:Nat->Nat)(w0:World)(v:Nat)(q:VoP)(n:CaN)(p:CaP)(md:Int)(a:CaS)(f:Int)(xs:List Bk)(lv:Value)(M vb fb lb sb:Nat)(sv:Array Value)(k:Nat)(own:Nat->Nat)(W:World):Prop where
 vo:VoFr own0 w0 v q n p md own W (CaS.wrN n md f xs a k)
 bv:Bo own W vb #[ptr v] 49
 bf:Bo own W fb #[.int .i64 f] 3
 bl:Bo own W lb #[lv] 32
 bs:Bo own W sb sv 52
 ro:Rz own W lv xs
 ti:(CaS.wrN n md f xs a k).Tie n none
 fi:(CaS.wrN n md f xs a k).Fit (M+k*(3*n.pa+n.jo+6))
theorem zbh{f:Int}{vb fb lb sb k M:Nat}{sv:Array Value}{lv:Value}{xs:List Bk}(h:WrSt own0 w0 v q n p md a f xs lv M vb fb lb sb sv k own W)(h64:All64 xs)(hk:k<xs.length)(hf4:0<=f/\f+xs.length<=4096)(hc:CaS.wrC n md f xs a k=0)(hM:M+(k+1)*(3*n.pa+n.jo+6)<=50000):
  Calls prog 106 #[.int .i64 (f+(k:Int)),ptr vb,ptr lb,ptr fb] W fun e W'=>e=.returned (.int .i64 0)/\∃own',WrSt own0 w0 v q n p md a f xs lv M vb fb lb sb sv (k+1) own' W':=by
 obtain⟨g,o,cc,hlv,r0⟩:=Uk h.ro.1.rd h64 hk;have hxl:=h64 _ (qyu hk);have hget:xs.getD k zB=xs[k]:=by rw[qyf,qyj hk];rfl
 have hdr:=(uur (fun _=>False) W).drew;have hm:M+k*(3*n.pa+n.jo+6)+3*n.pa+n.jo+6=M+(k+1)*(3*n.pa+n.jo+6):=by rw[Nat.add_mul];omega
 have hW:=Sb (h.vo.new hdr).vo.ca h.fi oM h.ti (f+(k:Int)) xs[k] hxl md;have c0:=h.bv.cell 0;have c1:=za h.vo.vo.g 0;have c2:=za h.vo.vo.g 8;have c3:=h.bl.cell 0;have c4:=h.bf.cell 0;simp[EL]at c0 c1 c2 c3 c4;have hti:=h.ti.kq h.vo.vo.ca.nx1 h.vo.vo.ca.ok.j1 (f+(k:Int)) xs[k] md;have hfi:=h.fi.kq h.vo.vo.ca.jg h.vo.vo.ca.nx1 h.vo.vo.ca.ok.j1 (f+(k:Int)) xs[k] md;rw[hm]at hfi;unfold CaS.wrC at hc;rw[hget]at hc;rw[hc]at hW;rw[<-hget]at hti hfi hW;have HC:=qqh hW;have HT:=Y4 hti hfi h hdr;have q1:f+(k:Int)-f=(k:Int):=oM;have q2:IntKind.i64.wrap (k:Int)=(k:Int):=qxu _ oM;have k0:(0:Int)<=(k:Int):=oM;have k1:(k:Int)<(xs.length:Int):=oM;have hsi:=zq xs[k] hxl;have hut:=underlying60;subst hlv;rw[<-hget]at r0 hsi;obtain⟨x,hx⟩:=qqe (xs.getD k zB);rw[<-hx]at r0 hsi HC;have HX:=qqh hx;clear h hm hW hti hfi hdr hc hxl hget hx;go_enter func106,ntmps106
 go_upto_region 1 with fail
 refine qZb (S:=fun W=>W.cell? ⟨vb,0,none⟩=some (ptr v)/\W.cell? ⟨v,0,none⟩=some (ptr q.c)/\W.cell? ⟨v,8,none⟩=some (.int .i64 md)/\W.cell? ⟨lb,0,none⟩=some (.slice (some ⟨g,o,none⟩) xs.length cc)/\W.cell? ⟨fb,0,none⟩=some (.int .i64 f)/\W.rangeAt g (o+k*64) (bkC x)) kR (⟨by rw[qYh];exact c0,by rw[qYh];exact c1,by rw[qYh];exact c2,by rw[qYh];exact c3,by rw[qYh];exact c4,by rw[qYj];exact r0⟩) (fun hHeld=>?_);refine Wl.i [0,1,2,3,4,5,6,7,8,9] ?_;iterate 10 refine Wl.t hHeld ?_
 refine Wl.o ?_;refine Wl.l 10 (fun w h=>h.2.2.2.2.2) hut hsi hHeld ?_;refine Wl.i [11,12,13,14] ?_;iterate 4 refine Wl.t hHeld ?_
 refine Wl.o ?_;refine Wl.r 15 (fun K hK=>?_);go_simp
 refine HC.o.mono ?_;rintro e w5 ⟨rfl,own5,h5,d5⟩;have H5:=qqh (⟨own5,h5,d5⟩:∃own',CaAt own' w5 q.c n p _/\Did own own' W.drew w5);obtain⟨-,-,h,hdr⟩:=HT.o;have d6:=(h.vo.vo.ca.jY hdr).trans d5;have s0:=(h.bv.did d6).cell 0;have s1:=za (h.vo.vo.did h5 d6).g 0;have s2:=za (h.vo.vo.did h5 d6).g 8;have s3:=(h.bl.did d6).cell 0;have s4:=(h.bf.did d6).cell 0;simp[EL]at s0 s1 s2 s3 s4;have s5:=d6.upd.range r0 (fun e=>e.1 (h.ro.2 g rfl));clear h5 d5 h hdr d6;refine hK.o _ _ (⟨s0,s1,s2,s3,s4,s5⟩) (fun hH1=>?_);clear hK K;refine Wl.r 16 (fun K hK=>?_);go_simp
 refine hK.o _ _ (hH1) (fun hH2=>?_);clear hK K;refine Wl.d ?_;go_wp2
 go_ret
 obtain⟨hti,hfi,h,hdr⟩:=HT.o;obtain⟨own5,h5,d5⟩:=H5.o;rw[HX.o]at h5;have hu:=h.vo.vo.ca.jY hdr;have d6:=hu.trans d5;exact⟨rfl,own5,(h.vo.new hdr).did h5 d5,h.bv.did d6,h.bf.did d6,h.bl.did d6,h.bs.did d6,h.ro.did d6,hti,hfi⟩
theorem SC(h:VolAt own W v q n p a md false)(h1:∀x∈a.W,1<=x.1)(hO:a.dO.length+a.W.length<=65536):
  Calls prog 66 #[ptr v] W (Au own W v q n p (a.jX n).1 md false (.int .i64 (a.jX n).2)):=by
 have c:=za h.g 0;simp[EL]at c;have HR:=qqh (rE h);have HC:=qqh (vR h.ca h1 hO);have H:=qqh h;clear h;go_enter func66,ntmps66
 go_wp2_with fail
 refine HR.o.mono ?_;rintro e w2 ⟨rfl,rfl⟩;go_wp2_with fail
 refine HC.o.mono ?_;rintro e w3 ⟨rfl,own3,h3,d3⟩;have H3:=Y2 (H.o.did h3 d3) d3;clear h3 d3 c;generalize (CaS.jX n a).2=cd at*;go_wp2
 go_ret
 exact⟨rfl,own3,H3.o.1,H3.o.2⟩
def CaS.wrF(n:CaN)(md f:Int)(xs:List Bk)(a:CaS)(firm:Bool):CaS:=if firm then((CaS.wrN n md f xs a xs.length).jX n).1 else CaS.wrN n md f xs a xs.length
theorem SD{f:Int}{xs:List Bk}{lv:Value}{M:Nat}{firm:Bool}(h:VolAt own W v q n p a md false)(hs:Eh n.bl f xs.length)(h64:All64 xs)(hr:Rz own W lv xs)(hti:a.Tie n none)(hfi:a.Fit M)(hM:M+xs.length*(3*n.pa+n.jo+6)<=50000)
  (hc:∀k,k<xs.length->CaS.wrC n md f xs a k=0) (hcm:firm=true->((CaS.wrN n md f xs a xs.length).jX n).2=0):
  Calls prog 64 #[ptr v,.int .i64 f,.bool firm,lv] W (Au own W v q n p (CaS.wrF n md f xs a firm) md false (.int .i64 0)):=by
 have hb4:=h.ca.ok.b2;have hN1:1<=xs.length:=by obtain⟨-,s2,-,-⟩:=hs;omega
 have hf4:0<=f/\f+xs.length<=4096:=by obtain⟨s1,-,-,s4⟩:=hs;omega
 obtain⟨vb,hvb⟩:=qqe (W.heap.size);obtain⟨w1,hw1⟩:=qqe (((W.alloc (.cells #[ptr v] 49)).alloc (.cells #[.int .i64 f] 3)).alloc (.cells #[lv] 32));have hu1:Upd (fun _=>False) W w1:=by rw[hw1];exact(((uur _ W).alloc _).alloc _).alloc _
 have hz1:w1.heap.size=vb+3:=by rw[hw1,hvb];simp
 have g0:w1.heap[vb]?=some (.cells #[ptr v] 49 (0,0)):=by rw[hw1,hvb];exact(((uur (fun _=>False) _).alloc _).alloc _).jT (zc W _ rfl)
 have g1:w1.heap[vb+1]?=some (.cells #[.int .i64 f] 3 (0,0)):=by rw[hw1,hvb];exact((uur (fun _=>False) _).alloc _).jT (zc _ _ oe)
 have g2:w1.heap[vb+2]?=some (.cells #[lv] 32 (0,0)):=by rw[hw1,hvb];exact zc _ _ oe
 obtain⟨w2,hw2⟩:=qqe (w1.alloc (.cells #[.int .i64 f,.int .i64 (xs.length:Int)] 52));have hu2:=qqu hw2;have g3:w2.heap[vb+3]?=some (.cells #[.int .i64 f,.int .i64 (xs.length:Int)] 52 (0,0)):=by rw[hw2];exact zc _ _ hz1.symm
 have F1:VoFr own W v q n p md own w1 a:=(VoFr.start h).new hu1;have F2:=F1.new hu2;have HR:=qqh (rE F1.vo);have HO:=qqh (EN F2.vo hs);have r3:=zg g3;have k0:w1.cell? ⟨vb,0,none⟩=some (ptr v):=za g0 0;have k1:w1.cell? ⟨vb+1,0,none⟩=some (.int .i64 f):=za g1 0;have k2:w1.cell? ⟨vb+2,0,none⟩=some lv:=za g2 0;have l0:w2.cell? ⟨vb,0,none⟩=some (ptr v):=hu2.jS k0 id;have HB:=Y5 (show Bo own w2 vb #[ptr v] 49 from⟨hu2.jT g0,h.ca.far _ oM⟩) (show Bo own w2 (vb+1) #[.int .i64 f] 3 from⟨hu2.jT g1,h.ca.far _ oM⟩) (show Bo own w2 (vb+2) #[lv] 32 from⟨hu2.jT g2,h.ca.far _ oM⟩) (show Bo own w2 (vb+3) #[.int .i64 f,.int .i64 (xs.length:Int)] 52 from⟨g3,h.ca.far _ oM⟩) F2;have H:=Y8 hti hfi hM hc hcm h64 hf4 ((hr.new hu1).new hu2);have HW:=Y3 hw1 hw2 hvb;have hut:=underlying52;have hsi:=wV;have hmf:=qqf;obtain⟨ao,cc,rfl⟩:=hr.1.rd.jU;have hN4:(xs.length:Int)<=4096:=oM;have q1:¬(xs.length:Int)=0:=oM;have q2:((xs.length:Int)==0)=false:=by simpa using q1
 clear h hs hb4 hf4 hw1 hu1 hw2 hu2 g0 g1 g2 g3 F1 F2 hti hfi hM hc hcm h64 hr hvb hz1 hN1;go_enter func64,ntmps64
 go_upto_region 1 with fail
 rw[<-HW.o.1,<-HW.o.2.2];go_wp2_with fail
 refine HR.o.mono ?_;rintro e w' ⟨rfl,rfl⟩;go_upto_region 7 with fail
 rw[show w'.heap.size=vb+3 from by rw[HW.o.1,HW.o.2.2];simp,<-HW.o.2.1];rw[show vb+1+1=vb+2 from rfl];clear k0 k1 k2;go_wp2_with (first
  |(refine qYy rfl _ _ rfl _ _ rfl _ _ r3 hut rfl hsi ?_)
  |fail)
 refine HO.o.mono ?_;rintro e w3 ⟨rfl,hb3⟩;have hu3:=uuo (S:=fun _=>False) hb3;obtain⟨bv,bf,bl,bs,F2⟩:=HB.o;have bv3:=bv.keep hu3 id;have bf3:=bf.keep hu3 id;have bl3:=bl.keep hu3 id;have r4:=zg (bs.keep hu3 id).1;have l1:=bv3.cell 0;simp at l1;have F3:=F2.new hu3;have hua:Upd (fun _=>False) w3 (w3.alloc (.cells #[.int .i64 f,.int .i64 (xs.length:Int)] 52)):=(uur _ w3).alloc _;obtain⟨hti,hfi,hM,hc,hcm,h64,hf4,hr⟩:=H.o;obtain⟨M',hM'⟩:=qqe (3*n.pa+n.jo+6);have hst:WrSt own W v q n p md a f xs (.slice ao xs.length cc) M vb (vb+1) (vb+2) w3.heap.size #[.int .i64 f,.int .i64 (xs.length:Int)] 0 own (w3.alloc (.cells #[.int .i64 f,.int .i64 (xs.length:Int)] 52)):=
  ⟨F3.new hua,bv3.keep hua id,bf3.keep hua id,bl3.keep hua id,⟨zc _ _ rfl,F3.vo.ca.far _ (qXo _)⟩,(hr.new hu3).new hua,hti,by rw[qXz];exact hfi⟩
 have HE:=qqh (Un (g:=v) (N:=xs.length) 106 #[] #[ptr vb,ptr (vb+2),ptr (vb+1)] (fun k X=>∃own',WrSt own W v q n p md a f xs (.slice ao xs.length cc) M vb (vb+1) (vb+2) w3.heap.size #[.int .i64 f,.int .i64 (xs.length:Int)] k own' X) hf4 (w:=w3) (enters_of func106 kR rfl)
  (fun k X ⟨own',hX⟩=>hX.bs.cell 0)
  (fun k hk X ⟨own',hX⟩=>zbh hX h64 hk hf4 (hc k hk) (by
   have:=qXu (3*n.pa+n.jo+6) (show k+1<=xs.length by omega);omega)) ⟨own,hst⟩)
 clear hb3 hu3 bv bf bl bs F2 bv3 bf3 bl3 F3 hua hti hfi hM hc hcm h64 hf4 hr hst r3 l0 HO hM' M';go_upto_region 11 with(first
  |(refine qYy rfl _ _ rfl _ _ rfl _ _ r4 hut rfl hsi ?_)
  |(go_at_call 101;refine Stop.i ?_)
  |fail)
 unfold Stop;refine HE.o.mono ?_;rintro e w5 ⟨rfl,own5,h5⟩;obtain⟨hti,hfi,hM,hc,hcm,-⟩:=H.o;have m1:=h5.bv.cell 0;simp at m1;have hdO:=h5.fi.dO;have hjl:=h5.vo.vo.ca.jg.len;have hj2:=h5.vo.vo.ca.ok.j2;have HF:=qqh (SC h5.vo.vo h5.fi.w1 oM);have H5:=Y3 h5.vo.vo h5.vo.d hcm;clear h5 hti hfi hM hc hcm hdO hjl hj2 HE r4 l1;cases firm with
 |false=>
  go_wp2
  go_ret
  exact⟨rfl,own5,H5.o.1,H5.o.2.1⟩
 |true=>
  go_wp2_with fail
  refine HF.o.mono ?_;rintro e w6 ⟨rfl,own6,h6,d6⟩;have hz:=H5.o.2.2 trivial;have H6:=Y3 h6 (H5.o.2.1.trans d6) hz;rw[hz];clear h6 d6 hz HF m1;go_wp2
  go_ret
  exact⟨rfl,own6,H6.o.1,H6.o.2.1⟩
end
theorem xk:(prog.info? 34).map (·.size)=some 3:=kR
section
variable{own0 own own':Nat->Nat}{w0 w w' W W':World}{r v:Nat}{q:VoP}{n:CaN}{p:CaP}{a a':CaS}{md md':Int}{cl cl':Bool}
theorem VolAt.box{b:Nat}{cs:Array Value}{T:TypeId}(h:VolAt own W v q n p a md cl)(hb:Bo own W b cs T)(h1:T≠112)(h2:T≠173)(hn:b≠0/\b≠1)(hu:Upd (fun j=>j=b) W W'):VolAt own W' v q n p a md cl:=by
 have hv:v≠b:=fun e=>by
  have h3:=h.g;rw[e,hb.1]at h3;cases h3;exact h1 rfl
 have hl:q.lb≠b:=fun e=>by
  have h3:=h.lk.1;rw[e,hb.1]at h3;cases h3;exact h2 rfl
 have hm:q.mb≠b:=fun e=>by
  obtain⟨D,⟨es,clock,hg,-⟩,-⟩:=h.lk.2;rw[e,hb.1]at hg;cases hg
 exact⟨h.ca.j9 hu (fun j hj=>by rw[hj];exact⟨hb.2,hn.1,hn.2⟩),(hu.block v (zd h.g) hv).trans h.g,h.lk.keep hu hl hm,h.o1,h.o2,h.o3⟩
theorem RunAt.box{b:Nat}{cs:Array Value}{T:TypeId}(h:RunAt own W r v q n p a md cl)(hb:Bo own W b cs T)(h1:T≠112)(h2:T≠173)(h3:T≠68)(hn:b≠0/\b≠1)(hu:Upd (fun j=>j=b) W W'):RunAt own W' r v q n p a md cl:=
 ⟨h.vo.box hb h1 h2 hn hu,(hu.block r (zd h.g) (fun e=>by
  have h4:=h.g;rw[e,hb.1]at h4;cases h4;exact h3 rfl)).trans h.g,h.o⟩
structure DidR(r:Nat)(own own':Nat->Nat)(w w':World):Prop where
 upd:Upd (fun j=>own j≠0/\own j<16\/j=r) w w'
 old:∀j,j<w.heap.size->own' j=own j
 new:∀j,w.heap.size<=j->own' j<16
 far:∀j,w'.heap.size<=j->own' j=0
theorem Did.toR(d:Did own own' w w'):DidR r own own' w w':=⟨d.upd.mono (fun _ _ h=> .inl h),d.old,d.new,d.far⟩
theorem DidR.trans{own2:Nat->Nat}{w2:World}(d:DidR r own own' w w')(e:DidR r own' own2 w' w2):DidR r own own2 w w2 where
 upd:=d.upd.new e.upd (fun j hj h=>h.imp (fun h=>by rw[<-d.old j hj];exact h) id)
 old:=fun j hj=>(e.old j (d.upd.lt hj)).trans (d.old j hj)
 new:=fun j hj=>by
  by_cases h:j<w'.heap.size
  .rw [e.old j h];exact d.new j hj
  .exact e.new j oM
 far:=e.far
theorem DidR.mine{b:Nat}{w2:World}(d:DidR r own own' w w')(hu:Upd (fun j=>j=b) w' w2)(hb:w.heap.size<=b):DidR r own own' w w2:=
 ⟨d.upd.new hu (fun i hi e=>oM),d.old,d.new,fun j hj=>d.far j (qXq hu.size hj)⟩
theorem DidR.at(hu:Upd (fun j=>j=r) w w')(hf:∀j,w.heap.size<=j->own j=0):DidR r own own w w':=
 ⟨hu.mono (fun _ _ h=> .inr h),fun _ _=>rfl,fun j hj=>by rw[hf j hj];decide,fun j hj=>hf j (qXq hu.size hj)⟩
theorem Bo.didR{b:Nat}{cs:Array Value}{t:TypeId}(h:Bo own W b cs t)(d:DidR r own own' W W')(hb:b≠r):Bo own' W' b cs t:=
 ⟨(d.upd.block b (zd h.1) (fun e=>e.elim (fun e=>e.1 h.2) hb)).trans h.1,(d.old b (zd h.1)).trans h.2⟩
def xC(own:Nat->Nat)(w:World)(r:Nat)(n:CaN)(cd m:Int)(L:List Bk)(a:CaS)(md:Int)(cl:Bool)(e:Ending)(w':World):Prop:=
 ∃own' v q p u,e=.returned (.agg #[.int .i64 cd,.int .i64 m,u])/\RunAt own' w' r v q n p a md cl/\DidR r own own' w w'/\Rz own' w' u L
theorem Rz.nil(own:Nat->Nat)(W:World):Rz own W (.slice none 0 0) []:=⟨Sl.nil _ _ _,fun g hg=>by cases hg⟩
theorem Rz.one{u:Value}{F:List Bk}(h:Rz own W u F):u.oneCell'=true:=by
 obtain⟨ao,c,rfl⟩:=h.1.rd.jU;rfl
theorem xC.fin{ab:Nat}{cs:Array Value}{cd m:Int}{u:Value}{L:List Bk}(h:RunAt own' W r v q n p a md cl)(hb:Bo own' W ab cs 34)(hw:w.heap.size<=ab)(hn:0<ab/\1<ab)(d:DidR r own own' w W)(hr:Rz own' W u L):
  xC own w r n cd m L a md cl (.returned (.agg #[.int .i64 cd,.int .i64 m,u])) (W.setCells ab 0 [.int .i64 cd,.int .i64 m,u]):=by
 have hu:=zo W ab 0 [.int .i64 cd,.int .i64 m,u];refine⟨own',v,q,p,u,rfl,h.box hb de de de ⟨oM,oM⟩ hu,d.mine hu hw,hr.1.keep hu (fun g hg e=>?_),hr.2⟩;obtain⟨-,⟨rfl,-⟩|⟨g',off,cap,cur,rfl,h2,-⟩⟩:=hr.1
 .cases hg
 .cases hg;replace e:g'=ab:=e;rw[e,hb.1]at h2;cases h2
theorem qg{cd m:Int}{u:Value}(hu:u.oneCell'=true):∀x∈[Value.int .i64 cd,.int .i64 m,u],x.oneCell'=true:=by
 intro x hx;simp only[qzm,qzy,qYt]at hx;rcases hx with rfl|rfl|rfl
 .rfl
 .rfl
 .exact hu
def zbi:List Value:=[.func (.func 32) #[] #[],.func (.func 33) #[] #[],.func (.func 33) #[] #[],.func (.func 34) #[] #[],.func (.func 35) #[] #[],
 .func (.func 36) #[] #[],.func (.func 37) #[] #[],.func (.func 38) #[] #[],.func (.func 39) #[] #[],.func (.func 40) #[] #[],
 .func (.func 41) #[] #[],.func (.func 42) #[] #[],.func (.func 43) #[] #[]]
def zcZ:Array Value:=zbi.toArray
theorem EX:(prog.info? 70).map (·.size)=some zbi.length:=kR
theorem SE(w:World):Calls prog 25 #[] w fun e w'=>e=.returned (.agg zcZ)/\Below w.heap.size w w':=by
 go_enter func25,ntmps25
 go_wp2
 exact qYp (zv rfl _ _ w.heap.size 0 zbi _ rfl (zg (zc w _ rfl)) underlying70 rfl EX) rfl ⟨rfl,(qxl _ w).alloc (qXo _) _⟩
theorem Yf{W:World}{b:Nat}{x y z:Value}{T:TypeId}(h:W.heap[b]?=some (.cells #[x,y,z] T (0,0))):W.there b 0 3:=fun j hj=>by
 rw[qXx,za h,zf h];exact⟨by rw[qxe oz];rfl,rfl⟩
abbrev Jd(d fr m fi:Int)(kp:Value):Value:=.agg #[.int .i64 d,.int .i64 fr,.int .i64 m,.int .i64 fi,kp]
theorem Us{d fr m fi cd nn:Int}{kp:Value}{L:List Bk}(fd:Nat)(h:RunAt own w r v q n p a md cl)(hd:0<=d/\d<13)(hm:d=1\/d=2->1<=m/\m<=64)(_:kp.oneCell'=true)
  (hix:∀W:World,(Instr.index 70 (.agg zcZ) (.int .i64 d)).run prog W=.ok (.func (.func fd) #[] #[]) W) (hent:∀args w,(callFunc fd args).run prog w=.ok (.enter fd args) w)
  (hf:∀W,Upd (fun _=>False) w W->Calls prog fd #[ptr r,Jd d fr m fi kp] W (xC own W r n cd nn L a' md' cl')):
  Calls prog 11 #[ptr r,Jd d fr m fi kp] w (xC own w r n cd nn L a' md' cl'):=by
 obtain⟨ob,hob⟩:=qqe (w.heap.size);obtain⟨w1,hw1⟩:=qqe ((w.alloc (.cells #[.int .i64 d,.int .i64 fr,.int .i64 m,.int .i64 fi,kp] 30)).alloc (.cells #[.int .i64 0,.int .i64 0,.slice none 0 0] 34));have hu1:Upd (fun _=>False) w w1:=by rw[hw1];exact((uur _ w).alloc _).alloc _
 have g0:w1.heap[ob]?=some (.cells [.int .i64 d,.int .i64 fr,.int .i64 m,.int .i64 fi,kp].toArray 30 (0,0)):=by rw[hw1,hob];exact(qxk _ _ _ oe).trans (zc w _ rfl)
 have g1:w1.heap[ob+1]?=some (.cells #[.int .i64 0,.int .i64 0,.slice none 0 0] 34 (0,0)):=by rw[hw1,hob];exact zc _ _ oe
 have h1:=h.new hu1;have c0:=za g0 0;have c2:=za g0 2;have c5:=za h1.g 5;simp at c0 c2 c5;have r0:=zg g0;have q1:¬d<0:=oM;have q2:¬d>=13:=oM;have H:=Y7 h1 hu1 g1 hf (h.vo.ca.jY hu1) (h.vo.ca.far (ob+1) oM) (show 0<ob+1/\1<ob+1 from by have:=h.vo.ca.nib.lt;have:=h.vo.ca.tur.lt;omega);have HW:=Y2 hw1 hob;have HO:=qqh (h.vo.ca.far ob oM);have HRo:Hid (r<ob):=qqh (by rw[hob];exact zd h.g);have hut:=underlying30;have hsi:=ru;have HM:=qqh hm;clear h h1 hu1 g0 g1 hf hw1 hob hm;go_enter func11,ntmps11
 go_upto_region 3 with fail
 rw[<-HW.o.1,<-HW.o.2];have HT:=Y2 q1 q2;have hc:((d==1)=true/\Hid (d=1))\/((d==1)=false/\(d==2)=true/\Hid (d=2))\/(d==1)=false/\(d==2)=false:=by
  by_cases d1:d=1
  .exact .inl ⟨by simpa using d1,qqh d1⟩
  by_cases d2:d=2
  .exact .inr (.inl ⟨by simpa using d1,by simpa using d2,qqh d2⟩)
  .exact .inr (.inr ⟨by simpa using d1,by simpa using d2⟩)
 have HLo:Hid (w.heap.size<=ob+1):=qqh (by rw[HW.o.2];omega);rcases hc with⟨e1,hh⟩|⟨e1,e2,hh⟩|⟨e1,e2⟩
 all_goals (first
  |(have hm:=HM.o (.inl hh.out);go_wp2_with fail;refine(ZX m w1 hm.1 hm.2).mono ?_;rintro e w' ⟨rfl,rfl⟩;clear hm;go_upto_region 9 with fail)
  |(have hm:=HM.o (.inr hh.out);go_wp2_with fail;refine(ZX m w1 hm.1 hm.2).mono ?_;rintro e w' ⟨rfl,rfl⟩;clear hm;go_upto_region 9 with fail)
  |go_upto_region 9 with fail)
 all_goals
  have ho1:=H.o.2.2.2.2.2.1;have hnt:=H.o.2.2.2.2.2.2;have hoo:own ob=0:=HO.o;refine qZb (S:=fun W=>W.rangeAt ob 0 [.int .i64 d,.int .i64 fr,.int .i64 m,.int .i64 fi,kp]/\W.cell? ⟨ob,0,none⟩=some (.int .i64 d)) kR (⟨by rw[qYj];exact r0,by rw[qYh];exact c0⟩) (fun hHeld=>?_);refine Wl.i [1,2,4] ?_;iterate 3 refine Wl.t hHeld ?_
  refine Wl.o ?_;refine Wl.l 5 (fun w h=>h.1) hut hsi hHeld ?_;refine Wl.r 0 (fun K hK=>?_);go_simp
  refine(SE _).mono ?_;rintro e w3 ⟨rfl,hb3⟩;have hu3:=(uur (fun _=>False) _).drew.trans (uuo (S:=fun _=>False) hb3);have r3:=hu3.range r0 id;have c3:=hu3.jS c0 id;have HF:=qqh (H.o.2.2.2.1 w3 (H.o.2.1.trans hu3));have HD:=qqh (H.o.2.2.2.2.1.trans (H.o.1.vo.ca.jY hu3));have b3:Bo own w3 (ob+1) _ _:=⟨hu3.jT H.o.2.2.1,ho1⟩
  clear hb3 hu3;refine hK.o _ _ (⟨r3,c3⟩) (fun hH1=>?_);clear hK K;refine Wl.i [3] (Wl.t hH1 (Wl.o ?_));refine Wl.r 6 (fun K hK=>?_);go_simp
  refine HF.o.mono ?_;rintro e w4 ⟨own4,v4,q4,p4,u,rfl,h4,d4,z4⟩;have r4:=d4.upd.range r3 (fun e=>e.elim (fun e=>e.1 hoo) (fun e=>by have:=HRo.out;omega));have c4:=d4.upd.jS c3 (fun e=>e.elim (fun e=>e.1 hoo) (fun e=>by have:=HRo.out;omega));have b4:=b3.didR d4 (by have:=HRo.out;omega);have H4:=qqh (xC.fin (cd:=cd) (m:=nn) h4 b4 (w:=w) HLo.out hnt (HD.o.toR.trans d4) z4);have hu1:=z4.one;have hus:=zo w4 (ob+1) 0 [.int .i64 cd,.int .i64 nn,u];have r5:=hus.range r4 (fun e=>by replace e:ob=ob+1:=e;omega);have c5':=hus.jS c4 (fun e=>by replace e:ob=ob+1:=e;omega);have tA:=Yf b4.1;clear h4 d4 z4 b4 hus;refine hK.o _ _ (⟨r4,c4⟩) (fun hH2=>?_);clear hK K;refine Wl.r 7 (fun K hK=>?_);rw[if_pos oy];refine qZc _ _ _ rfl _ _ [.int .i64 cd,.int .i64 nn,u].toArray rfl rfl tA xk (qYn (qg hu1)) ?_;simp only[Act.put,qXd];refine hK.o _ _ (⟨r5,c5'⟩) (fun hH3=>?_);clear hK K;refine Wl.d ?_;go_wp2
  exact qYp (zv rfl _ _ (ob+1) 0 [.int .i64 cd,.int .i64 nn,u] _ rfl (qYk _ _ _ _ tA) underlying34 rfl xk) rfl H4.o
end
section
variable{own own':Nat->Nat}{w w' W W':World}{r v:Nat}{q:VoP}{n:CaN}{p:CaP}{a a':CaS}{md md':Int}{cl cl':Bool}
theorem EY{d fr m fi:Int}{kp:Value}(_:kp.oneCell'=true)(w:World):Calls prog 63 #[Jd d fr m fi kp] w fun e w'=>e=.returned (Ar fr m)/\Below w.heap.size w w':=by
 go_enter func63,ntmps63
 go_wp2
 exact qYp (zv rfl _ _ (w.heap.size+1) 0 [.int .i64 fr,.int .i64 m] _ rfl (zg (zc _ _ oe)) underlying52 rfl wV) rfl ⟨rfl,((qxl _ w).alloc (qXo _) _).alloc oe _⟩
theorem EZ{d fr fi:Int}{N:Nat}{kp:Value}(h:RunAt own w r v q n p a md false)(hkp:kp.oneCell'=true)(hs:Eh n.bl fr N)(hc:∀k,k<N->(CaS.rdC n fr a k).2=0):
  Calls prog 32 #[ptr r,Jd d fr N fi kp] w (xC own w r n 0 0 (CaS.rdL n fr a N) (CaS.rdN n fr a N) md false):=by
 obtain⟨ob,hob⟩:=qqe (w.heap.size);obtain⟨w1,hw1⟩:=qqe ((w.alloc (.cells #[.int .i64 d,.int .i64 fr,.int .i64 (N:Int),.int .i64 fi,kp] 30)).alloc (.cells #[.int .i64 0,.int .i64 0,.slice none 0 0] 34));have hu1:Upd (fun _=>False) w w1:=by rw[hw1];exact((uur _ w).alloc _).alloc _
 have g0:w1.heap[ob]?=some (.cells [.int .i64 d,.int .i64 fr,.int .i64 (N:Int),.int .i64 fi,kp].toArray 30 (0,0)):=by rw[hw1,hob];exact(qxk _ _ _ oe).trans (zc w _ rfl)
 have b1:Bo own w1 (ob+1) #[.int .i64 0,.int .i64 0,.slice none 0 0] 34:=⟨by rw[hw1,hob];exact zc _ _ oe,h.vo.ca.far _ oM⟩
 have h1:=h.new hu1;have d1:=h.vo.ca.jY hu1;have c5:=za h1.g 5;simp at c5;have r0:=zg g0;have hn:0<ob+1/\1<ob+1:=by have:=h.vo.ca.nib.lt;have:=h.vo.ca.tur.lt;omega
 have hlo:w.heap.size<=ob+1:=oM;have H:=Y7 h1 d1 b1 hn hlo hs hc;have HW:=Y2 hw1 hob;have HO:=qqh (h.vo.ca.far ob oM);have hut:=underlying30;have hsi:=ru;clear h h1 d1 b1 hu1 g0 hw1 hob hn hlo hs hc;go_enter func32,ntmps32
 go_upto_region 1 with fail
 rw[<-HW.o.1,<-HW.o.2];refine qZb (S:=fun W=>W.cell? ⟨r,5,none⟩=some (ptr v)/\W.rangeAt ob 0 [.int .i64 d,.int .i64 fr,.int .i64 (N:Int),.int .i64 fi,kp]) kR (⟨by rw[qYh];exact c5,by rw[qYj];exact r0⟩) (fun hHeld=>?_);refine Wl.i [0,1,2,3] ?_;iterate 4 refine Wl.t hHeld ?_
 refine Wl.o ?_;refine Wl.l 4 (fun w h=>h.2) hut hsi hHeld ?_;refine Wl.r 5 (fun K hK=>?_);go_simp
 refine(EY hkp _).mono ?_;rintro e w3 ⟨rfl,hb3⟩;have hu3:=(uur (fun _=>False) w1).drew.trans (uuo (S:=fun _=>False) hb3);have c3:=hu3.jS c5 id;have r3:=hu3.range r0 id;have HR:=qqh (EO (H.o.1.new hu3).vo H.o.2.2.2.2.2.1 H.o.2.2.2.2.2.2);have H3:=qqh hu3;clear hb3 hu3;refine hK.o _ _ (⟨c3,r3⟩) (fun hH1=>?_);clear hK K;refine Wl.r 6 (fun K hK=>?_);go_simp
 refine HR.o.mono ?_;rintro e w4 ⟨u,own4,rfl,hv4,d4,ro4⟩;have h4:=(H.o.1.new H3.o).did hv4.ca d4;have c4:=za h4.g 5;simp at c4;have r4:=d4.upd.range r3 (fun e=>e.1 HO.o);have H4:=Y4 h4 ((H.o.1.vo.ca.jY H3.o).trans d4) d4 (show Rz own4 w4 u _ from⟨ro4.1,fun g hg=>(ro4.2 g hg).2⟩);clear h4 hv4 d4 ro4;refine hK.o _ _ (⟨c4,r4⟩) (fun hH2=>?_);clear hK K;refine Wl.i [7,8,9] ?_;iterate 3 refine Wl.t hH2 ?_
 refine Wl.o ?_;refine Wl.r 10 (fun K hK=>?_);go_simp
 refine hK.o _ _ (hH2) (fun hH3=>?_);clear hK K;refine Wl.r 11 (fun K hK=>?_);go_simp
 refine hK.o _ _ (hH3) (fun hH4=>?_);clear hK K;refine Wl.d ?_;obtain⟨h4,d4,-,z4⟩:=H4.o;have b4:=H.o.2.2.1.did d4;have HF:=qqh (xC.fin (cd:=0) (m:=0) h4 b4 (w:=w) H.o.2.2.2.2.1 H.o.2.2.2.1 (H.o.2.1.trans d4).toR z4);have tA:=Yf b4.1;have hu1:=z4.one;obtain⟨uo,uc,rfl⟩:=z4.1.rd.jU;clear h4 d4 z4 b4 hHeld hH1 hH2 hH3 hH4 c4 r4 c3 r3 c5 r0;go_wp2_with (first
  |(refine qZa rfl _ _ _ rfl _ _ [.int .i64 0,.int .i64 0,.slice uo _ uc].toArray rfl rfl tA xk (qYn (qg hu1)) ?_)
  |fail)
 exact qYp (zv rfl _ _ (ob+1) 0 [.int .i64 0,.int .i64 0,.slice uo _ uc] _ rfl (qYk _ _ _ _ tA) underlying34 rfl xk) rfl HF.o
end
def fillL(fr fi:Int)(N:Nat):List Bk:=(List.range N).map fun(i:Nat)=>yl (fr+(i:Int)) fi
theorem Zf(fr fi:Int)(N:Nat):(fillL fr fi N).length=N:=by simp[fillL]
theorem WY(fr fi:Int)(N:Nat):fillL fr fi (N+1)=fillL fr fi N++[yl (fr+(N:Int)) fi]:=by simp[fillL,List.range_succ]
theorem SF(fr fi:Int)(N:Nat):All64 (fillL fr fi N):=by
 intro x hx;simp only[fillL,qzq]at hx;obtain⟨i,-,rfl⟩:=hx;exact zX _ _
section
variable{own own':Nat->Nat}{w w' W W':World}{r v:Nat}{q:VoP}{n:CaN}{p:CaP}{a a':CaS}{md md':Int}{cl cl':Bool}
theorem XL{d fr fi:Int}{N M:Nat}{kp:Value}(h:RunAt own w r v q n p a md false)(_:kp.oneCell'=true)(hs:Eh n.bl fr N)(hN:N<=64)(hti:a.Tie n none)(hfi:a.Fit M)(hM:M+N*(3*n.pa+n.jo+6)<=50000)
  (hc:∀k,k<N->CaS.wrC n md fr (fillL fr fi N) a k=0) (hcm:d=2->((CaS.wrN n md fr (fillL fr fi N) a N).jX n).2=0):
  Calls prog 33 #[ptr r,Jd d fr N fi kp] w (xC own w r n 0 0 [] (CaS.wrF n md fr (fillL fr fi N) a (d==2)) md false):=by
 obtain⟨ob,hob⟩:=qqe (w.heap.size);obtain⟨w1,hw1⟩:=qqe ((w.alloc (.cells #[.int .i64 d,.int .i64 fr,.int .i64 (N:Int),.int .i64 fi,kp] 30)).alloc (.cells #[.int .i64 0,.int .i64 0,.slice none 0 0] 34));have hu1:Upd (fun _=>False) w w1:=by rw[hw1];exact((uur _ w).alloc _).alloc _
 have hz1:w1.heap.size=ob+2:=by rw[hw1,hob];simp
 have g0:w1.heap[ob]?=some (.cells #[.int .i64 d,.int .i64 fr,.int .i64 (N:Int),.int .i64 fi,kp] 30 (0,0)):=by rw[hw1,hob];exact(qxk _ _ _ oe).trans (zc w _ rfl)
 have b0:Bo own w1 ob #[.int .i64 d,.int .i64 fr,.int .i64 (N:Int),.int .i64 fi,kp] 30:=⟨g0,h.vo.ca.far _ oM⟩
 have b1:Bo own w1 (ob+1) #[.int .i64 0,.int .i64 0,.slice none 0 0] 34:=⟨by rw[hw1,hob];exact zc _ _ oe,h.vo.ca.far _ oM⟩
 have h1:=h.new hu1;have d1:=h.vo.ca.jY hu1;have e2:w1.cell? ⟨ob,2,none⟩=some (.int .i64 (N:Int)):=b0.cell 2;have hn:0<ob+1/\1<ob+1:=by have:=h.vo.ca.nib.lt;have:=h.vo.ca.tur.lt;omega
 have hlo:w.heap.size<=ob+1:=oM;have hbl:=h.vo.ca.ok.b2;have hf4:0<=fr/\fr+N<=4096:=by obtain⟨s1,-,-,s4⟩:=hs;omega
 obtain⟨Z,hZ,hmk⟩:=WL N oM;obtain⟨i0,z,hi,hz,hzs,hsz,hby⟩:=yj;have HK:=Y5 hi hz hzs hsz hby;have H:=Y10 h1 d1 b0 b1 hn hlo hf4 hN hZ hz1;have HP:=Y6 hs hti hfi hM hc hcm;have HW:=Y2 hw1 hob;clear h h1 d1 b0 b1 hu1 g0 hw1 hob hn hlo hs hc hcm hti hfi hM hi hz hzs hsz hby hf4 hN hbl hZ hz1;go_enter func33,ntmps33
 go_upto_region 1 with fail
 rw[<-HW.o.1,<-HW.o.2];go_upto_region 2 with fail
 clear hmk;obtain⟨w2,hw2⟩:=qqe (w1.alloc (.cells Z 60));rw[<-hw2];have hb2:Below w1.heap.size w1 w2:=by rw[hw2];exact(qxl _ w1).alloc (qXo _) _
 have hs2:Sl w2 60 64 (.slice (some ⟨w1.heap.size,0,none⟩) 0 N) 0 (rowC (fillL fr fi 0)):=
  ⟨rfl,.inr ⟨w1.heap.size,0,N,Z,rfl,by rw[hw2];exact zc w1 _ rfl,qXy _,by have:=H.o.2.2.2.2.2.2.2.1;unfold maxLen;omega,by rw[H.o.2.2.2.2.2.2.2.2.1];omega,fun j u hj=>by simp[rowC,fillL]at hj⟩⟩
 have H2:=Y2 hb2 hs2;have e2:=(uuo (S:=fun _=>False) hb2).jS e2 id;clear hb2 hs2 hw2;go_wp2_with fail
 clear e2;go_loopg[5,12] N (fun gk u i wr=>∃k:Nat,k+gk=N/\i=.int .i64 (k:Int)/\Sl wr 60 64 u k (rowC (fillL fr fi k))/\From w1.heap.size u/\Below w1.heap.size w1 wr)
 case atStart=>exact⟨0,oM,rfl,H2.o.2,fun g hg=>by cases hg;exact qXo _,H2.o.1⟩
 case round=>
  obtain⟨k,hk,rfl,hsl,hf,hb⟩:=hrel;have hur:=uuo (S:=fun _=>False) hb;have b0:=H.o.2.2.1.keep hur id;have e1:wr.cell? ⟨ob,1,none⟩=some (.int .i64 fr):=b0.cell 1;by_cases hlt:k<N
  .have e3:wr.cell? ⟨ob,3,none⟩=some (.int .i64 fi):=b0.cell 3;have k1:(k:Int)<(N:Int):=oM;have hf4:=H.o.2.2.2.2.2.2.1;have k2:fr+(k:Int)+1<=4096:=oM;have k3:0<=fr:=hf4.1;have hN64:=H.o.2.2.2.2.2.2.2.1;have HS:=Y3 hsl hf hb;obtain⟨uo,uc,rfl⟩:=hsl.rd.jU;clear hsl hf hb hur b0;go_wp2_with fail
   refine(ZV _ _ _).mono ?_;rintro e w3 ⟨rfl,hb3⟩;obtain⟨y,hy⟩:=qqe (yl (fr+(k:Int)) fi);have hyl:y.length=64:=by rw[hy];exact zX _ _
   have hyc:(bkC y).length=64:=by rw[zm,hyl]
   have hu3:=uuo (S:=fun _=>False) hb3;have HX:=qqh (HS.o.1.keep hu3 (fun _ _ h=>h));have HB:=qqh (zj HS.o.2.2 hu3 (qXo _) (fun _ h=>h.elim));have HY:=Y3 hy hyc (zu y);rw[<-hy];clear hb3 hu3 hy hyl hyc e1 e3;go_wp2_with (first
    |(refine ym rfl 32 60 _ rfl 64 de underlying32 ⟨i0,z,HK.o.1,HK.o.2.1,HK.o.2.2.1,HK.o.2.2.2.1⟩ de (bkC y) rfl HY.o.2.1 ?_)
    |(at_builtin;refine zG rfl _ _ _ rfl i0 z 64 underlying32 HK.o.1 HK.o.2.1 HK.o.2.2.2.1 HK.o.2.2.2.2 HK.o.2.2.1 de rfl HX.o (bkC y) oy HY.o.2.1 HY.o.2.2 oj oM ?_;intro v' w11 hs11 hu11 hbf)
    |fail)
   have HG:=Y3 hs11 hu11 hbf;clear hs11 hu11 hbf;go_roundg (gk-1)
   case measure=>omega
   case rel=>
    obtain⟨hs11,hu11,hbf⟩:=HG.o;refine⟨k+1,oM,by go_num,?_,hbf.ge HB.o.size HS.o.2.1,zj HB.o hu11 (qXo _) HS.o.2.1.own⟩;rw[WY,xt,<-HY.o.1];exact hs11
  .obtain rfl:k=N:=oM;have k1:¬((k:Int)<(k:Int)):=oM;have h2:=H.o.1.new hur;have hud:=(uur (fun _=>False) wr).drew;have c5:=za h2.g 5;have e0:wr.cell? ⟨ob,0,none⟩=some (.int .i64 d):=b0.cell 0;simp at c5;have hrz:Rz own wr u5 (fillL fr fi k):=⟨by rw[Zf];exact hsl,fun g hg=>H.o.1.vo.ca.far g (hf g hg)⟩
   obtain⟨hs,hti,hfi,hM,hc,hcm⟩:=HP.o;have hl:=Zf fr fi k;have HV:=qqh (SD (firm:=d==2) (h2.new hud).vo (by rw[hl];exact hs) (SF fr fi k) (hrz.new hud) hti hfi (by rw[hl];exact hM) (by rw[hl];exact hc) (fun e=>by rw[hl];exact hcm (by simpa using e)));have H3:=Y4 (h2.new hud) (H.o.1.vo.ca.jY (hur.trans hud)) (b0.keep hud id) ((H.o.2.2.2.1.keep hur id).keep hud id);obtain⟨uo,uc,rfl⟩:=hsl.rd.jU;clear hsl hf hb hur b0 h2 hud hrz hs hti hfi hM hc hcm hl;go_upto_region 7 with fail
   refine qZb (S:=fun W=>W.cell? ⟨r,5,none⟩=some (ptr v)/\W.cell? ⟨ob,1,none⟩=some (.int .i64 fr)/\W.cell? ⟨ob,0,none⟩=some (.int .i64 d)) kR (⟨by rw[qYh];exact c5,by rw[qYh];exact e1,by rw[qYh];exact e0⟩) (fun hHeld=>?_);refine Wl.i [0,1,2,3,4,5,6,7,8,9] ?_;iterate 10 refine Wl.t hHeld ?_
   refine Wl.o ?_;refine Wl.r 10 (fun K hK=>?_);go_simp
   refine HV.o.mono ?_;rintro e w4 ⟨rfl,own4,hv4,d4⟩;have h4:=H3.o.1.did hv4.ca d4;have c4:=za h4.g 5;have bo4:=H3.o.2.2.1.did d4;have x1:w4.cell? ⟨ob,1,none⟩=some (.int .i64 fr):=bo4.cell 1;have x0:w4.cell? ⟨ob,0,none⟩=some (.int .i64 d):=bo4.cell 0;simp at c4;have ba4:=H3.o.2.2.2.did d4;have tA:=Yf ba4.1;have HF:=qqh (xC.fin (cd:=0) (m:=0) h4 ba4 (w:=w) H.o.2.2.2.2.2.1 H.o.2.2.2.2.1 (H.o.2.1.trans (H3.o.2.1.trans d4)).toR (Rz.nil own4 w4));have hus:=zo w4 (ob+1) 0 [.int .i64 0,.int .i64 0,.slice none 0 0];have y5:=hus.jS c4 (fun e=>by replace e:r=ob+1:=e;have h6:=h4.g;rw[e,ba4.1]at h6;cases h6);have y1:=hus.jS x1 (fun e=>by replace e:ob=ob+1:=e;omega);have y0:=hus.jS x0 (fun e=>by replace e:ob=ob+1:=e;omega);clear h4 hv4 d4 bo4 ba4 hus;refine hK.o _ _ (⟨c4,x1,x0⟩) (fun hH1=>?_);clear hK K;refine Wl.r 11 (fun K hK=>?_);go_simp
   refine hK.o _ _ (hH1) (fun hH2=>?_);clear hK K;refine Wl.r 12 (fun K hK=>?_);rw[if_pos oy];refine qZc _ _ _ rfl _ _ [.int .i64 0,.int .i64 0,.slice none 0 0].toArray rfl rfl tA xk (qYn (qg rfl)) ?_;simp only[Act.put,qXd];refine hK.o _ _ (⟨y5,y1,y0⟩) (fun hH3=>?_);clear hK K;refine Wl.d ?_;go_wp2
   exact qYp (zv rfl _ _ (ob+1) 0 [.int .i64 0,.int .i64 0,.slice none 0 0] _ rfl (qYk _ _ _ _ tA) underlying34 rfl xk) rfl HF.o
end
end Go.Proofs.YtpejdgiccaijfaaGreatDoor
