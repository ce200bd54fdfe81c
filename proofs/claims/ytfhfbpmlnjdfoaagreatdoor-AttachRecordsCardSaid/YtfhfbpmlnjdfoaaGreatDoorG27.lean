/- A cache that is being made: its struct, and th -/
import Derived.Test.YtfhfbpmlnjdfoaaGreatDoorG26
set_option maxRecDepth 100000
set_option maxHeartbeats 2000000
namespace Go.Proofs.YtfhfbpmlnjdfoaaGreatDoor
open Go Go.RowKit
abbrev AG:=Nat×((Nat->Prop)->World->Prop)
structure Mk(own0:Nat->Nat)(w0:World)(own:Nat->Nat)(w:World)(c:Nat)(cs:List Value)(bs bl:Nat)(us ul:Array Value)(L:List AG):Prop where
 str:w.heap[c]?=some (.cells cs.toArray 172 (0,0))
 oc:own c=1
 cn:w0.heap.size<=c
 all:∀q∈L,Thing q.2/\q.1≠1/\q.2 (fun j=>own j=q.1) w
 far:∀j,w.heap.size<=j->own j=0
 nib:Nib w
 tur:Tur w
 on:own 0=0
 ot:own 1=0
 sb:w.heap[bs]?=some (.cells us 40 (0,0))
 lb:w.heap[bl]?=some (.cells ul 43 (0,0))
 bsc:bs≠c
 blc:bl≠c
 bel:Below w0.heap.size w0 w
 old:∀j,j<w0.heap.size->own j=own0 j
 new:∀j,w0.heap.size<=j->own j<16
section
variable{own0 own:Nat->Nat}{w0 w w':World}{c bs bl:Nat}{cs:List Value}{us ul:Array Value}{L:List AG}
theorem Mk.add(h:Mk own0 w0 own w c cs bs bl us ul L)(t:Nat)(ht:t≠1/\t<16/\∀q∈L,q.1≠t){R:(Nat->Prop)->World->Prop}(hR:Thing R)(hb:Below w.heap.size w w')(hr:R (fun j=>w.heap.size<=j) w'):
  Mk own0 w0 (grow own t w.heap.size w'.heap.size) w' c cs bs bl us ul ((t,R)::L):=by
 have hu:=qqb hb;have hcl:=zd h.str;have ho:∀j,own j=t->j<w.heap.size\/t=0:=fun j hj=>by
  by_cases hl:j<w.heap.size
  .exact .inl hl
  .exact .inr (by rw[<-hj,h.far j (by omega)])
 exact{
  str:=hu.blockv h.str
  oc:=(zx hcl).trans h.oc
  cn:=h.cn
  all:=fun q hq=>by
   rcases qzr.1 hq with rfl|hq
   .exact ⟨hR,ht.1,hR.out hr (fun j hj hs=>ZC hs hj)⟩
   .obtain ⟨a1,a2,a3⟩:=h.all q hq;exact⟨a1,a2,a1.other a3 (ht.2.2 q hq) (hu.mono (fun _ _ h=>h.elim))⟩
  far:=fun j hj=>by
   have:=hu.size;unfold grow;rw[if_neg (by omega)];exact h.far j (by omega)
  nib:=h.nib.keep hu (fun h=>h)
  tur:=h.tur.keep hu (fun h=>h)
  on:=(zx h.nib.lt).trans h.on
  ot:=(zx h.tur.lt).trans h.ot
  sb:=hu.blockv h.sb
  lb:=hu.blockv h.lb
  bsc:=h.bsc
  blc:=h.blc
  bel:=zj h.bel hu (qXv _) (fun _ h=>h.elim)
  old:=fun j hj=>(zx (qXy hj h.bel.size)).trans (h.old j hj)
  new:=fun j hj=>by
   unfold grow;split
   .exact ht.2.1
   .exact h.new j hj}
theorem Mk.set(h:Mk own0 w0 own w c cs bs bl us ul L)(i:Nat)(v:Value):Mk own0 w0 own (w.setCell ⟨c,i,none⟩ v) c (cs.set i v) bs bl us ul L:=by
 have hu:=zi w c i v;have hne:∀(k j:Nat),k≠1->own j=k->¬j=c:=fun k j hk hj e=>hk (by rw[<-hj,e,h.oc]);exact{
  str:=by have:=zh h.str i v;simpa using this
  oc:=h.oc
  cn:=h.cn
  all:=fun q hq=>by
   obtain⟨a1,a2,a3⟩:=h.all q hq;exact⟨a1,a2,a1.keep a3 hu (fun j hj=>hne _ j a2 hj)⟩
  far:=fun j hj=>h.far j (by simpa using hj)
  nib:=h.nib.keep hu (hne _ _ (by decide) h.on)
  tur:=h.tur.keep hu (hne _ _ (by decide) h.ot)
  on:=h.on
  ot:=h.ot
  sb:=(hu.block _ (zd h.sb) h.bsc).trans h.sb
  lb:=(hu.block _ (zd h.lb) h.blc).trans h.lb
  bsc:=h.bsc
  blc:=h.blc
  bel:=zj h.bel hu (qXv _) (fun j e=>e▸h.cn)
  old:=h.old
  new:=h.new}
theorem Mk.cell(h:Mk own0 w0 own w c cs bs bl us ul L)(i:Nat):w.cell? ⟨c,i,none⟩=cs[i]?:=by rw[za h.str];simp
theorem Mk.part(h:Mk own0 w0 own w c cs bs bl us ul L){t:Nat}{R:(Nat->Prop)->World->Prop}(hq:(t,R)∈L):R (fun j=>own j=t) w:=(h.all _ hq).2.2
end
theorem Mk.start{own0:Nat->Nat}{w0 w4:World}{bs bl ssd back:Nat}{us ul:Array Value}{dF bF:List Bk}{dO bO:List (Nat×Bk)}{dP bP:List Int}(cs:List Value)(hU:Upd (fun _=>False) w0 w4)
  (h2:Dv (fun j=>own0 j=2) w0 ssd dF dO dP) (h3:Dv (fun j=>own0 j=3) w0 back bF bO bP) (far:∀j,w0.heap.size<=j->own0 j=0) (nib:Nib w0) (tur:Tur w0) (on:own0 0=0) (ot:own0 1=0)
  (sb:w4.heap[bs]?=some (.cells us 40 (0,0))) (lb:w4.heap[bl]?=some (.cells ul 43 (0,0))):
  ∃own,Mk own0 w0 own ((w4.alloc (.map #[] 0)).alloc (.cells cs.toArray 172)) (w4.heap.size+1) cs bs bl us ul
   [(9,fun S w=>Mp S w w4.heap.size 0 (fun _=>none)),(3,fun S w=>Dv S w back bF bO bP),(2,fun S w=>Dv S w ssd dF dO dP)]:=by
 obtain⟨w5,hw5⟩:=qqe ((w4.alloc (.map #[] 0)).alloc (.cells cs.toArray 172));have hu1:Upd (fun _=>False) w4 (w4.alloc (.map #[] 0)):=(uur _ w4).alloc _;have hu2:Upd (fun _=>False) (w4.alloc (.map #[] 0)) w5:=by rw[hw5];exact(uur _ _).alloc _
 have hu:=hu1.trans hu2;have hz:w5.heap.size=w4.heap.size+2:=by rw[hw5];simp
 have hs:=hU.size;have hl:=zd sb;have hl2:=zd lb;have hnl:=nib.lt;have htl:=tur.lt;have hout:∀(k:Nat),k≠0->∀(R:(Nat->Prop)->World->Prop),Thing R->R (fun j=>own0 j=k) w0->R (fun j=>(if j=w4.heap.size then 9 else if j=w4.heap.size+1 then 1 else own0 j)=k) w5:=fun k hk R hR h=>by
  have h1:R (fun j=>own0 j=k/\j<w0.heap.size) w0:=hR.out h (fun j hj hs=>⟨hs,hj⟩);exact hR.out (hR.new h1 (hU.trans hu)) (fun j hj ⟨a,b⟩=>by rw[if_neg (by omega),if_neg (by omega)];exact a)
 rw[<-hw5];refine⟨fun j=>if j=w4.heap.size then 9 else if j=w4.heap.size+1 then 1 else own0 j,?_⟩;exact{
  str:=by rw[hw5];exact zc _ _ (by simp)
  oc:=by rw[if_neg (by omega),if_pos rfl]
  cn:=by omega
  all:=fun q hq=>by
   simp only[qzr,qXd,qZb]at hq;rcases hq with rfl|rfl|rfl
   .exact ⟨Mp.thing _ _ _,(by show(9:Nat)≠1;decide),(MapAt.made w4).keep hu2 (fun h=>h),by simp⟩
   .exact ⟨Dv.thing _ _ _ _,(by show(3:Nat)≠1;decide),hout 3 (by decide) _ (Dv.thing _ _ _ _) h3⟩
   .exact ⟨Dv.thing _ _ _ _,(by show(2:Nat)≠1;decide),hout 2 (by decide) _ (Dv.thing _ _ _ _) h2⟩
  far:=fun j hj=>by rw[if_neg (by omega),if_neg (by omega)];exact far j (by omega)
  nib:=nib.keep (hU.trans hu) (fun h=>h)
  tur:=tur.keep (hU.trans hu) (fun h=>h)
  on:=by rw[if_neg (by omega),if_neg (by omega)];exact on
  ot:=by rw[if_neg (by omega),if_neg (by omega)];exact ot
  sb:=hu.blockv sb
  lb:=hu.blockv lb
  bsc:=by omega
  blc:=by omega
  bel:=Upd.below (hU.trans hu)
  old:=fun j hj=>by rw[if_neg (by omega),if_neg (by omega)]
  new:=fun j hj=>by
   split
   .decide
   .split
    .decide
    .rw [far j hj];decide}
theorem St(n s:Nat)(w:World)(h1:1<=n)(h2:n<=4096)(h3:1<=s)(h4:s<=1024):
  Calls Tryz.prog 132 #[.int .i64 n,.int .i64 s] w fun e w'=>∃b,e=.returned (.tuple #[ptr b,.int .i64 0])/\Ix (fun j=>w.heap.size<=j) w' b 0 (List.replicate n (-1,false)) s/\Below w.heap.size w w':=
 (RE n s w h1 h2 h3 h4).mono fun _ _ ⟨b,v,mb,he,hi,hb,hm,hf,hw⟩=>⟨b,he,⟨v,mb,hi,hb,fun j hj=>by rcases hj with hj|hj;exact hf j hj;exact hj▸hm⟩,hw⟩
theorem Su(n:Nat)(w:World)(h1:1<=n)(h2:n<=1024):
  Calls Tryz.prog 133 #[.int .i64 n] w fun e w'=>∃b,e=.returned (.tuple #[ptr b,.int .i64 0])/\Ss (fun j=>w.heap.size<=j) w' b (List.replicate n 0)/\Below w.heap.size w w':=
 (RY n w h1 h2).mono fun _ _ ⟨he,hs,hw,_⟩=>⟨_,he,⟨_,hs,by show _<=_;omega,fun j hj=>by simp[Value.ownBlock]at hj;show _<=_;omega⟩,hw⟩
def ca0(n:CaN)(ssd back wh sm:Nat):List Value:=
 n.C++(layC n.sl n.jo n.pa n.lo++[ptr ssd,ptr back,.int .i64 (wh:Int),.pointer none,.pointer none,.pointer none,.pointer none,.pointer none,.map (some sm)])
theorem tt{ops:Array Oper}{rest:List Oper}{op:Oper}{a:Act}{w:World}{Q:Exit->Act->World->Prop}(hgd:op.guard=none)(p q r s t u:Operand)(ho:op.op=.build 172 #[(0,p),(1,q),(2,r),(3,s),(4,t),(10,u)])
  (n:CaN) (ssd back wh sm:Nat) (hp:a.eval p=.agg n.C.toArray) (hq:a.eval q=.agg (layC n.sl n.jo n.pa n.lo).toArray) (hr:a.eval r=ptr ssd) (hs:a.eval s=ptr back) (ht:a.eval t=.int .i64 (wh:Int)) (hu:a.eval u=.map (some sm)) (L:Array Value) (hL:L=(ca0 n ssd back wh sm).toArray)
  (h:wpList Tryz.prog ops Q rest (a.put op.dst (.agg L)) w):wpList Tryz.prog ops Q (op::rest) a w:=by
 have hrun:(Instr.build 172 #[(0,.agg n.C.toArray),(1,.agg (layC n.sl n.jo n.pa n.lo).toArray),(2,ptr ssd),(3,ptr back),(4,.int .i64 (wh:Int)),(10,.map (some sm))]).run Tryz.prog w=.ok (.agg L) w:=by
  rw[hL];kernel_rfl
 refine qZh hgd fun K' hK'=>?_;unfold Oper.wp;simp only[execOp,ho,qzp,qzm,qzo,hp,hq,hr,hs,ht,hu,qYm,hrun,qYl];exact hK' _ _ h
theorem CaN.C_one(n:CaN):∀v∈n.C,v.oneCell'=true:=by
 intro v hv;simp only[CaN.C,qzr,qXd,qZb]at hv;rcases hv with rfl|rfl|rfl|rfl|rfl|rfl|rfl<;>rfl
theorem uf(sl jo pa lo:Nat):∀v∈layC sl jo pa lo,v.oneCell'=true:=by
 intro v hv;simp only[qzr,qXd,qZb]at hv;rcases hv with rfl|rfl|rfl|rfl|rfl|rfl|rfl<;>rfl
def caS0(n:CaN)(wh seq:Nat)(dF:List Bk)(dO:List (Nat×Bk))(dP:List Int)(bF:List Bk)(bO:List (Nat×Bk))(bP:List Int):CaS:=
 ⟨wh,dF,dO,dP,bF,bO,bP,seq,seq+1,[],0,List.replicate n.bl (-1,false),List.replicate n.sl 0,List.replicate n.sl Vs,0,[],fun _=>false,[],0,fun _=>none⟩
def TV(own0:Nat->Nat)(w:World)(ssd back:Nat)(n:CaN)(a:CaS)(e:Ending)(w':World):Prop:=
 ∃c p own',e=.returned (.tuple #[ptr c,.int .i64 0])/\p.ssd=ssd/\p.back=back/\CaAt own' w' c n p a/\Did own0 own' w w'
theorem Mk.ca{own0 own:Nat->Nat}{w0 w:World}{c bs bl ssd back sm bjr bix bss blg bck:Nat}{us ul:Array Value}{n:CaN}{wh seq:Nat}{dF bF:List Bk}{dO bO:List (Nat×Bk)}{dP bP:List Int}
  (h:Mk own0 w0 own w c ((((((ca0 n ssd back wh sm).set 17 (ptr bjr)).set 18 (ptr bix)).set 19 (ptr bss)).set 20 (ptr blg)).set 21 (ptr bck)) bs bl us ul
   [(8,fun S w=>Ck S w bck 0 n.sl n.sl [] (fun _=>false) []),(7,fun S w=>Lg S w blg n.bl (List.replicate n.sl (fun _=>false))),(6,fun S w=>Ss S w bss (List.replicate n.sl 0)),(5,fun S w=>Ix S w bix 0 (List.replicate n.bl (-1,false)) n.sl),
    (4,fun S w=>Jn S w bjr ssd (1+2*n.pa) n.jo seq (seq+1) []),(9,fun S w=>Mp S w sm 0 (fun _=>none)),(3,fun S w=>Dv S w back bF bO bP),(2,fun S w=>Dv S w ssd dF dO dP)])
  (hok:n.Ok) (fl:dF.length=n.size) (gl:bF.length=n.bl) (hwh:wh<=1):
  CaAt own w c n ⟨ssd,back,bjr,bix,bss,blg,bck,sm⟩ {caS0 n wh seq dF dO dP bF bO bP with G:=List.replicate n.sl (fun _=>false)}where
 str:=h.str
 oc:=h.oc
 ok:=hok
 ssd:=h.part (t:=2) (R:=fun S w=>Dv S w ssd dF dO dP) (by simp)
 back:=h.part (t:=3) (R:=fun S w=>Dv S w back bF bO bP) (by simp)
 jr:=h.part (t:=4) (R:=fun S w=>Jn S w bjr ssd (1+2*n.pa) n.jo seq (seq+1) []) (by simp)
 ix:=h.part (t:=5) (R:=fun S w=>Ix S w bix 0 (List.replicate n.bl (-1,false)) n.sl) (by simp)
 ss:=h.part (t:=6) (R:=fun S w=>Ss S w bss (List.replicate n.sl 0)) (by simp)
 lg:=h.part (t:=7) (R:=fun S w=>Lg S w blg n.bl (List.replicate n.sl (fun _=>false))) (by simp)
 ck:=h.part (t:=8) (R:=fun S w=>Ck S w bck 0 n.sl n.sl [] (fun _=>false) []) (by simp)
 sm:=h.part (t:=9) (R:=fun S w=>Mp S w sm 0 (fun _=>none)) (by simp)
 far:=h.far
 nib:=h.nib
 tur:=h.tur
 on:=h.on
 ot:=h.ot
 fl:=fl
 gl:=gl
 pl:=by simp[caS0]
 sl:=by simp[caS0]
 Gl:=by simp
 wh:=hwh
theorem AH{own0:Nat->Nat}{w:World}{ssd back:Nat}{n:CaN}{dF bF:List Bk}{dO bO:List (Nat×Bk)}{dP bP:List Int}(h2:Dv (fun j=>own0 j=2) w ssd dF dO dP)(h3:Dv (fun j=>own0 j=3) w back bF bO bP)
  (far:∀j,w.heap.size<=j->own0 j=0) (nib:Nib w) (tur:Tur w) (on:own0 0=0) (ot:own0 1=0) (hok:n.Ok) (fl:dF.length=n.size) (gl:bF.length=n.bl) (wh seq:Nat) (hwh:wh<=1) (hseq:seq<1099511627776)
  (ao:Option Addr) (ln lc:Nat) (a':CaS) (hload:∀(own:Nat->Nat) (W:World) (c:Nat) (p:CaP),Did own0 own w W->CaAt own W c n p {caS0 n wh seq dF dO dP bF bO bP with G:=List.replicate n.sl (fun _=>false)}->Calls Tryz.prog 136 #[ptr c,.slice ao ln lc] W (zu own W c n p a' (.int .i64 0))):
  Calls Tryz.prog 74 #[.agg n.C.toArray,ptr ssd,ptr back,.int .i64 (wh:Int),.int .i64 (seq:Int),.slice ao ln lc] w (TV own0 w ssd back n a'):=by
 have HLd:=qqh hload;clear hload;obtain⟨U,hU⟩:=qqe (n.C);obtain⟨V,hV⟩:=qqe (layC n.sl n.jo n.pa n.lo);obtain⟨w1,hw1⟩:=qqe (w.alloc (.cells U.toArray 40));have hg1:w1.heap[w.heap.size]?=some (.cells U.toArray 40):=by rw[hw1];exact zc w _ rfl
 have hu1:Upd (fun _=>False) w w1:=by rw[hw1];exact(uur _ w).alloc _
 have hrU:w1.rangeAt w.heap.size 0 U:=zg hg1;have hsU:(Tryz.prog.info? 40).map (·.size)=some U.length:=by rw[hU];exact yY
 have HPl:Hid (Calls Tryz.prog 14 #[.agg U.toArray] w1 fun e w'=>e=.returned (.tuple #[.agg V.toArray,.int .i64 0])/\Below w1.heap.size w1 w'):=by
  show Calls _ _ _ _ _;rw[hU,hV];obtain⟨b1,b2,s1,s2,j1,j2,l1,l2,a1,a2,p1,p2,z⟩:=hok;exact vO n.id n.bl n.sl n.jo n.pa n.lo n.ba b1 b2 s1 s2 j1 j2 l1 l2 a1 a2 p1 p2 z w1
 rw[<-hU];have H:=Y14 h2 h3 far nib tur on ot hok fl gl hU hV hg1 hu1;rw[hw1]at hrU;have HW1:=qqh hw1;have HU:=Y2 hrU hsU;clear h2 h3 far nib tur on ot hok fl gl hU hV hg1 hu1 hrU hsU hw1;go_enter Tryz.func74,Tryz.ntmps74
 go_wp2_with (first
  |(refine qZg rfl _ _ rfl _ _ rfl _ _ HU.o.1 Tryz.underlying40 rfl HU.o.2 ?_)
  |fail)
 rw[<-HW1.o];refine HPl.out.mono ?_;rintro e w2 ⟨rfl,hb2⟩;obtain⟨h2,h3,far,nib,tur,on,ot,hok,fl,gl,hU,hV,hg1,hu1⟩:=H.o;obtain⟨w3,hw3⟩:=qqe (w2.alloc (.cells V.toArray 43));have hu2:=qqb hb2;have hu3:Upd (fun _=>False) w2 w3:=by rw[hw3];exact(uur _ w2).alloc _
 have hg3:w3.heap[w2.heap.size]?=some (.cells V.toArray 43):=by rw[hw3];exact zc w2 _ rfl
 have hg13:=(hu2.trans hu3).blockv hg1;have hU3:=(hu1.trans hu2).trans hu3;have hVl:V.length=7:=by rw[hV];rfl
 have hV1:∀v∈V,v.oneCell'=true:=by rw[hV];exact uf _ _ _ _
 have hsV:Hid ((Tryz.prog.info? 43).map (·.size)=some V.length):=by show _=_;rw[hVl];exact xG
 have h23:=(Dv.thing _ _ _ _).new h2 hU3;have h33:=(Dv.thing _ _ _ _).new h3 hU3;have v6:w3.cell? ⟨w2.heap.size,6,none⟩=some (.int .i64 (n.size:Int)):=by
  rw[za hg3,hV];simp[layC,CaN.size]
 have u1:w3.cell? ⟨w.heap.size,1,none⟩=some (.int .i64 (n.bl:Int)):=by
  rw[za hg13,hU];simp[CaN.C]
 have hS2:∀k,Calls Tryz.prog 47 #[ptr ssd] (w3.drewN k) fun e w'=>e=.returned (.int .i64 (n.size:Int))/\w'=w3.drewN k:=fun k=>by
  have:=wW ((Dv.thing _ _ _ _).new h23 ((uur (fun _=>False) w3).drewN k));rw[fl]at this;exact this
 have hS3:∀k,Calls Tryz.prog 47 #[ptr back] (w3.drewN k) fun e w'=>e=.returned (.int .i64 (n.bl:Int))/\w'=w3.drewN k:=fun k=>by
  have:=wW ((Dv.thing _ _ _ _).new h33 ((uur (fun _=>False) w3).drewN k));rw[gl]at this;exact this
 have H3:=Y5 hU3 hg3 hg13 h23 h33;have HV:=Y4 hVl hV1 hS2 hS3;clear h2 h3 far nib tur on ot hok fl gl hU hV hg1 hu1 hb2 hu2 hu3 hg3 hg13 hU3 hVl hV1 h23 h33 hS2 hS3;have HW3:=qqh hw3;clear hw3;have HV6:=Y2 v6 u1;clear v6 u1;go_wp2_with (first
  |(refine zk rfl _ _ _ rfl _ _ _ rfl rfl (by rw[HV.o.1];rfl) hsV.out HV.o.2.1 ?_)
  |fail)
 rw[<-HW3.o];obtain⟨v6,u1⟩:=HV6.o
 go_quiet((go_at_call 47;(first|with_reducible exact Calls.quiet_of_same (HV.o.2.2.1 _)|with_reducible exact Calls.quiet_of_same (HV.o.2.2.2 _))))
 clear v6 u1;obtain⟨h2,h3,far,nib,tur,on,ot,hok,fl,gl,hU,hV,hg1,hu1⟩:=H.o;obtain⟨hU3,hg3,hg13,h23,h33⟩:=H3.o;have hud:Upd (fun _=>False) w3 (w3.drewN nq):=(uur _ w3).drewN nq;have hU4:=hU3.trans hud;have hg34:=hud.blockv hg3;have hg14:=hud.blockv hg13;generalize w3.drewN nq=w4 at*;obtain⟨L,hL⟩:=qqe (ca0 n ssd back wh w4.heap.size);obtain⟨ownA,MA⟩:=Mk.start L hU4 h2 h3 far nib tur on ot hg14 hg34;have rU:=zg hg14;have rV:=zg hg34;have hm1:Upd (fun _=>False) w4 (w4.alloc (.map #[] 0)):=(uur _ w4).alloc _;have HL:=Y2 hL MA;have HR:=Y2 rU rV;have HO:=qqh hok;have FL:=qqh fl;have GL:=qqh gl;have HUV:=Y2 hU hV;have hmm:= @run_makeMap Tryz.prog;clear h2 h3 far nib tur on ot hok fl gl hU hV hg1 hu1 hU3 hg3 hg13 h23 h33 hud hU4 hg34 hg14 rU rV hm1 MA hL;rcases(show wh=0\/wh=1 by omega)with rfl|rfl
 all_goals
  go_upto_region 11 with(first
   |(refine qZg rfl _ _ rfl _ _ rfl _ _ HR.o.1 Tryz.underlying40 rfl HU.o.2 ?_)
   |(refine qZg rfl _ _ rfl _ _ rfl _ _ HR.o.2 Tryz.underlying43 rfl hsV.out ?_)
   |(refine tt rfl _ _ _ _ _ _ rfl n ssd back _ w4.heap.size (by show Value.agg U.toArray=_;rw[HUV.o.1]) (by show Value.agg V.toArray=_;rw[HUV.o.2]) (by rfl) (by rfl) (by rfl) (by rfl) L.toArray (by rw[HL.o.1]) ?_)
   |fail)
  have HL5:=qqh (zd HL.o.2.str);obtain⟨c,hc⟩:=qqe (w4.heap.size+1);rw[<-hc]at HL⊢;have M0:=HL.o.2;have hL0:=HL.o.1;generalize (w4.alloc (.map #[] 0)).alloc (.cells L.toArray 172)=W0 at*;generalize hsm:w4.heap.size=sm at*;clear hc HL HL5 hmm hsm HR;subst hL0;obtain⟨b1,b2,s1,s2,j1,j2,l1,l2,a1,a2,p1,p2,z⟩:=HO.o;have hq:=za M0.sb;have hv:=za M0.lb;rw[HUV.o.1]at hq;rw[HUV.o.2]at hv;have q1:W0.cell? ⟨w.heap.size,1,none⟩=some (.int .i64 (n.bl:Int)):=hq 1;have q2:W0.cell? ⟨w.heap.size,2,none⟩=some (.int .i64 (n.sl:Int)):=hq 2;have q3:W0.cell? ⟨w.heap.size,3,none⟩=some (.int .i64 (n.jo:Int)):=hq 3;have v1:W0.cell? ⟨w2.heap.size,1,none⟩=some (.int .i64 (1+2*(n.pa:Int))):=hv 1;have HN:=qqh (UN (S:=fun j=>W0.heap.size<=j) (M0.part (t:=2) (R:=fun S w=>Dv S w ssd dF dO dP) (by simp)) (fun _ h=>h) (1+2*n.pa) n.jo seq (by omega) j2 (by rw[FL.out];unfold CaN.size;omega) hseq);have HM:=qqh M0;clear hq hv M0;go_wp2_with fail
  try rw[show(1+2*(n.pa:Int))=((1+2*n.pa:Nat):Int) by simp]
  refine HN.o.mono ?_;rintro e Wx ⟨bjr,rfl,hX,-,hb⟩;have MX:=HM.o.add 4 (by simp) (Jn.thing bjr ssd (1+2*n.pa) n.jo seq (seq+1) []) hb hX;have k17:=MX.cell 17;have g17:=zf MX.str 17;have HX:=qqh MX;clear hX hb MX q1 q2 q3 v1;go_upto_region 14 with fail
  have M1:=HX.o.set 17 (ptr bjr);generalize Wx.setCell ⟨c,17,none⟩ (ptr bjr)=W1 at*;clear HN HX k17 g17;have hq:=za M1.sb;have hv:=za M1.lb;rw[HUV.o.1]at hq;rw[HUV.o.2]at hv;have q1:W1.cell? ⟨w.heap.size,1,none⟩=some (.int .i64 (n.bl:Int)):=hq 1;have q2:W1.cell? ⟨w.heap.size,2,none⟩=some (.int .i64 (n.sl:Int)):=hq 2;have q3:W1.cell? ⟨w.heap.size,3,none⟩=some (.int .i64 (n.jo:Int)):=hq 3;have v1:W1.cell? ⟨w2.heap.size,1,none⟩=some (.int .i64 (1+2*(n.pa:Int))):=hv 1;have HN:=qqh (St n.bl n.sl W1 b1 b2 s1 s2);have HM:=qqh M1;clear hq hv M1;go_wp2_with fail
  try rw[show(1+2*(n.pa:Int))=((1+2*n.pa:Nat):Int) by simp]
  refine HN.o.mono ?_;rintro e Wx ⟨bix,rfl,hX,hb⟩;have MX:=HM.o.add 5 (by simp) (Ix.thing bix 0 (List.replicate n.bl (-1,false)) n.sl) hb hX;have k18:=MX.cell 18;have g18:=zf MX.str 18;have HX:=qqh MX;clear hX hb MX q1 q2 q3 v1;go_upto_region 17 with fail
  have M2:=HX.o.set 18 (ptr bix);generalize Wx.setCell ⟨c,18,none⟩ (ptr bix)=W2 at*;clear HN HX k18 g18;have hq:=za M2.sb;have hv:=za M2.lb;rw[HUV.o.1]at hq;rw[HUV.o.2]at hv;have q1:W2.cell? ⟨w.heap.size,1,none⟩=some (.int .i64 (n.bl:Int)):=hq 1;have q2:W2.cell? ⟨w.heap.size,2,none⟩=some (.int .i64 (n.sl:Int)):=hq 2;have q3:W2.cell? ⟨w.heap.size,3,none⟩=some (.int .i64 (n.jo:Int)):=hq 3;have v1:W2.cell? ⟨w2.heap.size,1,none⟩=some (.int .i64 (1+2*(n.pa:Int))):=hv 1;have HN:=qqh (Su n.sl W2 s1 s2);have HM:=qqh M2;clear hq hv M2;go_wp2_with fail
  try rw[show(1+2*(n.pa:Int))=((1+2*n.pa:Nat):Int) by simp]
  refine HN.o.mono ?_;rintro e Wx ⟨bss,rfl,hX,hb⟩;have MX:=HM.o.add 6 (by simp) (Ss.thing bss (List.replicate n.sl 0)) hb hX;have k19:=MX.cell 19;have g19:=zf MX.str 19;have HX:=qqh MX;clear hX hb MX q1 q2 q3 v1;go_upto_region 20 with fail
  have M3:=HX.o.set 19 (ptr bss);generalize Wx.setCell ⟨c,19,none⟩ (ptr bss)=W3 at*;clear HN HX k19 g19;have hq:=za M3.sb;have hv:=za M3.lb;rw[HUV.o.1]at hq;rw[HUV.o.2]at hv;have q1:W3.cell? ⟨w.heap.size,1,none⟩=some (.int .i64 (n.bl:Int)):=hq 1;have q2:W3.cell? ⟨w.heap.size,2,none⟩=some (.int .i64 (n.sl:Int)):=hq 2;have q3:W3.cell? ⟨w.heap.size,3,none⟩=some (.int .i64 (n.jo:Int)):=hq 3;have v1:W3.cell? ⟨w2.heap.size,1,none⟩=some (.int .i64 (1+2*(n.pa:Int))):=hv 1;have HN:=qqh (Sr (S:=fun j=>W3.heap.size<=j) n.sl n.bl W3 (fun _ h=>h) s1 s2 b1 b2);have HM:=qqh M3;clear hq hv M3;go_wp2_with fail
  try rw[show(1+2*(n.pa:Int))=((1+2*n.pa:Nat):Int) by simp]
  refine HN.o.mono ?_;rintro e Wx ⟨blg,rfl,hX,hb,-⟩;have MX:=HM.o.add 7 (by simp) (Lg.thing blg n.bl (List.replicate n.sl (fun _=>false))) hb hX;have k20:=MX.cell 20;have g20:=zf MX.str 20;have HX:=qqh MX;clear hX hb MX q1 q2 q3 v1;go_upto_region 23 with fail
  have M4:=HX.o.set 20 (ptr blg);generalize Wx.setCell ⟨c,20,none⟩ (ptr blg)=W4 at*;clear HN HX k20 g20;have hq:=za M4.sb;have hv:=za M4.lb;rw[HUV.o.1]at hq;rw[HUV.o.2]at hv;have q1:W4.cell? ⟨w.heap.size,1,none⟩=some (.int .i64 (n.bl:Int)):=hq 1;have q2:W4.cell? ⟨w.heap.size,2,none⟩=some (.int .i64 (n.sl:Int)):=hq 2;have q3:W4.cell? ⟨w.heap.size,3,none⟩=some (.int .i64 (n.jo:Int)):=hq 3;have v1:W4.cell? ⟨w2.heap.size,1,none⟩=some (.int .i64 (1+2*(n.pa:Int))):=hv 1;have HN:=qqh (RB (S:=fun j=>W4.heap.size<=j) n.sl n.sl W4 s1 s2 s2 (fun _ h=>h));have HM:=qqh M4;clear hq hv M4;go_wp2_with fail
  try rw[show(1+2*(n.pa:Int))=((1+2*n.pa:Nat):Int) by simp]
  refine HN.o.mono ?_;rintro e Wx ⟨bck,rfl,hX,-,hb⟩;have MX:=HM.o.add 8 (by simp) (Ck.thing bck 0 n.sl n.sl [] (fun _=>false) []) hb hX;have k21:=MX.cell 21;have g21:=zf MX.str 21;have HX:=qqh MX;clear hX hb MX q1 q2 q3 v1;go_upto_region 26 with fail
  have M5:=HX.o.set 21 (ptr bck);generalize Wx.setCell ⟨c,21,none⟩ (ptr bck)=W5 at*;clear HN HX k21 g21;have hca:=M5.ca HO.o FL.out GL.out hwh;have hd:Did own0 _ w W5:=⟨(uuo M5.bel),M5.old,M5.new,M5.far⟩
  have HL:=qqh (HLd.out _ _ _ _ hd hca);have HD:=qqh hd;clear hca hd M5;go_wp2_with fail
  refine HL.o.mono ?_;rintro e w9 ⟨rfl,own9,hca9,hd9⟩;have HE:=Y2 hca9 (HD.o.trans hd9);clear hca9 hd9;go_wp2
  go_ret2
  exact⟨c,⟨ssd,back,bjr,bix,bss,blg,bck,sm⟩,own9,rfl,rfl,rfl,HE.o.1,HE.o.2⟩
def AI(n:CaN):CaS:=AE n (caS0 n 1 0 (List.replicate n.size zB) [] [] (List.replicate n.bl zB) [] []) []
theorem Sv(F:List Bk)(L:List (Nat×Bk)):∀O,wrsR F L O []=⟨F,O++L,[],0⟩:=by
 induction L with
 |nil=>intro O;simp[wrsR]
 |cons x L ih=>
  intro O;have e:writeR F O [] x.1 x.2=⟨F,O++[(x.1,x.2)],[],0⟩:=rfl;rw[xT (by rw[e]),e,ih];simp
theorem qw{qs:List (Int×Bool)}{fr:Nat}(h:∀k:Nat,qs[k]?.getD (-1,false)=(-1,false)):∀m,visTo qs fr m=[]
 |0=>rfl
 |m+1=>by simp only[visTo,vY];rw[qw h m,if_pos (h m)];rfl
theorem Yn{n:CaN}{a:CaS}(hb:a.bP=[])(hd:a.dP=[])(hps:a.ps=List.replicate n.bl (-1,false)):a.ckpt n=(AE n a [],0):=by
 have he:a.ents n=[]:=by
  unfold CaS.ents;rw[show vis (spanL a.ps 0 n.bl) 0=[]from qw (fun k=>by
   rw[hps];unfold spanL;rw[qyc,qyu];split
   .rw [qys];split<;>rfl
   .rfl) _]
  rfl
 obtain⟨wh,dF,dO,dP,bF,bO,bP,cov,next,W,iN,ps,st,G,kN,K,A,H,mN,sums⟩:=a;simp only at hb hd;subst hb hd;have hs:∀(F:List Bk) (L:List (Nat×Bk)),saveR F [] [] L=⟨flushF F L,[],[],0⟩:=fun F L=>by
  unfold saveR;rw[Sv];rfl
 have h1:((CaS.mk wh dF dO [] bF bO [] cov next W iN ps st G kN K A H mN sums).fb.fd.svR n)=⟨flushF (flushF dF dO) (ckO (1+(1-wh)*n.pa) n.pa (pagesB (next-1) [])),[],[],0⟩:=by
  show saveR (flushF dF dO) [] [] (ckO (1+(1-wh)*n.pa) n.pa (pagesB (next-1) ((CaS.mk wh dF dO [] bF bO [] cov next W iN ps st G kN K A H mN sums).ents n)))=_;rw[he,hs]
 unfold CaS.ckpt;rw[if_neg (by exact fun h=>h rfl),if_neg (by exact fun h=>h rfl),if_neg (by rw[h1];exact fun h=>h rfl)];unfold CaS.ckd;rw[h1];rfl
section
variable{n:CaN}{a:CaS}{N:Nat}
theorem CaS.takeR_next(n:CaN)(a:CaS)(s:Int):a.next<=(a.takeR n s).1.next:=by
 have h:=(a.roomed_next n).1;unfold CaS.takeR;split
 .show a.next<=(a.roomed n).1.next;omega
 .show a.next<=(a.roomed n).1.next;omega
theorem CaS.take2_next(n:CaN)(a:CaS):a.next<=(a.take2 n).1.next:=by
 have h:=(a.committed_next n).1;unfold CaS.take2;split
 .exact qXv _
 .unfold CaS.take3;split
  .show a.next<=(a.committed n).1.next;omega
  split
  .show a.next<=(a.committed n).1.next;omega
  .exact qXx (by show a.next<=(a.committed n).1.next;omega) ((a.committed n).1.al.takeR_next n _)
theorem CaS.takes_next(n:CaN)(a:CaS):a.next<=(a.takes n).1.next:=by
 have h:=CaS.evicts_next n 1 0 a.al;unfold CaS.takes;split
 .exact a.al.takeR_next n _
 .unfold CaS.take1;split
  .split
   .exact h
   .exact qXx h ((CaS.evicts n 1 0 a.al).1.take2_next n)
  .exact a.al.take2_next n
theorem CaS.Fit.backed(h:a.Fit N)(hg:a.Jg n)(h1:1<=a.next)(hj:4<=n.jo)(k:Nat)(x:Bk):(a.backed n k x).1.Fit (N+3*n.pa+n.jo+6):=by
 have ht:=h.takes' hg h1 hj;have hn:=a.takes_next n;unfold CaS.backed;split
 .exact ht.mono (by omega)
 split
 .exact (ht.bypassed (by omega) k x).mono (by omega)
 .have hf:=ht.filled (n:=n) (a.takes n).2.1.toNat (k:Int) x;have hfn:=(yH n (a.takes n).1 (a.takes n).2.1.toNat (k:Int) x).1;unfold CaS.backS;split
  .exact hf.mono (by omega)
  .exact (hf.putted (by omega) (k:Int) _ (crcC x) true (by have:=wK x;omega)).mono (by omega)
theorem CaS.Fit.thru(h:a.Fit N)(hg:a.Jg n)(h1:1<=a.next)(hj:4<=n.jo)(k:Nat)(x:Bk):(a.thru n k x).1.Fit (N+3*n.pa+n.jo+6):=by
 have ht:=h.takes' hg h1 hj;have hn:=a.takes_next n;unfold CaS.thru;split
 .exact ht.mono (by omega)
 split
 .exact (ht.bypassed (by omega) k x).mono (by omega)
 .have hb:=ht.bw k x;unfold CaS.thruS;split
  .exact (hb.turned _).mono (by omega)
  .have hf:=hb.filled (n:=n) (a.takes n).2.1.toNat (k:Int) x;have hfn:=(yH n ((a.takes n).1.bdev (writeR (a.takes n).1.bF (a.takes n).1.bO (a.takes n).1.bP k x)) (a.takes n).2.1.toNat (k:Int) x).1;replace hfn:_=(a.takes n).1.next:=hfn;unfold CaS.thruF;split
   .exact (hf.byp (by rw[hfn];omega) k).mono (by omega)
   .exact (hf.putted (by rw[hfn];omega) (k:Int) _ (crcC x) false (by have:=wK x;omega)).mono (by omega)
theorem CaS.Fit.wrote(h:a.Fit N)(hg:a.Jg n)(h1:1<=a.next)(hj:4<=n.jo)(k:Int)(x:Bk)(md:Int):(a.wrote n k x md).1.Fit (N+3*n.pa+n.jo+6):=by
 unfold CaS.wrote;split
 .exact h.mono (by omega)
 split
 .exact h.mono (by omega)
 split
 .exact h.backed hg h1 hj _ x
 split
 .exact h.thru hg h1 hj _ x
 .exact (h.bypassed h1 _ x).mono (by omega)
theorem CaS.Fit.gone(h:a.Fit N)(h1:1<=a.next)(k:Int):(a.gone n k).1.Fit (N+n.pa+2):=by
 unfold CaS.gone;split
 .exact h.mono (by omega)
 .exact h.bypassed h1 _ _
theorem CaS.Tie.backS{s k:Nat}(h:a.Tie n (some s))(hk:k<n.bl)(x:Bk):(a.backS n k s x).1.Tie n none:=by
 unfold CaS.backS;rcases CaS.Tie.filled h (k:Int) x with⟨hc,ht⟩|⟨hc,ht⟩
 .rw [if_neg (by omega)];exact(CaS.Tie.put ht hk (crcC x) true).2.2
 .rw [if_pos hc];exact ht
theorem CaS.Tie.thruS{s k:Nat}(h:a.Tie n (some s))(hk:k<n.bl)(x:Bk):(a.thruS n k s x).1.Tie n none:=by
 unfold CaS.thruS;split
 .exact (TieL.shut h (.inl rfl)).2
 .unfold CaS.thruF;have h':(a.bdev (writeR a.bF a.bO a.bP k x)).Tie n (some s):=h;rcases CaS.Tie.filled h' (k:Int) x with⟨hc,ht⟩|⟨hc,ht⟩
  .rw [if_neg (by omega)];exact(CaS.Tie.put ht hk (crcC x) false).2.2
  .rw [if_pos hc];exact CaS.Tie.byp ht k
theorem CaS.Tie.backed(h:a.Tie n none)(h1:1<=a.next)(hj:4<=n.jo){k:Nat}(hk:k<n.bl)(x:Bk):(a.backed n k x).1.Tie n none:=by
 have ht:=CaS.Tie.takes h h1 hj;unfold CaS.backed;rcases ht with⟨h2,h3,-,s,h4,h5⟩|⟨h2,h5⟩
 .rw [if_neg (by omega),if_neg (by rw[h2];decide),h4,qxu];exact CaS.Tie.backS h5 hk x
 .split
  .exact h5
  .exact CaS.Tie.bypassed h5 k x
theorem CaS.Tie.thru(h:a.Tie n none)(h1:1<=a.next)(hj:4<=n.jo){k:Nat}(hk:k<n.bl)(x:Bk):(a.thru n k x).1.Tie n none:=by
 have ht:=CaS.Tie.takes h h1 hj;unfold CaS.thru;rcases ht with⟨h2,h3,-,s,h4,h5⟩|⟨h2,h5⟩
 .rw [if_neg (by omega),if_neg (by rw[h2];decide),h4,qxu];exact CaS.Tie.thruS h5 hk x
 .split
  .exact h5
  .exact CaS.Tie.bypassed h5 k x
theorem CaS.Tie.wrote(h:a.Tie n none)(h1:1<=a.next)(hj:4<=n.jo)(k:Int)(x:Bk)(md:Int):(a.wrote n k x md).1.Tie n none:=by
 unfold CaS.wrote;split
 .exact h
 next hk=>
 split
 .exact h
 split
 .exact CaS.Tie.backed h h1 hj (by omega) x
 split
 .exact CaS.Tie.thru h h1 hj (by omega) x
 .exact CaS.Tie.bypassed h _ x
theorem CaS.Tie.gone(h:a.Tie n none)(k:Int):(a.gone n k).1.Tie n none:=by
 unfold CaS.gone;split
 .exact h
 .exact CaS.Tie.bypassed h _ _
end
theorem rT(n k:Nat):plc (List.replicate n (-1,false)) k=(-1,false):=by
 rw[plc,qyh,qys];split<;>rfl
theorem qx(n s:Nat):(List.replicate n (0:Int)).getD s 0=0:=by
 rw[qyh,qys];split<;>rfl
theorem Uc(bl sl:Nat):TieL bl sl (List.replicate bl (-1,false)) (List.replicate sl 0) [] none:={
  hpl:=qzi
  hsl:=qzi
  good:=Good.start _ _
  live:=fun k _ hn=>absurd (rT _ k) hn
  used:=fun s _ h2=>by rw[qx]at h2;cases h2
  opn:=fun s _=>by rw[qx];simp
  rng:=fun s _=>by rw[qx];decide
  olt:=fun s h=>by cases h
  kk:=fun k=>by
   rw[zQ];constructor
   .intro h;cases h
   .rintro ⟨m,-,-,hn⟩;exact absurd (rT _ m) hn
  kd:=qXc}
theorem TW(n:CaN):(AI n).Tie n none:=(Uc n.bl n.sl).freed
end Go.Proofs.YtfhfbpmlnjdfoaaGreatDoor
