/- Plan of an adm -/
import Derived.Test.YtfhfbpmlnjdfoaaGreatDoorG02
import Derived.RangeFuncNested
import Derived.RangeFuncBound
import Derived.RangeFuncCalls
import Derived.RangeFuncLeaves
import Derived.RangeFuncBox
import Derived.Shelf.Abstract
import Derived.OwnWalkIn
import Derived.TacticsInMore
import Derived.LoopNIn
import Derived.LoopIn
import Derived.Maps.AppendAt
import Derived.RangeFuncWrites
set_option maxRecDepth 100000
set_option maxHeartbeats 4000000
namespace Go.Proofs.YtfhfbpmlnjdfoaaGreatDoor
open Go Go.RowKit Tryz
theorem need_any(n:Nat)(h1:1<=n)(h2:n<=100000)(w:World):Calls prog 54 #[.int .i64 (n:Int)] w fun e w'=>e=.returned (.int .i64 (((n-1)/4+1:Nat):Int))/\w=w':=by
 have q1:decide ((n:Int)<0)=false:=oe;have q2:((n:Int)==0)=false:=by rw[qYv];omega
 have hn:¬((n:Int)<0):=oM;go_enter func54,ntmps54
 go_wp2
 go_ret
 refine⟨?_,rfl⟩;show Ending.returned (Value.int .i64 _)=_
 congr 2
 omega
theorem Ap(n f t:Int)(h1:f<=n)(h2:n<=t)(w:World):Calls prog 53 #[.int .i64 n,.int .i64 f,.int .i64 t] w fun e w'=>e=.returned (.bool true)/\w=w':=by
 have q1:decide (f<=n)=true:=by simpa using h1
 have q2:decide (n<=t)=true:=by simpa using h2
 go_enter func53,ntmps53
 go_wp2
 go_ret
 exact⟨rfl,rfl⟩
abbrev superC(id bl sl jo pa lo ba:Int):List Value:=[.int .i64 id,.int .i64 bl,.int .i64 sl,.int .i64 jo,.int .i64 pa,.int .i64 lo,.int .i64 ba]
abbrev layC(sl jo pa lo:Nat):List Value:=[.int .i64 1,.int .i64 (1+2*(pa:Int)),.int .i64 (1+2*(pa:Int)+(jo:Int)),.int .i64 (1+2*(pa:Int)+(jo:Int)+(lo:Int)),.int .i64 (1+2*(pa:Int)+(jo:Int)+(lo:Int)+(lo:Int)),.int .i64 (1+2*(pa:Int)+(jo:Int)+(lo:Int)+(lo:Int)+(lo:Int)),.int .i64 (1+2*(pa:Int)+(jo:Int)+(lo:Int)+(lo:Int)+(lo:Int)+(sl:Int))]
theorem Upd.j6{w w':World}(h:Upd (fun _=>False) w w'){b:Nat}{o:Obj}(e:w.heap[b]?=some o):w'.heap[b]?=some o:=by
 have:=h.block b (Array.getElem?_eq_some_iff.1 e).1 id;rw[this,e]
theorem Ql(sl jo pa lo:Nat):(layC sl jo pa lo).toArray.all (·.oneCell')=true:=by
 refine qYu fun v hv=>?_;simp only[layC,qzr,qXd,qZb]at hv;rcases hv with rfl|rfl|rfl|rfl|rfl|rfl|rfl<;>rfl
theorem xH:(prog.info? 43).map (·.size)=some 7:=kR
theorem xf:(prog.info? 40).map (·.size)=some 7:=kR
theorem ui(id:Int)(bl sl jo pa lo ba:Nat)(b1:1<=bl)(b2:bl<=4096)(s1:1<=sl)(s2:sl<=1024)(j1:4<=jo)(j2:jo<=1024)(l1:1<=lo)(l2:lo<=1024)(a1:1<=ba)(a2:ba<=64)(p1:(sl-1)/4+1<=pa)(p2:pa<=4096)
  (hz:1+2*pa+jo+lo+lo+lo+sl<=4096) (w:World):
  Calls prog 14 #[.agg (superC id bl sl jo pa lo ba).toArray] w fun e w'=>e=.returned (.tuple #[.agg (layC sl jo pa lo).toArray,.int .i64 0])/\Below w.heap.size w w':=by
 have hg:=zc w (.cells (superC id bl sl jo pa lo ba).toArray 40) rfl;have k1:(w.alloc (.cells (superC id bl sl jo pa lo ba).toArray 40)).cell? ⟨w.heap.size,1,none⟩=some (.int .i64 (bl:Int)):=za hg 1;have k2:(w.alloc (.cells (superC id bl sl jo pa lo ba).toArray 40)).cell? ⟨w.heap.size,2,none⟩=some (.int .i64 (sl:Int)):=za hg 2;have k3:(w.alloc (.cells (superC id bl sl jo pa lo ba).toArray 40)).cell? ⟨w.heap.size,3,none⟩=some (.int .i64 (jo:Int)):=za hg 3;have k4:(w.alloc (.cells (superC id bl sl jo pa lo ba).toArray 40)).cell? ⟨w.heap.size,4,none⟩=some (.int .i64 (pa:Int)):=za hg 4;have k5:(w.alloc (.cells (superC id bl sl jo pa lo ba).toArray 40)).cell? ⟨w.heap.size,5,none⟩=some (.int .i64 (lo:Int)):=za hg 5;have k6:(w.alloc (.cells (superC id bl sl jo pa lo ba).toArray 40)).cell? ⟨w.heap.size,6,none⟩=some (.int .i64 (ba:Int)):=za hg 6;go_enter func14,ntmps14
 go_wp2_with fail
 have hua:Upd (fun _=>False) (w.alloc (.cells (superC id bl sl jo pa lo ba).toArray 40)) ((w.alloc (.cells (superC id bl sl jo pa lo ba).toArray 40)).alloc (.cells #[.int .i64 0,.int .i64 0,.int .i64 0,.int .i64 0,.int .i64 0,.int .i64 0,.int .i64 0] 43)):=(uur _ _).alloc _;have hgl:((w.alloc (.cells (superC id bl sl jo pa lo ba).toArray 40)).alloc (.cells #[.int .i64 0,.int .i64 0,.int .i64 0,.int .i64 0,.int .i64 0,.int .i64 0,.int .i64 0] 43)).heap[w.heap.size+1]?=_:=zc _ _ oe;have hul:Upd (fun _=>False) w ((w.alloc (.cells (superC id bl sl jo pa lo ba).toArray 40)).alloc (.cells #[.int .i64 0,.int .i64 0,.int .i64 0,.int .i64 0,.int .i64 0,.int .i64 0,.int .i64 0] 43)):=((uur _ w).alloc _).alloc _;have hs2:((w.alloc (.cells (superC id bl sl jo pa lo ba).toArray 40)).alloc (.cells #[.int .i64 0,.int .i64 0,.int .i64 0,.int .i64 0,.int .i64 0,.int .i64 0,.int .i64 0] 43)).heap.size=w.heap.size+2:=oe;replace k1:=hua.j4 k1 (fun h=>h);replace k2:=hua.j4 k2 (fun h=>h);replace k3:=hua.j4 k3 (fun h=>h);replace k4:=hua.j4 k4 (fun h=>h);replace k5:=hua.j4 k5 (fun h=>h);replace k6:=hua.j4 k6 (fun h=>h);generalize (w.alloc (.cells (superC id bl sl jo pa lo ba).toArray 40)).alloc (.cells #[.int .i64 0,.int .i64 0,.int .i64 0,.int .i64 0,.int .i64 0,.int .i64 0,.int .i64 0] 43)=w2 at*;generalize hm:w.heap.size=m at*;have HM:=Y3 hgl hul hs2;clear hg hua hgl hul hs2
 go_region_held3 (fun W=>W.cell? ⟨m,1,none⟩=some (.int .i64 (bl:Int))/\W.cell? ⟨m,2,none⟩=some (.int .i64 (sl:Int))/\W.cell? ⟨m,3,none⟩=some (.int .i64 (jo:Int))/\W.cell? ⟨m,4,none⟩=some (.int .i64 (pa:Int))/\W.cell? ⟨m,5,none⟩=some (.int .i64 (lo:Int))/\W.cell? ⟨m,6,none⟩=some (.int .i64 (ba:Int)))
  ((go_split_ands;(simp only[qYo]at*);((repeat' constructor)<;>assumption)))
  (first|(go_at_call 53;refine(Ap _ _ _ oM oM _).mono ?_;rintro e w' ⟨rfl,rfl⟩)|(go_at_call 54;refine(need_any _ s1 oM _).mono ?_;rintro e w' ⟨rfl,rfl⟩))
 obtain⟨hgl,hul,hs2⟩:=HM.o;clear HM k1 k2 k3 k4 k5 k6
 rename_i hHeld
 obtain⟨k1,k2,k3,k4,k5,k6⟩:=hHeld;have hm2:m<w2.drew.heap.size:=by show _<w2.heap.size;omega
 have hm3:m+1<w2.drew.heap.size:=by show _<w2.heap.size;omega
 have hu:Upd (fun _=>False) w w2.drew:=hul.drew;replace hgl:w2.drew.heap[m+1]?=_:=hgl;replace hs2:w2.drew.heap.size=m+2:=hs2;have HM:=Y3 hgl hu hs2;clear hgl hul hs2 hu;generalize w2.drew=w3 at*;have hth:Hid (∀X,(w3.alloc X).there (m+1) 0 7):=by
  intro X j hj;have hb:(w3.alloc X).heap[m+1]?=_:=((uur (fun _=>False) w3).alloc X).j6 HM.o.1;rw[za hb,zg hb,qYe];refine⟨?_,rfl⟩;rw[qxe ow];rfl
 go_upto_region 14 with fail
 have rA:=zh (zc w3 (.cells (layC sl jo pa lo).toArray 43) rfl);have hB:Below w.heap.size w (w3.alloc (.cells (layC sl jo pa lo).toArray 43)):=Upd.below ((HM.o.2.1).alloc _);have hth2:=hth.out (.cells (layC sl jo pa lo).toArray 43);clear k1 k2 k3 k4 k5 k6 HM hth;generalize w3.alloc (.cells (layC sl jo pa lo).toArray 43)=w5 at*;generalize w3.heap.size=m3 at*;have h7:(layC sl jo pa lo).length=7:=rfl;have h1:=Ql sl jo pa lo;have hE:(Value.tuple #[.agg (layC sl jo pa lo).toArray,.int .i64 0])=Value.tuple #[.agg (layC sl jo pa lo).toArray,.int .i64 0]:=rfl;generalize hL:layC sl jo pa lo=L at*;have hi:(prog.info? 43).map (·.size)=some L.length:=by rw[h7];exact xH
 have hi2:(prog.info? 43).map (·.size)=some L.toArray.size:=by rw[qXm,h7];exact xH
 have hth3:w5.there (m+1) 0 L.toArray.size:=by rw[qXm,h7];exact hth2
 have hth4:w5.there (m+1) 0 L.length:=by rw[h7];exact hth2
 have HF:=Y6 hB hth3 hth4 hi hi2 h1;clear hB hth2 hth3 hth4 hi hi2 h1 h7 hE;go_wp2_with (first
  |(refine qZg rfl _ _ rfl _ _ rfl L _ rA underlying43 rfl HF.o.2.2.2.1 ?_)
  |(refine qZi rfl _ _ _ rfl (m+1) 0 L.toArray rfl rfl HF.o.2.1 HF.o.2.2.2.2.1 HF.o.2.2.2.2.2 ?_)
  |fail)
 refine qYw (zt rfl _ _ (m+1) 0 L _ rfl (qYr _ _ _ _ HF.o.2.2.1) underlying43 rfl HF.o.2.2.2.1) rfl ⟨by subst hL;rfl,zk (hm▸HF.o.1) (zq _ (m+1) 0 _) oM (fun k e=>oM)⟩
def qw(X:Int->World->Prop)(R:World->Prop)(e:Ending)(w':World):Prop:=∃c:Int,e=.returned (.int .i64 c)/\(c=0->R w')/\(c≠0->X c w')
theorem zbH{g n:Nat}(hn:n<=100)(fd:Nat->Nat)(fi ca:Nat->Array Value)(R:Nat->World->Prop)(X:Int->World->Prop)
  (hc:∀k,k<n->∀W,R k W->W.cell? ⟨g,k,none⟩=some (.func (.func (fd k)) (fi k) (ca k)))
  (he:∀k,k<n->∀args W,(callFunc (fd k) args).run prog W=.ok (.enter (fd k) args) W)
  (hs:∀k,k<n->∀W,R k W->Calls prog (fd k) (fi k++ca k) W (qw X (R (k+1))))
  {w:World} (h0:R 0 w):Calls prog 61 #[.slice (some ⟨g,0,none⟩) n n] w (qw X (R n)):=by
 have H:=Y3 hc hs h0;have HE:=qqh he;clear hc he hs h0;go_enter func61,ntmps61
 go_wp2
 go_step3
 go_wp2
 go_step3
 go_wp2_with fail
 go_loopg[3,8] n (fun gk s3 s8 wr=>∃k:Nat,k+gk=n/\s8=.int .i64 (k:Int)/\s3=.int .i64 0/\R k wr)
 case atStart=>exact⟨0,oM,rfl,rfl,H.o.2.2⟩
 case round=>
  obtain⟨k,hk,rfl,rfl,hS⟩:=hrel;by_cases hlt:k<n
  .have k1:(k:Int)<(n:Int):=oM;have k0:(0:Int)<=(k:Int):=oM;have cg:=H.o.1 k hlt wr hS;have HC:=qqh (H.o.2.1 k hlt wr hS);have hent:=HE.o k hlt;clear hS;obtain⟨fk,hfk⟩:=qqe (fd k);obtain⟨ik,hik⟩:=qqe (fi k);obtain⟨ck,hck⟩:=qqe (ca k);rw[<-hfk,<-hik,<-hck]at cg HC;rw[<-hfk]at hent;clear hfk hik hck;go_wp2_with fail
   refine HC.o.mono ?_;rintro e w2 ⟨c,rfl,hr,hx⟩;clear HC cg hent;by_cases hc0:c=0
   .subst hc0;have HS2:=qqh (hr rfl);clear hr hx;go_wp2_with fail
    go_roundg (gk-1)
    case measure=>omega
    case rel=>exact⟨k+1,oM,by go_num,rfl,HS2.o⟩
   .have q0:(c==0)=false:=by simpa using hc0
    have HZ:=Y2 hc0 (hx hc0);clear hr hx hc0;go_wp2_with fail
    try rw[qxr]
    go_ret
    exact⟨c,rfl,fun h=>absurd h HZ.o.1,fun _=>HZ.o.2⟩
  .obtain rfl:k=n:=oM;have k1:¬((k:Int)<(k:Int)):=oM;have HS2:=qqh hS;clear hS;go_wp2_with fail
   try rw[qxr]
   go_ret
   exact⟨0,rfl,fun _=>HS2.o,fun h=>absurd rfl h⟩
def sizeN(sl jo pa lo:Nat):Nat:=1+2*pa+jo+lo+lo+lo+sl
def qx(F G:List Bk)(z bl:Nat):Int:=if F.length=z/\G.length=bl then 0 else 22
theorem Qm{S T:Nat->Prop}{w:World}{b bb:Nat}{F G:List Bk}{O Q:List (Nat×Bk)}{P R:List Int}(h:Dv S w b F O P)(h':Dv T w bb G Q R)(id:Int)(bl sl jo pa lo ba:Nat):
  Calls prog 55 #[.agg (superC id bl sl jo pa lo ba).toArray,.agg (layC sl jo pa lo).toArray,.pointer (some ⟨b,0,none⟩),.pointer (some ⟨bb,0,none⟩)] w
   fun e w'=>e=.returned (.int .i64 (qx F G (sizeN sl jo pa lo) bl))/\Upd (fun _=>False) w w':=by
 obtain⟨U,hU⟩:=qqe (superC id bl sl jo pa lo ba);obtain⟨V,hV⟩:=qqe (layC sl jo pa lo);obtain⟨w1,hw1⟩:=qqe ((w.alloc (.cells U.toArray 40)).alloc (.cells V.toArray 43));have hu1:Upd (fun _=>False) w w1:=by rw[hw1];exact((uur _ w).alloc _).alloc _
 have g1:w1.heap[w.heap.size]?=some (.cells U.toArray 40):=by
  rw[hw1];exact(((uur (fun _=>False) (w.alloc (.cells U.toArray 40))).alloc (.cells V.toArray 43))).j6 (zc w _ rfl)
 have g2:w1.heap[w.heap.size+1]?=some (.cells V.toArray 43):=by rw[hw1];exact zc _ _ oe
 have u1:w1.cell? ⟨w.heap.size,1,none⟩=some (.int .i64 (bl:Int)):=by rw[za g1,hU];simp[superC]
 have v6:w1.cell? ⟨w.heap.size+1,6,none⟩=some (.int .i64 ((sizeN sl jo pa lo:Nat):Int)):=by rw[za g2,hV];simp[layC,sizeN]
 have hS1:∀k,Calls prog 47 #[.pointer (some ⟨b,0,none⟩)] (w1.drewN k) fun e w'=>e=.returned (.int .i64 (F.length:Int))/\w'=w1.drewN k:=fun k=>wJ (h.new (hu1.trans ((uur (fun _=>False) w1).drewN k)));have hS2:∀k,Calls prog 47 #[.pointer (some ⟨bb,0,none⟩)] (w1.drewN k) fun e w'=>e=.returned (.int .i64 (G.length:Int))/\w'=w1.drewN k:=fun k=>wJ (h'.new (hu1.trans ((uur (fun _=>False) w1).drewN k)));have HS:=Y2 hS1 hS2;have HU:=qqh hu1;have HW:=qqh hw1;obtain⟨mc,hmc⟩:=qqe (qx F G (sizeN sl jo pa lo) bl);rw[<-hU,<-hV,<-hmc];unfold qx at hmc;generalize sizeN sl jo pa lo=z at*;generalize F.length=f at*;generalize G.length=g at*;have HM:=qqh hmc;clear h h' hS1 hS2 hu1 hw1 g1 g2 hU hV hmc;go_enter func55,ntmps55
 go_wp2_with fail
 rw[<-HW.o];by_cases hf:f=z
 .by_cases hg:g=bl
  .have e:mc=0:=by rw[HM.o,if_pos ⟨hf,hg⟩]
   subst hf hg e
   go_quiet((go_at_call 47;(first|with_reducible exact Calls.quiet_of_same (HS.o.1 _)|with_reducible exact Calls.quiet_of_same (HS.o.2 _))))
   have hu:=HU.o.trans ((uur (fun _=>False) w1).drewN nq);generalize w1.drewN nq=w2 at*;go_wp2
   go_ret
   exact⟨rfl,hu⟩
  .have e:mc=22:=by rw[HM.o,if_neg (fun h=>hg h.2)]
   have q1:¬(g:Int)=(bl:Int):=oM;have q2:((g:Int)==(bl:Int))=false:=by simpa using q1
   subst hf e;clear hg
   go_quiet((go_at_call 47;(first|with_reducible exact Calls.quiet_of_same (HS.o.1 _)|with_reducible exact Calls.quiet_of_same (HS.o.2 _))))
   have hu:=HU.o.trans ((uur (fun _=>False) w1).drewN nq);generalize w1.drewN nq=w2 at*;go_wp2
   go_ret
   exact⟨rfl,hu⟩
 .have e:mc=22:=by rw[HM.o,if_neg (fun h=>hf h.1)]
  have q1:¬(f:Int)=(z:Int):=oM;have q2:((f:Int)==(z:Int))=false:=by simpa using q1
  subst e;clear hf
  go_quiet((go_at_call 47;(first|with_reducible exact Calls.quiet_of_same (HS.o.1 _)|with_reducible exact Calls.quiet_of_same (HS.o.2 _))))
  have hu:=HU.o.trans ((uur (fun _=>False) w1).drewN nq);generalize w1.drewN nq=w2 at*;go_wp2
  go_ret
  exact⟨rfl,hu⟩
structure Tur(w:World):Prop where
 c0:w.cell? ⟨1,0,none⟩=some (.int .i64 2)
 c1:w.cell? ⟨1,1,none⟩=some (.int .i64 28)
 c2:w.cell? ⟨1,2,none⟩=some (.int .i64 24)
 c3:w.cell? ⟨1,3,none⟩=some (.int .i64 17)
 c4:w.cell? ⟨1,4,none⟩=some (.int .i64 0)
theorem Tur.lt{w:World}(h:Tur w):1<w.heap.size:=(zN h.c0).2
theorem Tur.keep{w w':World}(h:Tur w){S:Nat->Prop}(hu:Upd S w w')(hs:¬S 1):Tur w':=
 ⟨(hu.cellAt h.lt hs).trans h.c0,(hu.cellAt h.lt hs).trans h.c1,(hu.cellAt h.lt hs).trans h.c2,(hu.cellAt h.lt hs).trans h.c3,(hu.cellAt h.lt hs).trans h.c4⟩
theorem Tur.below{w w':World}(h:Tur w)(hb:Below w.heap.size w w'):Tur w':=h.keep (uuo (S:=fun _=>False) hb) id
def mayB(a b:Int):Bool:=
 if a=0 then b==1 else if a=1 then b==2||b==3||b==4 else if a=2 then b==3||b==4 else if a=3 then b==0||b==4 else false
def stateB(a:Int):Bool:=decide (0<=a)&&decide (a<=4)
theorem yI(a:Int)(w:World):Calls prog 248 #[.int .i64 a] w fun e w'=>e=.returned (.bool (stateB a))/\w'=w:=by
 by_cases h1:0<=a
 .by_cases h2:a<=4
  .go_enter func248,ntmps248
   go_wp2
   go_ret
   exact⟨by simp[stateB,h1,h2],rfl⟩
  .go_enter func248,ntmps248
   go_wp2
   go_ret
   exact⟨by simp[stateB,h1,h2],rfl⟩
 .go_enter func248,ntmps248
  go_wp2
  go_ret
  exact⟨by simp[stateB];omega,rfl⟩
theorem Vo(a b:Int)(h:¬(0<=a/\a<=4)\/¬(0<=b/\b<=4)):mayB a b=false:=by
 unfold mayB
 repeat' split
 all_goals first|rfl|(simp;omega)
theorem Vp(a b:Int)(w:World)(ht:Tur w):Calls prog 249 #[.int .i64 a,.int .i64 b] w fun e w'=>e=.returned (.bool (mayB a b))/\w'=w:=by
 by_cases ha:0<=a/\a<=4
 .by_cases hb:0<=b/\b<=4
  .obtain ⟨c0,c1,c2,c3,c4⟩:=ht;have ha':a=0\/a=1\/a=2\/a=3\/a=4:=oM;have hb':b=0\/b=1\/b=2\/b=3\/b=4:=oM;clear ha hb;rcases ha' with rfl|rfl|rfl|rfl|rfl<;>rcases hb' with rfl|rfl|rfl|rfl|rfl
   all_goals
    go_enter func249,ntmps249
    go_wp2
    go_ret
    exact⟨rfl,rfl⟩
  .rw [Vo a b (.inr hb)];have hs:stateB a=true:=by simp[stateB,ha]
   have hs2:stateB b=false:=by simp[stateB];omega
   clear ht ha hb;go_enter func249,ntmps249
   go_wp2_with fail
   refine(yI a _).mono ?_;rintro e w' ⟨rfl,rfl⟩;rw[hs];go_wp2_with fail
   refine(yI b _).mono ?_;rintro e w' ⟨rfl,rfl⟩;rw[hs2];go_wp2
   go_ret
   exact⟨rfl,rfl⟩
 .rw [Vo a b (.inl ha)];have hs:stateB a=false:=by simp[stateB];omega
  clear ht ha;go_enter func249,ntmps249
  go_wp2_with fail
  refine(yI a _).mono ?_;rintro e w' ⟨rfl,rfl⟩;rw[hs];go_wp2
  go_ret
  exact⟨rfl,rfl⟩
structure SlotsAt(T:TypeId)(w:World)(b:Nat)(v:Value)(l:List Int):Prop where
 str:w.heap[b]?=some (.cells #[v] T (0,0))
 sl:Sl w 3 1 v l.length (ints l)
 ne:v.ownBlock≠some b
 le:l.length<=1024
abbrev uj(b:Nat):Value:=.pointer (some ⟨b,0,none⟩)
section
variable{T:TypeId}{w w':World}{b:Nat}{v:Value}{l:List Int}
theorem SlotsAt.keep(h:SlotsAt T w b v l){S:Nat->Prop}(hu:Upd S w w')(hb:¬S b)(hv:∀g,v.ownBlock=some g->¬S g):SlotsAt T w' b v l:=
 ⟨(hu.block b (zf h.str) hb).trans h.str,h.sl.keep hu hv,h.ne,h.le⟩
theorem SlotsAt.new(h:SlotsAt T w b v l)(hu:Upd (fun _=>False) w w'):SlotsAt T w' b v l:=h.keep hu id (fun _ _ h=>h)
theorem Sl.set{e:TypeId}{g off n cap:Nat}{l:List Int}(h:Sl w e 1 (.slice (some ⟨g,off,none⟩) n cap) n (ints l))(i:Nat)(hi:i<n)(x:Int):
  Sl (w.setCell ⟨g,off+i,none⟩ (.int .i64 x)) e 1 (.slice (some ⟨g,off,none⟩) n cap) n (ints (l.set i x)):=by
 obtain⟨hl,⟨h1,_⟩|⟨g',off',cap',cur,h1,hg,hn,hm,hs,hc⟩⟩:=h
 .cases h1
 .cases h1;refine⟨by simpa using hl,.inr ⟨g,off,cap,_,rfl,zi hg _ _,hn,hm,by simpa using hs,fun j u hj=>?_⟩⟩;have hjl:j<l.length:=by have:=(qyp.1 hj).1;simpa using this
  rw[yt (by simpa using hjl)]at hj;cases hj;by_cases hji:i=j
  .subst hji;rw[Array.getElem?_setIfInBounds_self,if_pos oM];simp
  .rw [qxg oM,List.getElem_set_ne hji];exact hc j _ (yt hjl)
theorem SlotsAt.set{g off cap:Nat}(h:SlotsAt T w b (.slice (some ⟨g,off,none⟩) l.length cap) l)(i:Nat)(hi:i<l.length)(x:Int):
  SlotsAt T (w.setCell ⟨g,off+i,none⟩ (.int .i64 x)) b (.slice (some ⟨g,off,none⟩) l.length cap) (l.set i x)/\Upd (ownS (.slice (some ⟨g,off,none⟩) l.length cap)) w (w.setCell ⟨g,off+i,none⟩ (.int .i64 x)):=by
 have hu:Upd (ownS (.slice (some ⟨g,off,none⟩) l.length cap)) w (w.setCell ⟨g,off+i,none⟩ (.int .i64 x)):=(zj w g (off+i) _).mono (fun k _ hk=>by subst hk;rfl);refine⟨⟨(hu.block b (zf h.str) (fun e=>h.ne e)).trans h.str,?_,h.ne,by simpa using h.le⟩,hu⟩;have:=h.sl.set i hi x;rw[qzj];exact this
theorem SlotsAt.at(h:SlotsAt T w b v l){i:Nat}(hi:i<l.length):∃g off cap,v=.slice (some ⟨g,off,none⟩) l.length cap/\w.cell? ⟨g,off+i,none⟩=some (.int .i64 l[i])/\w.frozen? ⟨g,off+i,none⟩=false:=by
 obtain⟨g,off,cap,cur,rfl,hg,_,hc⟩:=h.sl.at oM;exact⟨g,off,cap,rfl,by rw[za hg];exact hc i _ (yt hi),zg hg _⟩
end
section
variable{w:World}{b:Nat}{v:Value}{l:List Int}
theorem UA(h:SlotsAt 327 w b v l)(slot:Int)(ho:slot<0\/(l.length:Int)<=slot):
  Calls prog 247 #[uj b,.int .i64 slot] w fun e w'=>e=.returned (.tuple #[.int .i64 0,.int .i64 10])/\w'=w:=by
 have hc0:=za h.str 0;simp at hc0;have hle:=h.le;obtain⟨ao,c,rfl⟩:=h.sl.rd.j7;clear h;by_cases h0:slot<0
 .clear ho;go_enter func247,ntmps247
  go_wp2
  go_ret2
  exact⟨rfl,rfl⟩
 .have h1:(l.length:Int)<=slot:=oM;clear ho;go_enter func247,ntmps247
  go_wp2
  go_ret2
  exact⟨rfl,rfl⟩
theorem qy(h:SlotsAt 327 w b v l)(i:Nat)(hi:i<l.length):
  Calls prog 247 #[uj b,.int .i64 i] w fun e w'=>e=.returned (.tuple #[.int .i64 l[i],.int .i64 0])/\w'=w:=by
 have hc0:=za h.str 0;simp at hc0;have hle:=h.le;obtain⟨g,off,cap,rfl,hc,hf⟩:=h.at hi;clear h;go_enter func247,ntmps247
 go_wp2
 go_ret2
 exact⟨rfl,rfl⟩
def turnCode(l:List Int)(slot state:Int):Int:=
 if slot<0\/(l.length:Int)<=slot then 10 else if stateB state=false then 1 else if mayB (l.getD slot.toNat 0) state=false then 16 else 0
def turnList(l:List Int)(slot state:Int):List Int:=if turnCode l slot state=0 then l.set slot.toNat state else l
theorem YB(h:SlotsAt 327 w b v l)(ht:Tur w)(slot state:Int):
  Calls prog 176 #[uj b,.int .i64 slot,.int .i64 state] w fun e w'=>e=.returned (.int .i64 (turnCode l slot state))/\
   SlotsAt 327 w' b v (turnList l slot state)/\Upd (ownS v) w w':=by
 have H:=qqh h;have HT:=qqh ht;clear ht;by_cases h0:slot<0\/(l.length:Int)<=slot
 .have hcode:turnCode l slot state=10:=by simp[turnCode,h0]
  have hlist:turnList l slot state=l:=by simp[turnList,hcode]
  rw[hcode,hlist];have H0:=qqh h0;clear h hcode hlist h0;go_enter func176,ntmps176
  go_wp2_with fail
  refine(UA H.o _ H0.o).mono ?_;rintro e w' ⟨rfl,rfl⟩;go_wp2
  go_ret
  exact⟨rfl,H.o,uur _ _⟩
 .obtain ⟨i,rfl⟩:=qxs (show 0<=slot by omega);have hi:i<l.length:=oM;have hgd:l.getD i 0=l[i]:=by simp[hi]
  by_cases h1:stateB state=false
  .have hcode:turnCode l i state=1:=by simp only[turnCode,if_neg h0,if_pos h1]
   have hlist:turnList l i state=l:=by simp[turnList,hcode]
   rw[hcode,hlist];have H1:=qqh h1;clear h hcode hlist h0 hgd h1;go_enter func176,ntmps176
   go_wp2_with fail
   refine(qy H.o i hi).mono ?_;rintro e w' ⟨rfl,rfl⟩;go_wp2_with fail
   refine(yI state _).mono ?_;rintro e w' ⟨rfl,rfl⟩;rw[H1.o];go_wp2
   go_ret
   exact⟨rfl,H.o,uur _ _⟩
  .have h1':stateB state=true:=by simpa using h1
   by_cases h2:mayB l[i] state=false
   .have hcode:turnCode l i state=16:=by simp only[turnCode,if_neg h0,if_neg h1,qxu,hgd,if_pos h2]
    have hlist:turnList l i state=l:=by simp[turnList,hcode]
    rw[hcode,hlist];have H1:=qqh h1';have H2:=qqh h2;clear h hcode hlist h0 hgd h1 h1' h2;go_enter func176,ntmps176
    go_wp2_with fail
    refine(qy H.o i hi).mono ?_;rintro e w' ⟨rfl,rfl⟩;go_wp2_with fail
    refine(yI state _).mono ?_;rintro e w' ⟨rfl,rfl⟩;rw[H1.o];go_wp2_with fail
    refine(Vp _ _ _ HT.o).mono ?_;rintro e w' ⟨rfl,rfl⟩;rw[H2.o];go_wp2
    go_ret
    exact⟨rfl,H.o,uur _ _⟩
   .have h2':mayB l[i] state=true:=by simpa using h2
    have hcode:turnCode l i state=0:=by simp only[turnCode,if_neg h0,if_neg h1,qxu,hgd,if_neg h2]
    have hlist:turnList l i state=l.set i state:=by simp only[turnList,hcode,if_true,qxu]
    rw[hcode,hlist];have H1:=qqh h1';have H2:=qqh h2';have hc0:=za h.str 0;simp at hc0;have hle:=h.le;obtain⟨g,off,cap,rfl,hc,hf⟩:=h.at hi;have HF:=qqh (H.o.set i hi state);clear h hcode hlist h0 hgd h1 h1' h2 h2';go_enter func176,ntmps176
    go_wp2_with fail
    refine(qy H.o i hi).mono ?_;rintro e w' ⟨rfl,rfl⟩;go_wp2_with fail
    refine(yI state _).mono ?_;rintro e w' ⟨rfl,rfl⟩;rw[H1.o];go_wp2_with fail
    refine(Vp _ _ _ HT.o).mono ?_;rintro e w' ⟨rfl,rfl⟩;rw[H2.o];go_wp2
    go_ret
    exact⟨rfl,HF.o.1,HF.o.2⟩
end
def free(l:List Int):Nat:=l.findIdx (·==0)
theorem Je(l:List Int):free l<=l.length:=List.findIdx_le_length
theorem Qn{l:List Int}{k:Nat}(h:k<=free l)(hk:k<l.length)(h0:l[k]=0):free l=k:=by
 rcases Nat.lt_or_ge k (free l)with hlt|hge
 .have:=List.not_of_lt_findIdx hlt;simp[h0]at this
 .omega
theorem UB{l:List Int}{k:Nat}(h:k<=free l)(hk:k<l.length)(h0:l[k]≠0):k+1<=free l:=by
 rcases Nat.lt_or_ge k (free l)with hlt|hge
 .exact hlt
 .exfalso;have he:free l=k:=oM;have hl:l.findIdx (·==0)<l.length:=by show free l<_;omega
  have h1:=List.findIdx_getElem (w:=hl);have h2:l[k]==0:=by
   have:l.findIdx (·==0)=k:=he;simp only[this]at h1;exact h1
  exact h0 (by simpa using h2)
def allocVal(l:List Int):Int:=if free l<l.length then free l else 0
def allocCode(l:List Int):Int:=if free l<l.length then 0 else 17
def allocList(l:List Int):List Int:=l.set (free l) 1
theorem UC(n:Nat):madeCells #[Value.int .i64 0] (n*1)=(ints (List.replicate n 0)).toArray:=by
 apply Array.ext
 .simp [size_madeCells]
 .intro i h1 h2;have:i%1=0:=Nat.mod_one i;simp[madeCells,ints,this]
theorem EV:(prog.info? 3).map (fun i=>(i.zero,i.size,i.bytes))=some (some (.int .i64 0),1,8):=kR
abbrev TS:TypeId:=327
theorem Jf(n:Nat)(w:World)(h1:1<=n)(h2:n<=1024):
  Calls prog 133 #[.int .i64 n] w fun e w'=>e=.returned (.tuple #[uj (w.heap.size+1),.int .i64 0])/\
   SlotsAt TS w' (w.heap.size+1) (.slice (some ⟨w.heap.size,0,none⟩) n n) (List.replicate n 0)/\Below w.heap.size w w'/\w'.heap.size=w.heap.size+2:=by
 obtain⟨i0,hi,hz0,hz1,hz2⟩:=qZa EV;have hmk:∀w:World,(Instr.makeSlice 87 (.int .i64 n) (.int .i64 n)).run prog w=.ok (.slice (some ⟨w.heap.size,0,none⟩) n n) (w.alloc (.cells (ints (List.replicate n 0)).toArray 3)):=by
  intro w;have:=run_make (P:=prog) w 87 3 i0 (.int .i64 0) underlying87 hi hz0 .i64 .i64 n n oM oM jH oM;rw[this];simp only[qxu,hz1,Value.cells];rw[UC]
 have h1':¬(n:Int)<1:=oM;have h2':¬1024<(n:Int):=oM;clear hi hz0 hz1 hz2;go_enter func133,ntmps133
 go_wp2
 go_ret2
 have ha:(w.alloc (.cells (ints (List.replicate n 0)).toArray 3)).heap[w.heap.size]?=some (.cells (ints (List.replicate n 0)).toArray 3):=zc w _ rfl;refine⟨rfl,⟨zc _ _ oe,?_,by simp[Value.ownBlock],by simpa using h2⟩,((qxl _ _).alloc (qXv _) _).alloc oe _,oe⟩;refine⟨oe,.inr ⟨w.heap.size,0,n,(ints (List.replicate n 0)).toArray,oe,?_,oe,by unfold maxLen;omega,oe,?_⟩⟩
 .rw [qxk _ _ _ oe];exact ha
 .intro j u hj;simpa using hj
section
variable{w:World}{b:Nat}{v:Value}{l:List Int}
theorem UD(h:SlotsAt TS w b v l):
  Calls prog 324 #[uj b] w fun e w'=>e=.returned (.tuple #[.int .i64 (allocVal l),.int .i64 (allocCode l)])/\
   SlotsAt TS w' b v (allocList l)/\Upd (ownS v) w w':=by
 have hc0:=za h.str 0;simp at hc0;have hle:=h.le;have H:=qqh h;obtain⟨ao,c,rfl⟩:=h.sl.rd.j7;clear h;go_enter func324,ntmps324
 go_wp2
 go_step3
 go_wp2
 go_step3
 go_wp2
 go_loopg[4,5,15] (l.length+1) (fun g fv ev i wr=>∃k:Nat,k+g=l.length+1/\k<=l.length/\fv=.int .i64 0/\ev=.int .i64 17/\i=.int .i64 k/\k<=free l/\wr=w)
 case atStart=>exact⟨0,oM,oM,rfl,rfl,rfl,qYf _,rfl⟩
 case round=>
  obtain⟨k,hk,hkl,rfl,rfl,rfl,hf,rfl⟩:=hrel;by_cases hlt:k<l.length
  .obtain ⟨g,off,cap,hv,hcell,hfz⟩:=H.o.at hlt;cases hv;by_cases h0:l[k]=0
   .have hfr:=Qn hf hlt h0;have hb0:(l[k]==0)=true:=by simpa using h0
    have hr1:allocVal l=k:=by simp[allocVal,hfr,hlt]
    have hr2:allocCode l=0:=by simp[allocCode,hfr,hlt]
    have hr3:allocList l=l.set k 1:=by simp[allocList,hfr]
    have HF:=qqh (H.o.set k hlt 1);have HR:Hid (allocVal l=k/\allocCode l=0/\allocList l=l.set k 1):=⟨hr1,hr2,hr3⟩
    clear hf hfr h0 hr1 hr2 hr3;go_wp2
    rw[qxr];go_ret2
    exact⟨by rw[HR.o.1,HR.o.2.1];rfl,by rw[HR.o.2.2];exact HF.o.1,HF.o.2⟩
   .have hb0:(l[k]==0)=false:=by simpa using h0
    have hfs:=UB hf hlt h0;clear hf h0;go_wp2
    go_roundg (gk-1)
    case measure=>omega
    case rel=>exact⟨k+1,oM,oM,rfl,rfl,by go_num,hfs,rfl⟩
  .obtain rfl:k=l.length:=oM;have hfr:free l=l.length:=Nat.le_antisymm (Je l) hf;have hr1:allocVal l=0:=by simp[allocVal,hfr]
   have hr2:allocCode l=17:=by simp[allocCode,hfr]
   have hr3:allocList l=l:=by simp only[allocList,hfr];exact List.set_eq_of_length_le (qXv _)
   have HR:Hid (allocVal l=0/\allocCode l=17/\allocList l=l):=⟨hr1,hr2,hr3⟩
   clear hf hfr hr1 hr2 hr3;go_wp2
   rw[qxr];go_ret2
   exact⟨by rw[HR.o.1,HR.o.2.1];rfl,by rw[HR.o.2.2];exact H.o,uur _ _⟩
theorem UE{w:World}{v:Value}{l:List Int}(h:Rd w 1 v l.length (ints l))(hle:l.length<=4096):
  Calls prog 113 #[v] w fun e w'=>∃v',e=.returned v'/\Sl w' 3 1 v' l.length (ints l)/\From w.heap.size v'/\Below w.heap.size w w':=by
 obtain⟨i0,hi,hz0,hz1,hz2⟩:=qZa EV;have H:=qqh h;obtain⟨hl,hm,ao,c,rfl,h0,_⟩:=h;have q34:=fun(w:World) (a:Option Addr) (n c:Nat)=>Lib.run_eql_slice_nil (P:=prog) w 87 3 a n c 0 0 underlying87;cases ao with
 |none=>
  have hn:=h0 rfl;obtain rfl:l=[]:=qyd hn;clear h0 hl;go_enter func113,ntmps113
  go_wp2
  go_ret
  exact⟨_,rfl,by simpa using Sl.nil _ _ _,From.nil _ _ _,qxl _ _⟩
 |some a=>
  clear h0 hl;have hs0:Sl (w.alloc (.cells #[] 3)) 3 1 (.slice (some ⟨w.heap.size,0,none⟩) 0 0) 0 []:=
   ⟨oe,.inr ⟨w.heap.size,0,0,#[],rfl,zc _ _ rfl,oe,by simp[maxLen],oe,oe⟩⟩
  have HR:Hid (Rd (w.alloc (.cells #[] 3)) 1 (.slice (some a) l.length c) l.length (ints l)):=H.o.keep ((uur (fun _=>False) _).alloc _) (fun _ _ h=>h);go_enter func113,ntmps113
  go_wp2_with (at_builtin;refine zE rfl _ _ 87 rfl i0 (.int .i64 0) 8 underlying87 hi hz0 hz1 hz2 rfl de rfl hs0 _ l.length (ints l) rfl HR.o (by simp[ints,Value.oneCell']) og oM ?_)
  intro v' w2 hs2 hu2 hb2;go_wp2
  go_ret
  refine⟨_,rfl,by simpa using hs2,?_,?_⟩
  .exact hb2.ge oe oy
  .refine zk ((qxl _ _).alloc (qXv _) _) hu2 (qXv _) ou
end
open Go Go.RowKit Go.Shelf Tryz
attribute [local go_sem] qYh
def xz(l:List Int)(st:Int)(k:Nat):List Nat:=(List.range k).filter fun i=>l[i]?.getD 0==st
abbrev pos(l:List Int)(st:Int):List Nat:=xz l st l.length
theorem vn{l:List Int}{st:Int}{k:Nat}(h:(l[k]?.getD 0==st)=true):xz l st (k+1)=xz l st k++[k]:=by simp[xz,List.range_succ,h]
theorem qA{l:List Int}{st:Int}{k:Nat}(h:(l[k]?.getD 0==st)=false):xz l st (k+1)=xz l st k:=by simp[xz,List.range_succ,h]
theorem UF(l:List Int)(st:Int)(k:Nat):(xz l st k).length<=k:=by have:=List.length_filter_le (fun i=>l[i]?.getD 0==st) (List.range k);simpa[xz]using this
theorem uk(l:List Int)(st:Int){k m:Nat}(h:k<=m):xz l st k<+:xz l st m:=by
 induction m with
 |zero=>
  obtain rfl:k=0:=oM;exact List.prefix_rfl
 |succ m ih=>
  by_cases hk:k=m+1
  .subst hk;exact List.prefix_rfl
  .refine (ih oM).trans ?_;by_cases hb:(l[m]?.getD 0==st)=true
   .rw [vn hb];exact List.prefix_append _ _
   .rw [qA (by simpa using hb)];exact List.prefix_rfl
theorem Zr(l:List Int)(st:Int){k m:Nat}(h:k<m)(hb:(l[k]?.getD 0==st)=true):(xz l st k).length<(xz l st m).length:=by
 have h1:=(uk l st (show k+1<=m by omega)).length_le;rw[vn hb]at h1;simp at h1;omega
theorem Aq(F:Fence)(n:Nat)(h7:F.fn 227)(hro:F.round=none)(hn:1<=n)(S:Nat->Prop)(l Bs Bt b off cap:Nat)(zs:List Int)(st:Int)(hle:zs.length<=1024)(hb:¬S b)(hBt:¬S Bt)(J Jx:List Nat->World->Prop)
  (hY:∀pre (x:Nat) W,J pre W->pre.length<(pos zs st).length->YieldAt F (n-1) prog l #[.int .i64 (x:Int)] W fun e W'=>
   (e=.returned (.bool true)/\J (pre++[x]) W'/\Upd S W W')\/(e=.returned (.bool false)/\Jx (pre++[x]) W'))
  (W:World) (hbW:b<W.heap.size) (hBtW:Bt<W.heap.size) (hBs:W.cell? ⟨Bs,0,none⟩=some (.slice (some ⟨b,off,none⟩) zs.length cap)) (hct:W.cell? ⟨Bt,0,none⟩=some (.int .i64 st))
  (hc:∀j,j<zs.length->W.cell? ⟨b,off+j,none⟩=some (.int .i64 (zs[j]?.getD 0))) (h0:J [] W):
  CallsIn F n prog 227 #[.func (.yield l) #[] #[],.pointer (some ⟨Bs,0,none⟩),.pointer (some ⟨Bt,0,none⟩)] W fun e W'=>(∃v,e=.returned v)/\
   ((∃ys,ys=pos zs st/\J ys W')\/(∃pre,pre<+:pos zs st/\Jx pre W')):=by
 refine callsIn_of_wp func227 rfl h7 ?_ hro;simp only[ntmps227,qXm,qze,qzh,Nat.reduceAdd,Nat.reduceSub,qxi,qxj,qXg,qxz,qzz,qya]
 gi_wp2
 gi_loopw [8] (fun i wr=>∃k:Nat,k<=zs.length/\i=.int .i64 k/\J (xz zs st k) wr/\Upd S W wr)
  (fun i _=>zs.length-(intOf i).toNat)
 case atStart=>exact⟨0,qYf _,rfl,h0,uur _ _⟩
 case round=>
  obtain⟨k,hk,rfl,hJs,hnx⟩:=hrel;have hct':wr.cell? ⟨Bt,0,none⟩=some (.int .i64 st):=(hnx.cellAt hBtW hBt).trans hct;by_cases hlt:k<zs.length
  .have hcx':wr.cell? ⟨b,off+k,none⟩=some (.int .i64 (zs[k]?.getD 0)):=(hnx.cellAt hbW hb).trans (hc k hlt);have hgd:Hid (zs[k]?.getD 0=zs[k]):=by show _=_;simp[hlt]
   by_cases hq:(zs[k]==st)=true
   .have hqq:Hid ((zs[k]?.getD 0==st)=true):=by rw[hgd.out];exact hq
    obtain⟨fn,tmps,assign,body,hy,hR⟩:=hY _ k wr hJs (Zr zs st hlt hqq.out)
    gi_wp2
    refine hR.mono ?_;rintro e W3 (⟨rfl,hJ3,hk3⟩|⟨rfl,hJx3⟩)
    .gi_wp2
     go_roundw
     case rel=>exact⟨k+1,oM,oe,by rw[vn hqq.out];exact hJ3,hnx.trans hk3⟩
     case measure=>simp[intOf];omega
    .gi_wp2
     refine qYw (qZc rfl _ _ _) rfl ?_;exact⟨⟨_,rfl⟩,.inr ⟨_,by rw[<-vn hqq.out];exact uk zs st oM,hJx3⟩⟩
   .have hq':(zs[k]==st)=false:=by simpa using hq
    have hqq:Hid ((zs[k]?.getD 0==st)=false):=by rw[hgd.out];exact hq'
    clear hq
    gi_wp2
    refine⟨fun _ h=>(by cases h),?_⟩
    gi_wp2
    go_roundw
    case rel=>exact⟨k+1,oM,oe,by rw[qA hqq.out];exact hJs,hnx⟩
    case measure=>simp[intOf];omega
  .obtain rfl:k=zs.length:=oM
   gi_wp2
   go_end0
   exact⟨⟨_,rfl⟩,.inl ⟨_,rfl,hJs⟩⟩
theorem sJ(F:Fence)(n:Nat)(h7:F.fn 227)(hro:F.round=none)(hn:1<=n)(S:Nat->Prop)(Bs Bt b off cap:Nat)(zs:List Int)(st:Int)(w:World)(hle:zs.length<=1024)
  (hb:b<w.heap.size) (hBt:Bt<w.heap.size) (hBs:Bs<w.heap.size) (hbS:¬S b) (hBtS:¬S Bt)
  (hcs:w.cell? ⟨Bs,0,none⟩=some (.slice (some ⟨b,off,none⟩) zs.length cap)) (hct:w.cell? ⟨Bt,0,none⟩=some (.int .i64 st))
  (hc:∀j,j<zs.length->w.cell? ⟨b,off+j,none⟩=some (.int .i64 (zs[j]?.getD 0))):
  SeqStopsK F n prog 227 #[.pointer (some ⟨Bs,0,none⟩),.pointer (some ⟨Bt,0,none⟩)] (fun x:Nat=> #[Value.int .i64 (x:Int)]) (Upd S) (fun ys=>ys=pos zs st) (fun pre=>pre<+:pos zs st) (pos zs st).length w:=fun l J Jx W hW _ _ hY h0=>
 Aq F n h7 hro hn S l Bs Bt b off cap zs st hle hbS hBtS J Jx hY W (qXy hb hW.size) (qXy hBt hW.size) ((hW.cell (p:=⟨Bs,0,none⟩) hBs).trans hcs) ((hW.cell (p:=⟨Bt,0,none⟩) hBt).trans hct) (fun j hj=>(hW.cell (p:=⟨b,off+j,none⟩) hb).trans (hc j hj)) h0
theorem YC{A B:World}{row:Option Nat}{b:Nat}{t:TypeId}{v:Value}(hs:Boxed A b t v)(hg:A.grownBy B row)(hr:∀r,row=some r->∃o:Obj,A.heap[r]?=some o/\o.isCells=false):Boxed B b t v:=
 hs.kept hg (fun e=>by
  obtain⟨o,ho,hc⟩:=hr _ e.symm;rw[show A.heap[b]?=_ from hs]at ho;cases ho;simp[Obj.isCells]at hc)
theorem uR{S:Nat->Prop}{A B C:World}(h:Upd S A B)(h':Upd S B C):Upd S A C:=h.trans h'
theorem wN{S:Nat->Prop}{M:Nat}(hS:∀j,M<=j->S j)(W:World)(l:Nat)(o o':Obj)(hl:M<=l)(_:W.heap[l]?=some o)(_:o.isCells=false)(_:o.isWalk=false):Upd S W (W.putObj l o'):=
 ⟨rfl,rfl,rfl,by simp[World.putObj],fun k _ hk=>by
  have:k≠l:=fun e=>hk (hS k oM);simp only[World.putObj];rw[qxg (fun e=>this e.symm)]⟩
theorem Vq{w:World}{b:Nat}{v:Value}{l:List Int}(h:SlotsAt 327 w b v l)(st:Int)(hpos:0<l.length):
  Calls prog 159 #[uj b,.int .i64 st] w fun e w'=>∃Bs Bt g off cap,e=.returned (.func (.func 227) #[] #[.pointer (some ⟨Bs,0,none⟩),.pointer (some ⟨Bt,0,none⟩)])/\
   (w.heap.size<=Bt/\w.heap.size<=g)/\Bs<w'.heap.size/\Bt<w'.heap.size/\g<w'.heap.size/\w'.cell? ⟨Bs,0,none⟩=some (.slice (some ⟨g,off,none⟩) l.length cap)/\w'.cell? ⟨Bt,0,none⟩=some (.int .i64 st)/\
   (∀j,j<l.length->w'.cell? ⟨g,off+j,none⟩=some (.int .i64 (l[j]?.getD 0)))/\Below w.heap.size w w':=by
 have hu0:Upd (fun _=>False) w (w.alloc (.cells #[.int .i64 st] 3)):=(uur _ _).alloc _;have h':=h.new hu0;have hc0:=za h'.str 0;simp at hc0;have HR:=qqh h'.sl.rd;have hle:=h.le;clear h h';go_enter func159,ntmps159
 go_wp2_with fail
 refine(UE HR.o oM).mono ?_;rintro e w1 ⟨v',rfl,hs1,hf1,hb1⟩;obtain⟨g,off,cap,cur,rfl,hg,_,hcc⟩:=hs1.at hpos;have hlt:=zf hg;go_wp2
 go_ret
 have hsz:=hb1.size;simp at hsz;have hbox:w1.cell? ⟨w.heap.size,0,none⟩=some (.int .i64 st):=(hb1.cell (p:=⟨w.heap.size,0,none⟩) oe).trans (by rw[za (zc _ _ rfl)];simp);have hA:=(uur (fun _=>False) w1).alloc (.cells #[.slice (some ⟨g,off,none⟩) l.length cap] 87);refine⟨w1.heap.size,w.heap.size,g,off,cap,rfl,⟨qXv _,by have:=hf1 g rfl;simp at this;omega⟩,oe,by simp;omega,by simp;omega,?_,?_,fun j hj=>?_,?_⟩
 .rw [za (zc _ _ rfl)];simp
 .exact (hA.cellAt oM id).trans hbox
 .refine (hA.cellAt hlt id).trans ?_;rw[za hg,hcc j _ (yt hj)];simp[hj]
 .exact zk (zk (qxl _ w) (Upd.new hu0 (uuo (S:=fun _=>False) hb1) (fun _ _ h=>h)) (qXv _) (fun _ h=>h.elim)) hA (qXv _) (fun _ h=>h.elim)
theorem UG{w:World}{b:Nat}{v:Value}{l:List Int}(h:SlotsAt 327 w b v l)(st:Int)(hpos:0<l.length):
  Calls prog 84 #[uj b,.int .i64 st] w fun e w'=>e=.returned (.int .i64 (pos l st).length)/\Below w.heap.size w w':=by
 have h1:=h.new ((uur (fun _=>False) w).alloc (.cells #[.int .i64 0] 3));have hlen:Hid ((pos l st).length<=1024):=by have h1:=UF l st l.length;have h2:=h.le;exact qXx h1 h2
 have hle:=h.le;clear h;refine(callsIn_wide (n:=3)).1 ?_;refine callsIn_of_wp_marks func84 rfl trivial ?_ rfl;simp only[ntmps84,qXm,qze,qzh,Nat.reduceAdd,Nat.reduceSub,qxi,qxj,qXg,qxz,qzz,qya]
 gi_wp2_with (refine⟨trivial,?_⟩;gi_at_call 159;refine(callsIn_wide.2 (Vq h1 st hpos)).mono ?_;rintro e w1 ⟨Bs,Bt,g,off,cap,rfl,hge,hBs,hBt,hg,hcs,hct,hcl,hb1⟩)
 have bO0:Boxed (w.alloc (.cells #[.int .i64 0] 3)) w.heap.size 3 (.int .i64 0):=Boxed.new w _ _;have bO:Boxed w1 w.heap.size 3 (.int .i64 0):=(hb1.block _ oe).trans bO0;have hsz:=hb1.size;simp at hsz;have hB0:Below w.heap.size w w1:=zk ((qxl _ w).alloc (qXv _) _) (uuo (S:=fun _=>False) hb1) (qXv _) (fun _ h=>h.elim);refine wpIn_rangeFunc_ownF rfl oM (gf:=227) (lb:= #[.pointer (some ⟨Bs,0,none⟩),.pointer (some ⟨Bt,0,none⟩)]) rfl trivial (enters_of func227 kR rfl)
  (sJ Fence.wide _ trivial rfl oM (fun j=>w1.heap.size<=j\/j=w.heap.size) Bs Bt g off cap l st w1 hle hg hBt hBs (by simp at hge;omega) (by simp at hge;omega) hcs hct hcl) uR (fun W l o o' hl=>wN (M:=w1.heap.size) (fun j h=> .inl h) W l o o' hl) (qxl _ _) (fun _=>rfl)
  (fun pre W=>Boxed W w.heap.size 3 (.int .i64 pre.length)/\Below w.heap.size w W)
  (fun _ _ _=>False)
  (OwnFrom.and (Own.from (I:=fun(s:List Nat) A=>Boxed A w.heap.size 3 (.int .i64 s.length)) (fun s A B row hs hg hr=>YC hs hg hr) _) (ownFrom_below (qXv _) oM))
  (fun _ _ _ _ _ hs _ _=>hs)
  ⟨bO,hB0⟩
  (fun x=>{tmps:= #[uj b,Value.int IntKind.i64 st,undef,undef,Value.int IntKind.i64 0,
     Value.pointer (some {block:=w.heap.size,off:=0}),uj b,Value.int IntKind.i64 st,
     Value.func (Fn.func 227) #[]
      #[Value.pointer (some {block:=Bs,off:=0}),Value.pointer (some {block:=Bt,off:=0})],
     .int .i64 x,undef,undef,undef],defers:=[]}) ?assign ?body ?done ?stop
 case assign=>
  intro l x W K hK
  gi_wp2
  simpa using hK
 case body=>
  rintro l pre x W ⟨hv,hB⟩ hlt;have hc:=hv.cell;have hf:=hv.frozen;have hn:(pre.length:Int)<1024:=by have:=hlen.out;omega
  gi_wp2
  rw[show((pre.length:Int)+1)=((pre++[x]).length:Int) by simp];exact⟨KeepsOthers.setCell _ _ _,(zj W _ _ _).mono (fun k _ hk=> .inr hk),hv.set _,hB.setCell (p:=⟨w.heap.size,0,none⟩) (qXv _) _⟩
 case done=>
  rintro D ys W hD rfl ⟨hv,hB⟩ hK;have hc:=hv.cell
  gi_wp2
  refine⟨oe,.inl ⟨_,_,rfl,run_takeDeferred hK,?_⟩⟩;exact⟨_,results_tmp rfl _ _ _,rfl,hB.trans (belowK_b (w:=w) (qXv _) W D _ _ oM hK rfl rfl)⟩
 case stop=>
  rintro D c pre W _ _ h _;exact h.elim
attribute [local go_sem] qYh
abbrev zbI(base:Nat){m:Nat}(x:{i:Nat//i<m}):Array Value:= #[.int .i64 (x.1:Int),.int .i64 ((base:Int)+(x.1:Int))]
theorem Ar(n:Nat)(hn:1<=n)(S:Nat->Prop)(l Bm Bb base m:Nat)(hm:m<=4096)(hbs:base<=4096)(hBm:¬S Bm)(hBb:¬S Bb)(J Jx:List {i:Nat//i<m}->World->Prop)
  (hY:∀pre (x:{i:Nat//i<m}) W,J pre W->pre.length<m->YieldAt Fence.wide (n-1) prog l (zbI base x) W fun e W'=>
   (e=.returned (.bool true)/\J (pre++[x]) W'/\Upd S W W')\/(e=.returned (.bool false)/\Jx (pre++[x]) W'))
  (W:World) (hmW:Bm<W.heap.size) (hbW:Bb<W.heap.size) (hcm:W.cell? ⟨Bm,0,none⟩=some (.int .i64 m)) (hcb:W.cell? ⟨Bb,0,none⟩=some (.int .i64 base)) (h0:J [] W):
  CallsIn Fence.wide n prog 171 #[.func (.yield l) #[] #[],.pointer (some ⟨Bm,0,none⟩),.pointer (some ⟨Bb,0,none⟩)] W fun e W'=>(∃v,e=.returned v)/\
   ((∃ys:List {i:Nat//i<m},ys.map (·.1)=List.range m/\J ys W')\/(∃pre:List {i:Nat//i<m},pre.map (·.1)=List.range pre.length/\Jx pre W')):=by
 refine callsIn_of_wp func171 rfl trivial ?_ rfl;simp only[ntmps171,qXm,qze,qzh,Nat.reduceAdd,Nat.reduceSub,qxi,qxj,qXg,qxz,qzz,qya]
 gi_wp2
 gi_loopw [4] (fun i wr=>∃(k:Nat) (pre:List {i:Nat//i<m}),k<=m/\i=.int .i64 k/\pre.map (·.1)=List.range k/\J pre wr/\Upd S W wr)
  (fun i _=>m-(intOf i).toNat)
 case atStart=>exact⟨0,[],qYf _,rfl,rfl,h0,uur _ _⟩
 case round=>
  obtain⟨k,pre,hk,rfl,hpre,hJs,hnx⟩:=hrel;have hcm':wr.cell? ⟨Bm,0,none⟩=some (.int .i64 m):=(hnx.cellAt hmW hBm).trans hcm;have hcb':wr.cell? ⟨Bb,0,none⟩=some (.int .i64 base):=(hnx.cellAt hbW hBb).trans hcb;by_cases hlt:k<m
  .have hpl:pre.length=k:=by have:=congrArg List.length hpre;simpa using this
   obtain⟨fn,tmps,assign,body,hy,hR⟩:=hY pre ⟨k,hlt⟩ wr hJs oM;have b2:(k:Int)<(m:Int):=oM
   gi_wp2
   refine hR.mono ?_;rintro e W3 (⟨rfl,hJ3,hk3⟩|⟨rfl,hJx3⟩)
   .gi_wp2
    go_roundw
    case rel=>exact⟨k+1,pre++[⟨k,hlt⟩],oM,oe,by simp[List.range_succ,hpre],hJ3,hnx.trans hk3⟩
    case measure=>simp[intOf];omega
   .gi_wp2
    refine qYw (qZc rfl _ _ _) rfl ?_;exact⟨⟨_,rfl⟩,.inr ⟨_,by simp[List.range_succ,hpre,hpl],hJx3⟩⟩
  .obtain rfl:k=m:=oM
   gi_wp2
   go_end0
   exact⟨⟨_,rfl⟩,.inl ⟨_,hpre,hJs⟩⟩
theorem sK(n:Nat)(hn:1<=n)(S:Nat->Prop)(Bm Bb base m:Nat)(w:World)(hm:m<=4096)(hbs:base<=4096)(hmw:Bm<w.heap.size)(hbw:Bb<w.heap.size)(hmS:¬S Bm)(hbS:¬S Bb)
  (hcm:w.cell? ⟨Bm,0,none⟩=some (.int .i64 m)) (hcb:w.cell? ⟨Bb,0,none⟩=some (.int .i64 base)):
  SeqStopsK Fence.wide n prog 171 #[.pointer (some ⟨Bm,0,none⟩),.pointer (some ⟨Bb,0,none⟩)] (fun x:{i:Nat//i<m}=>zbI base x) (Upd S) (fun ys=>ys.map (·.1)=List.range m) (fun ys=>ys.map (·.1)=List.range ys.length) m w:=fun l J Jx W hW _ _ hY h0=>
 Ar n hn S l Bm Bb base m hm hbs hmS hbS J Jx hY W (qXy hmw hW.size) (qXy hbw hW.size) ((hW.cell (p:=⟨Bm,0,none⟩) hmw).trans hcm) ((hW.cell (p:=⟨Bb,0,none⟩) hbw).trans hcb) h0
theorem tL(base m:Int)(w:World):
  Calls prog 98 #[.int .i64 base,.int .i64 m] w fun e w'=>e=.returned (.func (.func 171) #[] #[.pointer (some ⟨w.heap.size+1,0,none⟩),.pointer (some ⟨w.heap.size,0,none⟩)])/\
   w'=(w.alloc (.cells #[.int .i64 base] 3)).alloc (.cells #[.int .i64 m] 3):=by
 have hmf:=qqf;go_enter func98,ntmps98
 go_wp2
 go_ret
 exact⟨rfl,rfl⟩
theorem Qo{S:Nat->Prop}{w:World}{b:Nat}{F:List Bk}{O:List (Nat×Bk)}{P:List Int}(h:Dv S w b F O P)(base m:Nat)(h1:1<=m)(h2:base+m<=F.length):
  Calls prog 97 #[.pointer (some ⟨b,0,none⟩),.int .i64 (base:Int),.int .i64 (m:Int),.int .i64 1] w fun e w'=>e=.returned (.bool true)/\w=w':=by
 have hfl:=h.good.fl;have b1:¬((base:Int)>(F.length:Int)):=oM;have b2:(m:Int)<=((F.length:Int)-(base:Int)):=oM;have b3:¬((m:Int)<1):=oM;have b4:¬((base:Int)<0):=oM;have b5:0<=((F.length:Int)-(base:Int)):=oM;have q1:decide ((F.length:Int)<(base:Int))=false:=by simp;omega
 go_enter func97,ntmps97
 go_wp2_with (first
  |(go_at_call 47;refine(wJ h).mono ?_;rintro e w' ⟨rfl,rfl⟩)
  |fail)
 go_ret
 exact⟨rfl,rfl⟩
attribute [local go_sem] qYh
def Jh(w:World)(S:Nat->Prop):Prop:=∀j,S j->j<w.heap.size->∃cs t z,w.heap[j]?=some (.cells cs t z)
theorem zD{S:Nat->Prop}{w w':World}(hu:Upd S w w')(hS:Jh w S):KeepsOthers w w':=
 ⟨hu.size,fun k o hk ho=>by
  have hl:=zf hk;refine(hu.block k hl (fun hs=>?_)).trans hk;obtain⟨cs,t,z,h⟩:=hS k hs hl;rw[hk]at h;cases h;simp[Obj.isCells]at ho⟩
theorem xt{S:Nat->Prop}{a w w':World}{row:Option Nat}(h:Upd S a w)(hg:w.grownBy w' row)(hr:∀r,row=some r->S r):Upd S a w':=
 h.trans (Upd.kB hg (fun g e _=>hr g e))
theorem Wc{w w':World}{row:Option Nat}{j:Nat}{cs:Array Value}{t:TypeId}{z:Nat×Nat}(h:w.heap[j]?=some (.cells cs t z))(_hg:w.grownBy w' row)(hr:∀r,row=some r->∃o:Obj,w.heap[r]?=some o/\o.isCells=false):row≠some j:=fun e=>by
 obtain⟨o,ho,hi⟩:=hr j e;rw[h]at ho;cases ho;simp[Obj.isCells]at hi
theorem As:(#[.int .u8 0,.int .u8 0,.int .u8 0,.int .u8 0,.int .u8 0,.int .u8 0,.int .u8 0,.int .u8 0,.int .u8 0,.int .u8 0,.int .u8 0,.int .u8 0,.int .u8 0,.int .u8 0,.int .u8 0,.int .u8 0,.int .u8 0,.int .u8 0,.int .u8 0,.int .u8 0,.int .u8 0,.int .u8 0,.int .u8 0,.int .u8 0,.int .u8 0,.int .u8 0,.int .u8 0,.int .u8 0,.int .u8 0,.int .u8 0,.int .u8 0,.int .u8 0,.int .u8 0,.int .u8 0,.int .u8 0,.int .u8 0,.int .u8 0,.int .u8 0,.int .u8 0,.int .u8 0,.int .u8 0,.int .u8 0,.int .u8 0,.int .u8 0,.int .u8 0,.int .u8 0,.int .u8 0,.int .u8 0,.int .u8 0,.int .u8 0,.int .u8 0,.int .u8 0,.int .u8 0,.int .u8 0,.int .u8 0,.int .u8 0,.int .u8 0,.int .u8 0,.int .u8 0,.int .u8 0,.int .u8 0,.int .u8 0,.int .u8 0,.int .u8 0]:Array Value)=(bkC zB).toArray:=kR
def Yv(base:Nat)(B:List Bk)(i:Nat):Nat×Bk:=(base+i,B.getD i zB)
def ckO(base m:Nat)(B:List Bk):List (Nat×Bk):=(List.range m).map (Yv base B)
theorem DvAt.cells{w:World}{b:Nat}{vf vo vp:Value}{F:List Bk}{O:List (Nat×Bk)}{P:List Int}(h:DvAt w b vf vo vp F O P):∀j,dvS b vf vo vp j->∃cs t,w.heap[j]?=some (.cells cs t (0,0)):=by
 have hs:∀{e:TypeId} {k n:Nat} {v:Value} {xs:List Value},Sl w e k v n xs->∀j,v.ownBlock=some j->∃cs t,w.heap[j]?=some (.cells cs t (0,0)):=by
  intro e k n v xs hsl j hj;rcases hsl with⟨-,⟨rfl,-⟩|⟨g,off,cap,cur,rfl,hg,-⟩⟩
  .cases hj
  .cases hj;exact⟨_,_,hg⟩
 rintro j (rfl|hj|hj|hj)
 .exact ⟨_,_,h.str⟩
 .exact hs h.fs j hj
 .exact hs h.os j hj
 .exact hs h.ps j hj
theorem Dv.grown{S:Nat->Prop}{w w':World}{row:Option Nat}{b:Nat}{F:List Bk}{O:List (Nat×Bk)}{P:List Int}(h:Dv S w b F O P)(hg:w.grownBy w' row)(hr:∀r,row=some r->∃o:Obj,w.heap[r]?=some o/\o.isCells=false):Dv S w' b F O P:=by
 obtain⟨vf,vo,vp,h,hS⟩:=h;refine⟨vf,vo,vp,h.keep (Upd.kB (S:=fun j=>row=some j) hg (fun g e _=>e)) (fun j hj e=>?_),hS⟩;obtain⟨cs,t,hc⟩:=h.cells j hj;obtain⟨o,ho,hi⟩:=hr j e;rw[hc]at ho;cases ho;simp[Obj.isCells]at hi
section
variable{F:Fence}{n:Nat}{P:Program}{ops:Array Oper}{rest:List Oper}{op:Oper}{a:Act}{w:World}{Q:Exit->Act->World->Prop}
theorem vJ{K:Act->World->Prop}(ty:TypeId)(x:Operand)(ho:op.op=.load ty x)(b o:Nat)(hx:a.eval x=.pointer (some ⟨b,o,none⟩))(cs:List Value)(d:TypeDesc)(hc:w.rangeAt b o cs)
  (hu:P.underlying ty=some d) (hd:d.isRow=true) (hi:(P.info? ty).map (·.size)=some cs.length) (h:K (a.put op.dst (.agg cs.toArray)) w):op.wpIn F n P a w K Q:=by
 unfold Oper.wpIn;refine⟨by simp[Oper.about,ho],?_⟩;rw[Oper.semAt_plain F _ _ jI];unfold execOp;simp only[ho,hx,Instr.loadAt,Instr.sureAddr,qYm,Sem.run_pure,qYl,run_loadVar_mid w b o ty cs d hc hu hd hi];exact h
theorem yM(hgd:op.guard=none)(ty:TypeId)(x:Operand)(ho:op.op=.load ty x)(b o:Nat)(hx:a.eval x=.pointer (some ⟨b,o,none⟩))(cs:List Value)(d:TypeDesc)(hc:w.rangeAt b o cs)
  (hu:P.underlying ty=some d) (hd:d.isRow=true) (hi:(P.info? ty).map (·.size)=some cs.length) (h:wpListIn F n P ops Q rest (a.put op.dst (.agg cs.toArray)) w):wpListIn F n P ops Q (op::rest) a w:=
 wpListIn_plain hgd fun _ hK=>vJ ty x ho b o hx cs d hc hu hd hi (hK _ _ h)
theorem qB{K:Act->World->Prop}(ty:TypeId)(x y:Operand)(ho:op.op=.store ty x y)(b o:Nat)(cells:Array Value)(hx:a.eval x=.pointer (some ⟨b,o,none⟩))(hy:a.eval y=.agg cells)
  (ht:w.there b o cells.size) (hi:(P.info? ty).map (·.size)=some cells.size) (h1:cells.all (·.oneCell')=true)
  (h:K (a.put op.dst undef) (w.setCells b o cells.toList)):op.wpIn F n P a w K Q:=by
 unfold Oper.wpIn;refine⟨by simp[Oper.about,ho],?_⟩;rw[Oper.semAt_plain F _ _ jI];unfold execOp;simp only[ho,hx,hy,Instr.storeAt,Instr.sureAddr,qYm,Sem.run_pure,qYl,run_storeVar_mid w b o ty cells ht hi h1];exact h
theorem vU(hgd:op.guard=none)(ty:TypeId)(x y:Operand)(ho:op.op=.store ty x y)(b o:Nat)(cells:Array Value)(hx:a.eval x=.pointer (some ⟨b,o,none⟩))(hy:a.eval y=.agg cells)
  (ht:w.there b o cells.size) (hi:(P.info? ty).map (·.size)=some cells.size) (h1:cells.all (·.oneCell')=true)
  (h:wpListIn F n P ops Q rest (a.put op.dst undef) (w.setCells b o cells.toList)):wpListIn F n P ops Q (op::rest) a w:=
 wpListIn_plain hgd fun _ hK=>qB ty x y ho b o cells hx hy ht hi h1 (hK _ _ h)
theorem xA(hgd:op.guard=none)(ty:TypeId)(x y:Operand)(ho:op.op=.store ty x y)
  (zs:Array Value) (t:TypeId) (vs:List Value) (hx:a.eval x=.pointer (some ⟨w.heap.size,0,none⟩)) (hy:a.eval y=.agg vs.toArray) (hz:zs.size=vs.length)
  (hi:(P.info? ty).map (·.size)=some vs.length) (h1:∀v∈vs,v.oneCell'=true)
  (h:wpListIn F n P ops Q rest (a.put op.dst undef) (w.alloc (.cells vs.toArray t))):wpListIn F n P ops Q (op::rest) a (w.alloc (.cells zs t)):=by
 refine vU hgd ty x y ho w.heap.size 0 vs.toArray hx hy (fun j hj=>?_) ox (qYu h1) ?_
 .rw [za (zc w _ rfl),zg (zc w _ rfl)];simp at hj;exact⟨by rw[qYe,qxe oM];rfl,rfl⟩
 .rw [List.toList_toArray,tI w t vs zs hz];exact h
end
end Go.Proofs.YtfhfbpmlnjdfoaaGreatDoor
