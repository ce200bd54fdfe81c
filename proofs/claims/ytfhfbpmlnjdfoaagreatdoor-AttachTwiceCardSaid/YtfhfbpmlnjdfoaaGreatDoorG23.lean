/- A cache: leave -/
import Derived.Test.YtfhfbpmlnjdfoaaGreatDoorG22
import Derived.BigRegionIn
import Derived.Shelf.RegionOpen
set_option maxRecDepth 100000
set_option maxHeartbeats 1000000
namespace Go.Proofs.YtfhfbpmlnjdfoaaGreatDoor
open Go Go.RowKit Tryz
section
abbrev CaS.noted(n:CaN)(a:CaS)(op block slot:Int)(d:Bool)(sum:Int):CaS:={a with next:=a.next+1,W:=a.W++[(a.next,sectR (jaddX a.next n.jo op block slot d sum))]}
abbrev CaS.left(n:CaN)(a:CaS)(k:Int):CaS:={a.noted n 1 k 0 false 0 with ps:=dropL a.ps k,sums:=upd1 a.sums k none,st:=turnList a.st (getV a.ps k).1 3}
theorem Xf{own:Nat->Nat}{w:World}{c:Nat}{n:CaN}{p:CaP}{a:CaS}(h:CaAt own w c n p a)(k:Int)(hg:getC a.ps k=0)(hroom:a.next<=a.cov+n.jo)(hmx:a.next<=1099511627776)(hmay:mayR (jaddX a.next n.jo 1 k 0 false 0)=true):
  Calls prog 167 #[ptr c,.int .i64 k] w (zu own w c n p (a.left n k) (.int .i64 (turnCode a.st (getV a.ps k).1 3))):=by
 have hkr:0<=k/\k<4096:=by
  have h1:=h.pl;have h2:=h.ok.b2;unfold getC at hg;split at hg
  .cases hg
  .omega
 obtain⟨hk0,hk1⟩:=hkr;have HJ:=qqh (ZN h hroom hmx 0 0 1 k 0 false 0 hmay);obtain⟨-,-,-,d3,d4,-,-,-,-⟩:=h.cells;have H:=Y2 h hg;clear h hg hroom hmx hmay;go_enter func167,ntmps167
 go_wp2_with fail
 refine HJ.o.mono ?_;rintro e w1 ⟨rfl,own1,h1,hd1⟩;have HP:=qqh (JN h1 k);obtain⟨-,-,-,-,e4,-,-,-,-⟩:=h1.cells;have H1:=qqh hd1;clear h1 hd1 HJ d3 d4;go_wp2_with fail
 refine HP.o.mono ?_;rintro e w2 ⟨rfl,own2,h2,hd2⟩;have hg:=H.o.2;obtain⟨s,hs⟩:=qqe ((getV a.ps k).1);obtain⟨db,hdb⟩:=qqe ((getV a.ps k).2);rw[hg];have hua:Upd (fun _=>False) w2 (w2.alloc (.cells #[.int .i64 s,.bool db] 95)):=(uur _ _).alloc _;have h2a:=h2.new hua;have c0:(w2.alloc (.cells #[.int .i64 s,.bool db] 95)).cell? ⟨w2.heap.size,0,none⟩=some (.int .i64 s):=za (zc w2 _ rfl) 0;have hm2:own2 w2.heap.size=0:=h2.far _ (qXv _);have hdall:=(H1.o.trans hd2).trans (h2.ji hua);rw[<-hs,<-hdb];obtain⟨w3,own3,hrun,h3,hd3⟩:=AH h2a (x:=k) (by omega) (by omega) 0;obtain⟨-,-,-,-,-,-,-,-,f8⟩:=h2a.cells;obtain⟨-,-,-,-,-,g5,-,-,-⟩:=h3.cells;have c3:=hd3.upd.ja c0 (fun h=>h.1 hm2);obtain⟨m,hm⟩:=qqe (w2.heap.size);have HO:Hid (own3 m=0):=(hd3.old m (by rw[hm];simp)).trans (by rw[hm];exact hm2);have HD:=Y3 h3 (hdall.trans hd3) hs;have HM:=qqh hm;rw[<-hm]at c3;clear hua h2a c0 hm2 hdall h3 hd3 h2 hd2 HP hg hs hdb hm;go_upto_region 8 with fail
 rw[<-HM.o];refine qZj (S:=fun W=>W.cell? ⟨c,19,none⟩=some (ptr p.ss)/\W.cell? ⟨m,0,none⟩=some (.int .i64 s)) (by kernel_rfl) (by(simp only[qYo]);exact⟨g5,c3⟩) (fun hHeld=>?_);refine Wl.i [0,1,2,3,4,5] ?_;iterate 6 refine Wl.t hHeld ?_
 refine Wl.o ?_;refine Wl.r 6 (fun K hK=>?_);go_simp
 have HT:=qqh (yX (HD.o.1.new ((uur (fun _=>False) w3).drew)) s 3);refine HT.o.mono ?_;rintro e w4 ⟨rfl,own4,h4,hd4⟩;obtain⟨-,-,-,-,-,i5,-,-,-⟩:=h4.cells;have c4:=hd4.upd.ja (show w3.drew.cell? ⟨m,0,none⟩=some (.int .i64 s) by rw[qYo];exact c3) (fun h=>h.1 HO.o);have H4:=Y2 h4 hd4;clear h4 hd4;refine hK.o _ _ (⟨i5,c4⟩) (fun hH1=>?_);clear hK K;refine Wl.r 7 (fun K hK=>?_);go_simp
 refine hK.o _ _ (hH1) (fun hH2=>?_);clear hK K;refine Wl.d ?_;go_wp2
 go_ret
 have hs:=HD.o.2.2;subst hs;exact⟨rfl,own4,H4.o.1,(HD.o.2.1.drew).trans H4.o.2⟩
abbrev CaS.jK(n:CaN)(a:CaS)(k:Int):CaS:={a.left n k with K:=a.K.erase k,A:=dropA a.K a.A k}
theorem Xg{own:Nat->Nat}{w:World}{c:Nat}{n:CaN}{p:CaP}{a:CaS}(h:CaAt own w c n p a)(k:Int)(hg:getC a.ps k≠0):
  Calls prog 230 #[ptr c,.int .i64 k] w (zu own w c n p a (.int .i64 0)):=by
 have HG:=qqh (qW h k);obtain⟨-,-,-,-,d4,-,-,-,-⟩:=h.cells;clear h;have q0:(getC a.ps k==0)=false:=by simpa using hg
 go_enter func230,ntmps230
 go_wp2_with fail
 refine HG.o.mono ?_;rintro e w1 ⟨rfl,own1,h1,hd1⟩;have H1:=Y2 h1 hd1;clear h1 hd1 HG d4;generalize getV a.ps k=pv at*;generalize getC a.ps k=cd at*;obtain⟨s,b⟩:=pv;go_wp2
 go_ret
 have hu:=(uur (fun _=>False) w1).alloc (.cells #[.int .i64 s,.bool b] 95);exact⟨rfl,own1,H1.o.1.new hu,H1.o.2.trans (H1.o.1.ji hu)⟩
theorem ZO{own:Nat->Nat}{w:World}{c:Nat}{n:CaN}{p:CaP}{a:CaS}(h:CaAt own w c n p a)(k:Int)(hg:getC a.ps k=0)(hroom:a.next<=a.cov+n.jo)(hmx:a.next<=1099511627776)(hmay:mayR (jaddX a.next n.jo 1 k 0 false 0)=true)
  (ht:turnCode a.st (getV a.ps k).1 3=0):
  Calls prog 230 #[ptr c,.int .i64 k] w (zu own w c n p (a.jK n k) (.int .i64 (touchC a.K k))):=by
 have HG:=qqh (qW h k);obtain⟨-,-,-,-,d4,-,-,-,-⟩:=h.cells;have HR:=Y5 hg hroom hmx hmay ht;rw[hg]at HG;clear h hg hroom hmx hmay ht;go_enter func230,ntmps230
 go_wp2_with fail
 refine HG.o.mono ?_;rintro e w1 ⟨rfl,own1,h1,hd1⟩;obtain⟨s,hs⟩:=qqe ((getV a.ps k).1);obtain⟨b,hb⟩:=qqe ((getV a.ps k).2);have hu:=(uur (fun _=>False) w1).alloc (.cells #[.int .i64 s,.bool b] 95);obtain⟨w2,hw2⟩:=qqe (w1.alloc (.cells #[.int .i64 s,.bool b] 95));rw[<-hw2]at hu;have h2:=h1.new hu;have HD:=qqh (hd1.trans (h1.ji hu));have HL:=qqh (Xf h2 k HR.o.1 HR.o.2.1 HR.o.2.2.1 HR.o.2.2.2.1);have HW:=qqh hw2;rw[<-hs,<-hb];clear h1 hd1 HG d4 hu h2 hs hb hw2;go_wp2_with fail
 rw[<-HW.o];refine HL.o.mono ?_;rw[HR.o.2.2.2.2];rintro e w3 ⟨rfl,own3,h3,hd3⟩;obtain⟨-,-,-,-,-,-,-,d7,-⟩:=h3.cells;have HK:=qqh (Ri h3 k);have H3:=qqh (HD.o.trans hd3);clear h3 hd3 HL;go_wp2_with fail
 refine HK.o.mono ?_;rintro e w4 ⟨rfl,own4,h4,hd4⟩;have H4:=Y2 h4 hd4;clear h4 hd4 d7 HK;go_wp2
 go_ret
 exact⟨rfl,own4,H4.o.1,H3.o.trans H4.o.2⟩
theorem ZP(l:List Int):(allocList l).length=l.length:=by simp[allocList]
section
variable{own:Nat->Nat}{w w':World}{c:Nat}{n:CaN}{p:CaP}{a:CaS}
theorem Ro(h:CaAt own w c n p a):
  Calls prog 324 #[ptr p.ss] w (zu own w c n p {a with st:=allocList a.st} (.tuple #[.int .i64 (allocVal a.st),.int .i64 (allocCode a.st)])):=by
 obtain⟨v,hi,hb,hs⟩:=h.open6;exact(Um hi).mono fun _ _ ⟨he,hi',hu⟩=>
  have hu':=hu.mono (fun j _ hj=>hs j hj)
  ⟨he,_,h.turn6 hu' ⟨v,hi',hb,hs⟩ (ZP _),h.did6 hu'⟩
theorem ux(h:CaAt own w c n p a)(st:Int):
  Calls prog 84 #[ptr p.ss,.int .i64 st] w (zu own w c n p a (.int .i64 (pos a.st st).length)):=by
 obtain⟨v,hi,-,-⟩:=h.ss;exact(Up hi st (by rw[h.sl];exact h.ok.s1)).mono fun _ _ ⟨he,hb⟩=>⟨he,own,h.new (uuo hb),h.ji (uuo hb)⟩
end
open Go Go.RowKit Go.Shelf Tryz
attribute [local go_sem] qYh
theorem Ss.exact{S:Nat->Prop}{w:World}{b:Nat}{l:List Int}(h:Ss S w b l):∃S0:Nat->Prop,Ss S0 w b l/\(∀j,S0 j->S j)/\∀j,S0 j->∃cs t z,w.heap[j]?=some (.cells cs t z):=by
 obtain⟨v,h,hb,hs⟩:=h;refine⟨fun j=>j=b\/v.ownBlock=some j,⟨v,h,.inl rfl,fun j hj=> .inr hj⟩,fun j hj=>by rcases hj with rfl|hj;exact hb;exact hs j hj,fun j hj=>?_⟩;rcases hj with rfl|hj
 .exact ⟨_,_,_,h.str⟩
 .rcases h.sl with⟨-,⟨e,-⟩|⟨g,off,cap,cur,e,hg,-⟩⟩
  .rw [e]at hj;cases hj
  .rw [e]at hj;cases hj;exact⟨_,_,_,hg⟩
theorem Ss.grown{S:Nat->Prop}{w w':World}{b:Nat}{l:List Int}{row:Option Nat}(h:Ss S w b l)(hg:w.grownBy w' row)(hr:∀r,row=some r->∃o:Obj,w.heap[r]?=some o/\o.isCells=false):Ss S w' b l:=by
 obtain⟨S0,h0,hs,hc⟩:=h.exact;have:=(Ss.jQ b l).keep h0 (Upd.jz (S:=fun j=>row=some j) hg (fun g e _=>e)) (fun j hj e=>by
  obtain⟨cs,t,z,hj'⟩:=hc j hj;exact XP hj' hg hr e)
 exact(Ss.jQ b l).out this (fun j _ hj=>hs j hj)
theorem zbE{S:Nat->Prop}{w:World}{b:Nat}{l:List Int}(h:Ss S w b l)(ht:Tur w)(slot state:Int):
  Calls prog 176 #[ptr b,.int .i64 slot,.int .i64 state] w fun e w'=>e=.returned (.int .i64 (turnCode l slot state))/\Ss S w' b (turnList l slot state)/\Upd S w w':=by
 obtain⟨v,h,hb,hs⟩:=h;exact(Yr h ht slot state).mono fun _ _ ⟨he,h',hu⟩=>⟨he,⟨v,h',hb,hs⟩,hu.mono (fun k _ hk=>hs k hk)⟩
theorem ZQ(l:List Int)(slot state:Int):(turnList l slot state).length=l.length:=by unfold turnList;split<;>simp
def freeTo(l:List Int)(pre:List Nat):List Int:=pre.foldl (fun(l:List Int) (k:Nat)=>turnList l (k:Int) 0) l
theorem Xh(l:List Int)(pre:List Nat)(x:Nat):freeTo l (pre++[x])=turnList (freeTo l pre) (x:Int) 0:=by simp[freeTo]
theorem qZ(l:List Int)(pre:List Nat):(freeTo l pre).length=l.length:=by
 induction pre generalizing l with
 |nil=>rfl
 |cons x pre ih=>exact(ih (turnList l (x:Int) 0)).trans (ZQ _ _ _)
section
variable{own:Nat->Nat}{w w':World}{c:Nat}{n:CaN}{p:CaP}{a:CaS}
def JP(own:Nat->Nat)(w:World)(c:Nat)(n:CaN)(p:CaP)(a:CaS)(e:Ending)(w':World):Prop:=zu own w c n p {a with st:=freeTo a.st (pos a.st 3)} (.tuple #[]) e w'
theorem VJ(h:CaAt own w c n p a):Calls prog 102 #[ptr c] w (JP own w c n p a):=by
 have hu0:Upd (fun _=>False) w (w.alloc (.cells #[ptr c] 62)):=(uur _ w).alloc _;have h1:=h.new hu0;have bO0:Boxed (w.alloc (.cells #[ptr c] 62)) w.heap.size 62 (ptr c):=Boxed.new w _ _;obtain⟨d0,d1,d2,d3,d4,d5,d6,d7,d8⟩:=h1.cells;obtain⟨vs,hss,hsb,hsv⟩:=h1.ss;have hpos:0<a.st.length:=by have:=h.sl;have:=h.ok.s1;omega
 have hA:=Vh hss 3 hpos;have hle:=hss.le;have HC:=Y4 h hu0 h1 hA;have hz:(w.alloc (.cells #[ptr c] 62)).heap.size=w.heap.size+1:=by simp
 have hcl:=h.clt;clear h hu0 h1 hA hss hsb hsv d0 d1 d2 d3 d4 d6 d7 d8;refine(callsIn_wide (n:=3)).1 ?_;refine callsIn_of_wp_marks func102 rfl trivial ?_ rfl;simp only[ntmps102,qXm,qze,qzh,Nat.reduceAdd,Nat.reduceSub,qxi,qxj,qXg,qxz,qzz,qya]
 gi_wp2_with (refine⟨trivial,?_⟩;gi_at_call 159;refine(callsIn_wide.2 HC.o.2.2.2).mono ?_;rintro e w1 ⟨Bs,Bt,g,off,cap,rfl,hge,hBs,hBt,hg,hcs,hct,hcl,hb1⟩)
 have hsz:=hb1.size;rw[hz]at hsz hge;have hu1:Upd (fun _=>False) w w1:=HC.o.2.1.trans (uuo hb1);have hca:=HC.o.1.new hu1;have bO:Boxed w1 w.heap.size 62 (ptr c):=(hb1.block _ (by rw[hz];omega)).trans bO0;have hS:Hid (∀j,¬(own j=6)->j<w1.heap.size->¬(w1.heap.size<=j\/own j=6)):=fun j h1 h2 h=>by rcases h with h|h;omega;exact h1 h
 have hfar:Hid (∀j,w.heap.size<=j->¬own j=6):=fun j hj e=>by rw[HC.o.1.far j hj]at e;exact absurd e (by decide)
 have HA:=qqh hca;clear hca;refine wpIn_rangeFunc_ownF rfl (by omega) (gf:=227) (lb:= #[.pointer (some ⟨Bs,0,none⟩),.pointer (some ⟨Bt,0,none⟩)]) rfl trivial (enters_of func227 (by kernel_rfl) rfl)
  (sE Fence.wide _ trivial rfl (by omega) (fun j=>w1.heap.size<=j\/own j=6) Bs Bt g off cap a.st 3 w1 hle hg hBt hBs (hS.out _ (hfar.out _ (by omega)) hg) (hS.out _ (hfar.out _ (by omega)) hBt) hcs hct hcl) uH (fun W l o o' hl=>wH (M:=w1.heap.size) (fun j h=> .inl h) W l o o' hl) (qxl _ _) (fun _=>rfl)
  (fun pre W=>Ss (fun j=>own j=6) W p.ss (freeTo a.st pre)/\Upd (fun j=>w1.heap.size<=j\/own j=6) w1 W)
  (fun _ _ _=>False)
  (fun pre X Y row hs hg hr=>⟨hs.1.grown hg (fun r e=>(hr r e).2),xk hs.2 hg (fun r e=> .inl (hr r e).1)⟩)
  (fun _ _ _ _ _ hs _ _=>hs)
  ⟨HA.o.ss,uur _ _⟩
  (fun x=>{tmps:= #[ptr c,.pointer (some ⟨w.heap.size,0,none⟩),.int .i64 (x:Int),ptr c,ptr c,.pointer (some ⟨c,19,none⟩),ptr p.ss,.func (.func 227) #[] #[.pointer (some ⟨Bs,0,none⟩),.pointer (some ⟨Bt,0,none⟩)],.int .i64 (x:Int),undef,undef,undef,undef,undef,undef],defers:=[]}) ?assign ?body ?done ?stop
 case assign=>
  intro l x W K hK
  gi_wp2
  simpa using hK
 case body=>
  rintro l pre x W ⟨hv,hu⟩ hlt;have hb:=hu.block _ (zf bO) (hS.out _ (hfar.out _ (qXv _)) (zf bO))|>.trans bO
  have hc1:W.cell? ⟨w.heap.size,0,none⟩=some (ptr c):=za hb 0;have hstr:=(hu.block c HA.o.clt (hS.out _ (by rw[HA.o.oc];decide) HA.o.clt)).trans HA.o.str;have hc2:W.cell? ⟨c,19,none⟩=some (ptr p.ss):=za hstr 19;have htu:=HA.o.tur.keep hu (hS.out _ (by rw[HA.o.ot];decide) HA.o.tur.lt);obtain⟨S0,h0,hs0,hcs0⟩:=hv.exact;have HT:=Y4 (zbE h0 htu (x:Int) 0) hu hs0 hcs0;clear hv hu hb hstr htu h0 hs0 hcs0
  gi_wp2_with ((first|(refine⟨trivial,fun _=>by omega,?_⟩)|(refine⟨trivial,?_⟩)|skip);gi_at_call 176;refine(CallsIn.inRound l (callsIn_wide.2 HT.o.1)).mono ?_;rintro e W2 ⟨rfl,hs2,hu2⟩)
  obtain⟨hT,hu,hs0,hcs0⟩:=HT.o;refine⟨zy hu2 (fun j hj _=>hcs0 j hj),hu2.mono (fun k _ hk=> .inr (hs0 k hk)),?_,hu.trans (hu2.mono (fun k _ hk=> .inr (hs0 k hk)))⟩;rw[Xh];exact(Ss.jQ _ _).out hs2 (fun j _ hj=>hs0 j hj)
 case done=>
  rintro D ys W hD rfl ⟨hv,hu⟩ hK
  gi_wp2
  refine⟨by simp,.inl ⟨_,_,rfl,run_takeDeferred hK,?_⟩⟩;refine⟨_,qZc rfl _ _ _,?_⟩;have hW:=wH (S:=fun j=>w1.heap.size<=j\/own j=6) (M:=w1.heap.size) (fun j h=> .inl h) W D _ (.deferred none) hD hK rfl rfl;have hv2:=hv.grown (grownBy_putObj' W D (.deferred none)) (fun r e=>by cases e;exact⟨_,hK,rfl⟩);have hu2:Upd (fun j=>own j=6\/w.heap.size<=j) w (W.putObj D (.deferred none)):=(hu1.mono (fun _ _ h=>h.elim)).new (hu.trans hW) (fun i hi hs=>by rcases hs with hs|hs;omega;exact .inl hs);have hsz2:=hu2.size;exact⟨rfl,_,HC.o.1.turn6 hu2 ((Ss.jQ _ _).out hv2 (fun j _ hj=> .inl hj)) (qZ _ _),HC.o.1.did6 hu2⟩
 case stop=>
  rintro D c pre W _ _ h _;exact h.elim
end
end
section
def CaS.fb(a:CaS):CaS:=a.jy (flushR a.bF a.bO a.bP)
def CaS.cm(n:CaN)(a:CaS):CaS:={a.dev (a.com n).1 with W:=(a.com n).2}
def CaS.jh(n:CaN)(a:CaS):CaS×Int:=
 if(flushR a.bF a.bO a.bP).cd≠0 then(a.fb,(flushR a.bF a.bO a.bP).cd)else if(a.fb.com n).1.cd≠0 then(a.fb.cm n,(a.fb.com n).1.cd)else({a.fb.cm n with st:=freeTo a.st (pos a.st 3)},0)
theorem vQ{own:Nat->Nat}{w:World}{c:Nat}{n:CaN}{p:CaP}{a:CaS}(h:CaAt own w c n p a)(h1:∀q∈a.W,1<=q.1)(hO:a.dO.length+a.W.length<=65536):
  Calls prog 39 #[ptr c] w (zu own w c n p (a.jh n).1 (.int .i64 (a.jh n).2)):=by
 have HB:=qqh (xG h);obtain⟨-,d1,-,-,-,-,-,-,-⟩:=h.cells;have H:=Y2 h1 hO;clear h h1 hO;go_enter func39,ntmps39
 go_wp2_with fail
 refine HB.o.mono ?_;rintro e w1 ⟨rfl,own1,h1,hd1⟩;have hR:a.jh n=a.jh n:=rfl
 conv at hR=>rhs;unfold CaS.jh
 generalize hcd:(flushR a.bF a.bO a.bP).cd=cd at*;replace h1:CaAt own1 w1 c n p a.fb:=h1;obtain⟨-,-,-,e3,-,-,-,-,-⟩:=h1.cells;have HC:=qqh (UT h1 H.o.1 H.o.2);have H1:=Y3 h1 hd1 hR;clear h1 hd1 hR HB d1 hcd;by_cases hc:cd=0
 .have HZ:=qqh hc;subst hc;go_wp2_with fail
  refine HC.o.mono ?_;rintro e w2 ⟨rfl,own2,h2,hd2⟩;obtain⟨h1,hd1,hR⟩:=H1.o;rw[if_neg (by simp)]at hR;generalize (a.fb.com n).1.cd=cd2 at*;replace h2:CaAt own2 w2 c n p (a.fb.cm n):=h2;have HF:=qqh (VJ h2);have H2:=Y3 h2 (hd1.trans hd2) hR;clear h1 hd1 hR h2 hd2 e3;by_cases hc2:cd2=0
  .subst hc2;go_wp2_with fail
   refine HF.o.mono ?_;rintro e w3 ⟨rfl,own3,h3,hd3⟩;obtain⟨h2,hd2,hR⟩:=H2.o;rw[if_neg (by simp)]at hR;have H3:=Y3 h3 (hd2.trans hd3) hR;clear h2 hd2 hR h3 hd3;go_wp2
   go_ret
   obtain⟨h3,hd3,hR⟩:=H3.o;rw[hR];exact⟨rfl,own3,h3,hd3⟩
  .have q0:(cd2==0)=false:=by simpa using hc2
   go_wp2
   go_ret
   obtain⟨h2,hd2,hR⟩:=H2.o;rw[if_pos hc2]at hR;rw[hR];exact⟨rfl,own2,h2,hd2⟩
 .have q0:(cd==0)=false:=by simpa using hc
  go_wp2
  go_ret
  obtain⟨h1,hd1,hR⟩:=H1.o;rw[if_pos hc]at hR;rw[hR];exact⟨rfl,own1,h1,hd1⟩
theorem AJ:(prog.info? 95).map (fun i=>(i.zero,i.size,i.bytes))=some (some (.agg #[.int .i64 0,.bool false]),2,16):=by kernel_rfl
theorem re{w:World}{v:Value}{ps:List (Int×Bool)}(h:Rd w 2 v ps.length (plC ps))(hle:ps.length<=4096)(hpos:0<ps.length):
  Calls prog 216 #[v] w fun e w'=>∃v',e=.returned v'/\Sl w' 95 2 v' ps.length (plC ps)/\From w.heap.size v'/\Below w.heap.size w w':=by
 obtain⟨i0,hi,hz0,hz1,hz2⟩:=qZa AJ;have H:=qqh h;obtain⟨hl,hm,ao,c,rfl,h0,_⟩:=h;have q34:=fun(w:World) (a:Option Addr) (n c:Nat)=>Lib.run_eql_slice_nil (P:=prog) w 283 95 a n c 0 0 underlying283;cases ao with
 |none=>
  have hn:=h0 rfl;omega
 |some a=>
  clear h0 hl;have hs0:Sl (w.alloc (.cells #[] 95)) 95 2 (.slice (some ⟨w.heap.size,0,none⟩) 0 0) 0 []:=
   ⟨by simp,.inr ⟨w.heap.size,0,0,#[],rfl,zc _ _ rfl,by simp,by simp[maxLen],by simp,by simp⟩⟩
  have HR:Hid (Rd (w.alloc (.cells #[] 95)) 2 (.slice (some a) ps.length c) ps.length (plC ps)):=H.o.keep ((uur (fun _=>False) _).alloc _) (fun _ _ h=>h);have hone:∀u∈plC ps,u.oneCell'=true:=by intro u hu;simp only[plC,qzu]at hu;obtain⟨p,_,hp⟩:=hu;simp at hp;rcases hp with rfl|rfl<;>simp[Value.oneCell']
  go_enter func216,ntmps216
  go_wp2_with (at_builtin;refine zD rfl _ _ 283 rfl i0 (.agg #[.int .i64 0,.bool false]) 16 underlying283 hi hz0 hz1 hz2 rfl (by decide) rfl hs0 _ ps.length (plC ps) rfl HR.o hone (by unfold maxLen;omega) (by omega) ?_)
  intro v' w2 hs2 hu2 hb2;go_wp2
  go_ret
  refine⟨_,rfl,by simpa using hs2,?_,?_⟩
  .exact hb2.ge (by simp) (by intro g hg;simp[Value.ownBlock]at hg;omega)
  .refine zl ((qxl _ _).alloc (qXv _) _) hu2 (qXv _) (by intro k hk;simp[ownS,Value.ownBlock]at hk;omega)
open Go Go.RowKit Go.Shelf Tryz
attribute [local go_sem] qYh
abbrev It9:=Nat×(Int×Bool)
abbrev AK(x:It9):Array Value:= #[.int .i64 (x.1:Int),zJ x.2.1 x.2.2]
def uy(qs:List (Int×Bool))(fr k:Nat):List It9:=if qs[k]?.getD (-1,false)=(-1,false)then[]else[(fr+k,qs[k]?.getD (-1,false))]
def visTo(qs:List (Int×Bool))(fr:Nat):Nat->List It9
 |0=>[]
 |k+1=>visTo qs fr k++uy qs fr k
abbrev vis(qs:List (Int×Bool))(fr:Nat):List It9:=visTo qs fr qs.length
theorem uY{qs:List (Int×Bool)}{fr k:Nat}(hk:k<qs.length)(h:qs[k]≠(-1,false)):visTo qs fr (k+1)=visTo qs fr k++[(fr+k,qs[k])]:=by
 have e:qs[k]?.getD (-1,false)=qs[k]:=by simp[hk]
 simp[visTo,uy,hk,h]
theorem vR{qs:List (Int×Bool)}{fr k:Nat}(hk:k<qs.length)(h:qs[k]=(-1,false)):visTo qs fr (k+1)=visTo qs fr k:=by
 simp[visTo,uy,hk,h]
theorem Te(qs:List (Int×Bool))(fr k:Nat):(uy qs fr k).length<=1:=by unfold uy;split<;>simp
theorem Tg(qs:List (Int×Bool))(fr k:Nat):(visTo qs fr k).length<=k:=by
 induction k with
 |zero=>simp[visTo]
 |succ k ih=>have:=Te qs fr k;simp only[visTo,qzd];omega
theorem uz(qs:List (Int×Bool))(fr:Nat){k m:Nat}(h:k<=m):visTo qs fr k<+:visTo qs fr m:=by
 induction m with
 |zero=>
  obtain rfl:k=0:=by omega
  exact List.prefix_rfl
 |succ m ih=>
  by_cases hk:k=m+1
  .subst hk;exact List.prefix_rfl
  .exact (ih (by omega)).trans (List.prefix_append _ _)
theorem rf{β:Type}{B:Nat}{J:β->World->Prop}(hJ:AbidesFrom B J){s:β}{W W':World}(h:J s W)(hu:Upd (fun _=>False) W W'):J s W':=
 hJ s W W' none h ⟨hu.os,hu.tape,hu.output,hu.size,fun k hk _=>hu.block k hk (fun h=>h)⟩ (fun r e=>by cases e)
end
section
theorem JQ{w w':World}(h:Below w.drew.heap.size w.drew w'):Below w.heap.size w w':=⟨h.os,h.tape,h.output,h.size,h.block⟩
abbrev EG(f n:Int):Value:=.agg #[.int .i64 f,.int .i64 n]
def spanL(ps:List (Int×Bool))(f n:Nat):List (Int×Bool):=(ps.drop f).take n
theorem Rp(ps:List (Int×Bool))(k:Nat):plC (ps.drop k)=(plC ps).drop (k*2):=by
 induction ps generalizing k with
 |nil=>simp[plC]
 |cons p ps ih=>
  cases k with
  |zero=>rfl
  |succ k=>
   rw[show(k+1)*2=k*2+1+1 by omega];simpa[plC]using ih k
theorem VK{w:World}{ps:List (Int×Bool)}{g o c:Nat}(h:Sl w 95 2 (.slice (some ⟨g,o,none⟩) ps.length c) ps.length (plC ps))(f:Nat)(hf:f<=ps.length):
  Rd w 2 (.slice (some ⟨g,o+f*2,none⟩) (ps.length-f) (c-f)) (ps.drop f).length (plC (ps.drop f)):=by
 obtain⟨hl,hm,ao,cc,hv,h0,hc⟩:=h.rd;cases hv;refine⟨Jp _,by rw[qzf];omega,some ⟨g,o+f*2,none⟩,c-f,by rw[qzf],(fun h=>by cases h),fun b hb j u hj=>?_⟩;cases hb;rw[Rp,qym]at hj;have:=hc _ rfl (f*2+j) u hj;have e:(⟨g,o,none⟩:Addr).add (f*2+j)=(⟨g,o+f*2,none⟩:Addr).add j:=by rw[qxa,qxa,qXr]
 rw[<-e];exact this
theorem zco{w:World}{b mb N:Nat}{v:Value}{ps:List (Int×Bool)}{slots:Nat}(h:IndexAt w b v mb N ps slots)(f n:Int)(ho:f<0\/n<0\/(ps.length:Int)<=f):
  Calls prog 153 #[.pointer (some ⟨b,0,none⟩),EG f n] w fun e w'=>e=.returned (.func (.func 215) #[] #[])/\Below w.heap.size w w':=by
 have hu:Upd (fun _=>False) w (w.alloc (.cells #[.int .i64 f,.int .i64 n] 152)):=(uur _ _).alloc _;have g0:=(hu.cellAt (o:=0) h.blt (fun h=>h)).trans (za h.str 0);simp at g0;have hle:=h.le;obtain⟨ao,c,rfl⟩:=h.sl.rd.jd;clear h hu;have ho':f<0\/(¬f<0/\n<0)\/(¬f<0/\¬n<0/\(ps.length:Int)<=f):=by omega
 clear ho;rcases ho' with h1|⟨h1,h2⟩|⟨h1,h2,h3⟩
 case' inr.inl=>
  have d1:decide (f<0)=false:=by simpa using h1
  have d2:decide (n<0)=true:=by simpa using h2
 case' inr.inr=>
  have d1:decide (f<0)=false:=by simpa using h1
  have d2:decide (n<0)=false:=by simpa using h2
  have d3:decide ((ps.length:Int)<=f)=true:=by simpa using h3
 all_goals
  go_enter func153,ntmps153
  go_wp2
  go_quiet(fail)
  go_wp2
  go_ret
  exact⟨rfl,zV ((qxl _ _).alloc (qXv _) _) _⟩
theorem AL{w:World}{b mb N:Nat}{v:Value}{ps:List (Int×Bool)}{slots:Nat}(h:IndexAt w b v mb N ps slots)(f n:Nat)(hf:f<ps.length):
  Calls prog 153 #[.pointer (some ⟨b,0,none⟩),EG f n] w fun e w'=>∃Bs Bp g off cap,e=.returned (.func (.func 217) #[] #[.pointer (some ⟨Bs,0,none⟩),.pointer (some ⟨Bp,0,none⟩)])/\
   (w.heap.size<=Bp/\w.heap.size<=g/\w.heap.size<=Bs)/\Bs<w'.heap.size/\Bp<w'.heap.size/\g<w'.heap.size/\w'.cell? ⟨Bs,0,none⟩=some (.slice (some ⟨g,off,none⟩) (spanL ps f n).length cap)/\w'.cell? ⟨Bp,0,none⟩=some (.int .i64 f)/\
   (∀j (h:j<(spanL ps f n).length),w'.cell? ⟨g,off+j*2,none⟩=some (.int .i64 (spanL ps f n)[j].1)/\w'.cell? ⟨g,off+j*2+1,none⟩=some (.bool (spanL ps f n)[j].2))/\Below w.heap.size w w':=by
 have hu:Upd (fun _=>False) w (w.alloc (.cells #[.int .i64 f,.int .i64 n] 152)):=(uur _ _).alloc _;have g0:=(hu.cellAt (o:=0) h.blt (fun h=>h)).trans (za h.str 0);simp at g0;have hle:=h.le;have HI0:=qqh h;obtain⟨ao,c,rfl⟩:=h.sl.rd.jd;have d1:¬(f:Int)<0:=by omega
 have d2:¬(n:Int)<0:=by omega
 have d3:¬(ps.length:Int)<=f:=by omega
 clear h;go_enter func153,ntmps153
 go_wp2
 go_quiet(fail)
 go_wp2
 clear g0;generalize hw2:(w.alloc (.cells #[.int .i64 f,.int .i64 n] 152)).drewN nq=w2;have hu2:Upd (fun _=>False) w w2:=by rw[<-hw2];exact hu.drewN nq
 have hsp:w2.heap[w.heap.size]?=some (.cells #[.int .i64 f,.int .i64 n] 152):=by rw[<-hw2];exact zc w _ rfl
 have hz2:w2.heap.size=w.heap.size+1:=by rw[<-hw2];simp[World.drewN]
 clear hw2 hu;have t0:=za hsp 0;have t1:=za hsp 1;simp at t0 t1;have g0:=(hu2.cellAt (o:=0) HI0.o.blt (fun h=>h)).trans (za HI0.o.str 0);simp at g0;obtain⟨gb,go,rfl,hgc1⟩:∃gb go,ao=some (⟨gb,go,none⟩:Addr)/\ps.length<=c:=by
  obtain⟨hl,⟨h1,h2⟩|⟨g',off',cap',cur,h1,hg,hn,_⟩⟩:=HI0.o.sl
  .omega
  .cases h1;exact⟨g',off',rfl,hn⟩
 have hua:Upd (fun _=>False) w2 (w2.alloc (.cells #[.slice none 0 0] 283)).drew:=((uur _ _).alloc _).drew;have HR:Hid (Rd (w2.alloc (.cells #[.slice none 0 0] 283)).drew 2 (.slice (some ⟨gb,go+f*2,none⟩) (ps.length-f) (c-f)) (ps.drop f).length (plC (ps.drop f))):=
  (VK (HI0.o.sl.keep hu2 (fun _ _ h=>h)) f (by omega)).keep hua (fun _ _ h=>h)
 have HR2:Hid (Rd w2.drew 2 (.slice (some ⟨gb,go+f*2,none⟩) (ps.length-f) (c-f)) (ps.drop f).length (plC (ps.drop f))):=
  (VK (HI0.o.sl.keep hu2 (fun _ _ h=>h)) f (by omega)).keep ((uur (fun _=>False) w2).drew) (fun _ _ h=>h)
 have HT2:Hid (w2.drew.cell? ⟨b,0,none⟩=some (.slice (some ⟨gb,go,none⟩) ps.length c)/\w2.drew.cell? ⟨w.heap.size,0,none⟩=some (.int .i64 f)/\w2.drew.cell? ⟨w.heap.size,1,none⟩=some (.int .i64 n)):=⟨g0,t0,t1⟩
 have hcf:¬c=f:=by omega
 have hfl:f<=ps.length:=by omega
 have hbl:=HI0.o.blt;have HT:Hid ((w2.alloc (.cells #[.slice none 0 0] 283)).drew.cell? ⟨b,0,none⟩=some (.slice (some ⟨gb,go,none⟩) ps.length c)/\(w2.alloc (.cells #[.slice none 0 0] 283)).drew.cell? ⟨w.heap.size,0,none⟩=some (.int .i64 f)/\
   (w2.alloc (.cells #[.slice none 0 0] 283)).drew.cell? ⟨w.heap.size,1,none⟩=some (.int .i64 n)/\(w2.alloc (.cells #[.slice none 0 0] 283)).drew.heap[w.heap.size+1]?=some (.cells #[.slice none 0 0] 283)):=
  ⟨(hua.cellAt (by omega) (fun h=>h)).trans g0,(hua.cellAt (by omega) (fun h=>h)).trans t0,(hua.cellAt (by omega) (fun h=>h)).trans t1,zc w2 _ hz2.symm⟩
 have hnb:¬w.heap.size+1=b:=by omega
 go_region_held3 (fun W=>W.cell? ⟨b,0,none⟩=some (.slice (some ⟨gb,go,none⟩) ps.length c)/\W.cell? ⟨w.heap.size,0,none⟩=some (.int .i64 f)/\W.cell? ⟨w.heap.size,1,none⟩=some (.int .i64 n)) (go_keep)
  (first
  |((go_at_call 216;refine(re HR2.o (by simp;omega) (by simp;omega)).mono ?_;rintro e w3 ⟨v',rfl,hs3,hf3,hb3⟩;obtain⟨ao',c',rfl⟩:=hs3.rd.jd;have k0:=(hb3.cell (p:=⟨b,0,none⟩) (by simp;omega)).trans HT2.o.1;have k1:=(hb3.cell (p:=⟨w.heap.size,0,none⟩) (by simp;omega)).trans HT2.o.2.1;have k2:=(hb3.cell (p:=⟨w.heap.size,1,none⟩) (by simp;omega)).trans HT2.o.2.2))
  |((go_at_call 216;refine(re HR.o (by simp;omega) (by simp;omega)).mono ?_;rintro e w3 ⟨v',rfl,hs3,hf3,hb3⟩;obtain⟨ao',c',rfl⟩:=hs3.rd.jd;have k0:=(hb3.cell (p:=⟨b,0,none⟩) (by simp;omega)).trans HT.o.1;have k1:=(hb3.cell (p:=⟨w.heap.size,0,none⟩) (by simp;omega)).trans HT.o.2.1;have k2:=(hb3.cell (p:=⟨w.heap.size,1,none⟩) (by simp;omega)).trans HT.o.2.2.1;have kb:=(hb3.block (w.heap.size+1) (by simp;omega)).trans HT.o.2.2.2;have k3:=za kb 0;have k4:=zg kb 0;simp at k3)))
 case' refine_2.refine_3.refine_3.refine_3.refine_3.refine_3.refine_3.refine_3.refine_1.refine_2.refine_1.refine_2.refine_1.refine_2=>
  have hw35:Upd (fun _=>False) w3 (w3.alloc (.cells #[.slice ao' (ps.length-f) c'] 283)):=(uur _ _).alloc _;have hbox:=zc w3 (.cells #[.slice ao' (ps.length-f) c'] 283) rfl;have hBb:=zl (zl (qxl _ w) hu2 (qXv _) (fun _ h=>h.elim)) (uuo (S:=fun _=>False) (JQ hb3)) (qXv _) (fun _ h=>h.elim);have hF:From w.heap.size (.slice ao' (ps.length-f) c'):=fun g hg=>by have:=hf3 g (by rw[qzf];exact hg);simp at this;omega
  have hbs0:w.heap.size<=w3.heap.size:=hBb.size;have hs5:=hs3.keep hw35 (fun _ _ h=>h);have hB5:=zl hBb hw35 (qXv _) (fun _ h=>h.elim);have t5:=(hw35.cellAt (b:=w.heap.size) (o:=0) (by have:=hb3.size;simp at this;omega) (fun h=>h)).trans k1;have t6:=(hw35.cellAt (b:=w.heap.size) (o:=1) (by have:=hb3.size;simp at this;omega) (fun h=>h)).trans k2;have hbs1:w3.heap.size≠w.heap.size:=by have:=hb3.size;simp at this;omega
  clear hw35 hs3 hf3 hb3 k0 k1 k2 hBb;generalize (w3.alloc (.cells #[.slice ao' (ps.length-f) c'] 283))=w5 at*;generalize w3.heap.size=Bs at*
 rotate_left
 have hw35:Upd (fun j=>j=w.heap.size+1) w3 (w3.setCell ⟨w.heap.size+1,0,none⟩ (.slice ao' (ps.length-f) c')):=zj _ _ _ _;have hbox:=zi kb 0 (.slice ao' (ps.length-f) c');simp at hbox;have hBa:=zl (zl (qxl _ w) hu2 (qXv _) (fun _ h=>h.elim)) hua (qXv _) (fun _ h=>h.elim);have hBb:=zl hBa (uuo (S:=fun _=>False) hb3) (qXv _) (fun _ h=>h.elim);have hF:From w.heap.size (.slice ao' (ps.length-f) c'):=fun g hg=>by have:=hf3 g (by rw[qzf];exact hg);simp at this;omega
 have hbs0:w.heap.size<=w.heap.size+1:=by omega
 have hs5:=hs3.keep hw35 (fun g hg e=>by have:=hf3 g hg;simp at this;omega);have hB5:=zl hBb hw35 (qXv _) (fun j e=>by omega);have t5:=(hw35.cellAt (b:=w.heap.size) (o:=0) (by have:=hb3.size;simp at this;omega) (by omega)).trans k1;have t6:=(hw35.cellAt (b:=w.heap.size) (o:=1) (by have:=hb3.size;simp at this;omega) (by omega)).trans k2;have hbs1:w.heap.size+1≠w.heap.size:=by omega
 clear hw35 hs3 hf3 hb3 k0 k1 k2 k3 k4 kb hBa hBb hnb hua HT HT2 HR HR2;generalize (w3.setCell ⟨w.heap.size+1,0,none⟩ (.slice ao' (ps.length-f) c'))=w5 at*;generalize w.heap.size+1=Bs at*
 all_goals
  obtain⟨g',off',cap',cur,hve,hg',hcs,hcc⟩:=hs5.at (by simp;omega)
 all_goals
  cases hve;have hel:Hid (∀j (h:j<(ps.drop f).length),w5.cell? ⟨g',off'+j*2,none⟩=some (.int .i64 (ps.drop f)[j].1)/\w5.cell? ⟨g',off'+j*2+1,none⟩=some (.bool (ps.drop f)[j].2)):=
   fun j h=>⟨(za hg' _).trans (hcc _ _ (xF h).1),(za hg' _).trans (hcc (j*2+1) _ (xF h).2)⟩
  have hgl:=zf hg';have hgf:=hF g' rfl;have hbl5:=zf hbox;have hcap:ps.length-f<=c':=by
   obtain⟨_,⟨h1,_⟩|⟨_,_,_,_,h1,_,h2,_⟩⟩:=hs5
   .cases h1
   .cases h1;simpa using h2
  have hgBs:g'≠Bs:=fun e=>by
   rw[e]at hg';rw[hg']at hbox;simp at hbox
  have y0:=za hbox 0;have y1:=zg hbox 0;simp at y0;have HBX:=qqh hbox;clear hcs hcc hg' hs5 hbox;by_cases hlt:(n:Int)<((ps.length-f:Nat):Int)
  .have hn1:n<=ps.length-f:=by omega
   have hn2:n<=c':=by omega
   have hL:Hid (spanL ps f n=(ps.drop f).take n):=rfl;have hLn:(spanL ps f n).length=n:=by simp[spanL];omega
   go_wp2
   go_ret
   have hus:Upd (fun j=>j=Bs) w5 (w5.setCell ⟨Bs,0,none⟩ (.slice (some ⟨g',off',none⟩) n c')):=zj _ _ _ _;have hspl:=(zK t5).2;refine⟨Bs,w.heap.size,g',off',c',rfl,⟨qXv _,hgf,hbs0⟩,by rw[World.size_setCell];exact hbl5,by rw[World.size_setCell];exact hspl,by rw[World.size_setCell];exact hgl,?_,(hus.cellAt hspl (fun e=>hbs1 e.symm)).trans t5,?_,hB5.setCell (p:=⟨Bs,0,none⟩) hbs0 _⟩
   .rw [hLn,za (zi HBX.o 0 _)];simp
   .intro j hj;have hj2:j<(ps.drop f).length:=by rw[hLn]at hj;simp;omega
    have e:(spanL ps f n)[j]=(ps.drop f)[j]:=by simp[spanL]
    rw[e];exact⟨(hus.cellAt hgl (fun e=>hgBs e)).trans (hel.out j hj2).1,(hus.cellAt hgl (fun e=>hgBs e)).trans (hel.out j hj2).2⟩
  .go_wp2
   go_ret
   have hL:spanL ps f n=ps.drop f:=by unfold spanL;rw[qXp];simp;omega
   rw[hL];have hspl:=(zK t5).2;exact⟨Bs,w.heap.size,rfl,g',⟨qXv _,hgf,hbs0⟩,hbl5,hspl,hgl,off',⟨c',by rw[qzf];exact y0⟩,t5,hel.out,hB5⟩
end
end Go.Proofs.YtfhfbpmlnjdfoaaGreatDoor
