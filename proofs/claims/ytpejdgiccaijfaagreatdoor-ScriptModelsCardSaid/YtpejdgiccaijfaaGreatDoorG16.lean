/- A cache's devi -/
import Derived.Test.YtpejdgiccaijfaaGreatDoorG11
import Derived.Test.YtpejdgiccaijfaaGreatDoorG10
import Derived.Test.YtpejdgiccaijfaaGreatDoorG13
import Derived.Test.YtpejdgiccaijfaaGreatDoorG12
set_option maxRecDepth 100000
set_option maxHeartbeats 1000000
namespace Go.Proofs.YtpejdgiccaijfaaGreatDoor
open Go Go.RowKit Tryz
theorem Did.step2{own:Nat->Nat}{w w':World}{t s q:Nat}(hf:∀j,w.heap.size<=j->own j=0)(ht:t≠0)(h16:t<16)(hs:s≠0)(hs16:s<16)(hq:own q=s)(hu:Upd (fun j=>(own j=t\/w.heap.size<=j)\/j=q) w w'):Did own (grow own t w.heap.size w'.heap.size) w w' where
 upd:=hu.mono (fun j hj h=>by rcases h with(h|h)|h;exact h▸⟨ht,h16⟩;omega;subst h;rw[hq];exact⟨hs,hs16⟩)
 old:=fun j hj=>zw hj
 new:=fun j hj=>by
  unfold grow;split
  .exact h16
  .rw [hf j hj];decide
 far:=fun j hj=>by
  have:=hu.size;unfold grow;rw[if_neg oM];exact hf j oM
section
variable{R:(Nat->Prop)->World->Prop}{own:Nat->Nat}{w w':World}{t s k q:Nat}
theorem Thing.other2(hR:Thing R)(h:R (fun j=>own j=k) w)(hk:k≠t)(hks:k≠s)(hq:own q=s)(hu:Upd (fun j=>(own j=t\/w.heap.size<=j)\/j=q) w w'):R (fun j=>grow own t w.heap.size w'.heap.size j=k) w':=by
 have h1:R (fun j=>own j=k/\j<w.heap.size) w:=hR.out h (fun j hj hs=>⟨hs,hj⟩);have h2:=hR.keep h1 hu (fun j hs ht=>by rcases ht with(ht|ht)|ht;exact hk (hs.1.symm.trans ht);omega;subst ht;exact hks (hs.1.symm.trans hq));exact hR.out h2 (fun j hj hs=>by rw[zw hs.2];exact hs.1)
end
section
variable{own:Nat->Nat}{w w':World}{c:Nat}{n:CaN}{p:CaP}{a:CaS}
theorem CaAt.jrOwn(h:CaAt own w c n p a):own p.jr=4/\p.jr<w.heap.size:=by
 obtain⟨vw,hj,hS⟩:=h.jr;exact⟨hS _ (.inl rfl),zd hj.str⟩
theorem CaAt.turn24(h:CaAt own w c n p a){F:List Bk}{O:List (Nat×Bk)}{P:List Int}{W:List (Nat×Bk)}(hu:Upd (fun j=>(own j=2\/w.heap.size<=j)\/j=p.jr) w w')(hd:Dv (fun j=>own j=2\/w.heap.size<=j) w' p.ssd F O P)(hl:F.length=a.dF.length)
  (hj:Jn (fun j=>own j=4/\j<w.heap.size) w' p.jr p.ssd (1+2*n.pa) n.jo a.cov a.next W):
  CaAt (grow own 2 w.heap.size w'.heap.size) w' c n p {a with dF:=F,dO:=O,dP:=P,W:=W}:=by
 have hq:=h.jrOwn.1;exact{h with
  str:=(hu.block c h.clt (fun hs=>by rcases hs with(hs|hs)|hs;rw[h.oc]at hs;exact absurd hs de;exact absurd h.clt oM;have:=h.oc;rw[hs,hq]at this;exact absurd this de)).trans h.str
  oc:=(zw h.clt).trans h.oc
  ssd:=(Dv.kB _ _ _ _).mine hu.size hd
  back:=(Dv.kB _ _ _ _).other2 h.back de de hq hu
  jr:=(Jn.kB _ _ _ _ _ _ _).out hj (fun j _ hs=>by rw[zw hs.2];exact hs.1)
  ix:=(Ix.kB _ _ _ _).other2 h.ix de de hq hu
  ss:=(Ss.kB _ _).other2 h.ss de de hq hu
  lg:=(Lg.kB _ _ _).other2 h.lg de de hq hu
  ck:=(Ck.kB _ _ _ _ _ _ _).other2 h.ck de de hq hu
  sm:=(Mp.kB _ _ _).other2 h.sm de de hq hu
  far:=(Did.step2 h.far (t:=2) (s:=4) de de de de hq hu).far
  nib:=h.nib.keep hu (fun hs=>by rcases hs with(hs|hs)|hs;rw[h.on]at hs;exact absurd hs de;exact absurd h.nib.lt oM;exact absurd (h.on.symm.trans ((congrArg own hs).trans hq)) de)
  tur:=h.tur.keep hu (fun hs=>by rcases hs with(hs|hs)|hs;rw[h.ot]at hs;exact absurd hs de;exact absurd h.tur.lt oM;exact absurd (h.ot.symm.trans ((congrArg own hs).trans hq)) de)
  on:=(zw h.nib.lt).trans h.on
  ot:=(zw h.tur.lt).trans h.ot
  fl:=hl.trans h.fl}
abbrev CaS.dev(a:CaS)(r:DRes):CaS:={a with dF:=r.F,dO:=r.O,dP:=r.P}
abbrev CaS.kf(a:CaS)(r:DRes):CaS:={a with bF:=r.F,bO:=r.O,bP:=r.P}
theorem ZI(h:CaAt own w c n p a)(s:Nat)(hs:s<a.dF.length)(x:Bk)(hx:x.length=64)(hO:a.dO.length<65536):
  Calls prog 49 #[ptr p.ssd,.int .i64 (s:Int),.agg (bkC x).toArray] w (zx own w c n p (a.dev (writeR a.dF a.dO a.dP s x)) (.int .i64 (writeR a.dF a.dO a.dP s x).cd)):=
 (vl h.kA (fun _ h=> .inr h) s hs x hx hO).mono fun _ _ ⟨he,hd,hu⟩=>⟨he,_,h.kx hu hd (by rw[xA]),h.did2 hu⟩
theorem vI(h:CaAt own w c n p a)(s:Nat)(hs:s<a.bF.length)(x:Bk)(hx:x.length=64)(hO:a.bO.length<65536):
  Calls prog 49 #[ptr p.back,.int .i64 (s:Int),.agg (bkC x).toArray] w (zx own w c n p (a.kf (writeR a.bF a.bO a.bP s x)) (.int .i64 (writeR a.bF a.bO a.bP s x).cd)):=
 (vl h.open3 (fun _ h=> .inr h) s hs x hx hO).mono fun _ _ ⟨he,hd,hu⟩=>⟨he,_,h.turn3 hu hd (by rw[xA]),h.did3 hu⟩
def WC(own:Nat->Nat)(w:World)(c:Nat)(n:CaN)(p:CaP)(a:CaS)(y0:Bk)(cd0:Int)(e:Ending)(w':World):Prop:=
 ∃(y:Bk) (cd:Int),y=y0/\cd=cd0/\y.length=64/\e=.returned (.tuple #[.agg (bkC y).toArray,.int .i64 cd])/\∃own',CaAt own' w' c n p a/\Did own own' w w'
theorem tH(h:CaAt own w c n p a)(s:Nat)(hs:s<a.dF.length):
  Calls prog 132 #[ptr p.ssd,.int .i64 (s:Int)] w (WC own w c n p {a with dP:=a.dP.tail} (if fate a.dP=1 then zB else curB a.dF a.dO s) (if fate a.dP=1 then 19 else 0)):=
 (vM h.kA (fun _ h=> .inr h) s hs).mono fun _ _ ⟨y,cd,he,hy,hc,hl,hd,hu⟩=>⟨y,cd,hy,hc,hl,he,_,h.kx hu hd rfl,h.did2 hu⟩
theorem ZJ(h:CaAt own w c n p a)(s:Nat)(hs:s<a.bF.length):
  Calls prog 132 #[ptr p.back,.int .i64 (s:Int)] w (WC own w c n p {a with bP:=a.bP.tail} (if fate a.bP=1 then zB else curB a.bF a.bO s) (if fate a.bP=1 then 19 else 0)):=
 (vM h.open3 (fun _ h=> .inr h) s hs).mono fun _ _ ⟨y,cd,he,hy,hc,hl,hd,hu⟩=>⟨y,cd,hy,hc,hl,he,_,h.turn3 hu hd rfl,h.did3 hu⟩
theorem Xf(h:CaAt own w c n p a):Calls prog 311 #[ptr p.jr] w (zx own w c n p a (.int .i64 ((n.jo:Int)-((a.next:Int)-1-(a.cov:Int))))):=
 (Ao h.jr).mono fun _ _ ⟨he,hu⟩=>⟨he,own,h.new hu,h.jY hu⟩
theorem VQ(h:CaAt own w c n p a)(hroom:a.next<=a.cov+n.jo)(hmx:a.next<=1099511627776)(a0 a1 op block slot:Int)(db:Bool)(sum:Int)(hmay:mayR (jaddX a.next n.jo op block slot db sum)=true):
  Calls prog 322 #[ptr p.jr,.agg (recC a0 a1 op block slot db sum).toArray] w (zx own w c n p {a with next:=a.next+1,W:=a.W++[(a.next,sectR (jaddX a.next n.jo op block slot db sum))]} (.tuple #[.int .i64 (a.next:Int),.int .i64 0])):=
 (zdP h.open4 (fun _ h=> .inr h) h.nib (fun hs=>by rcases hs with hs|hs;rw[h.on]at hs;exact absurd hs de;exact absurd h.nib.lt oM) hroom hmx a0 a1 op block slot db sum hmay).mono fun _ _ ⟨he,hj,hu⟩=>⟨he,_,h.turn4 hu hj,h.did4 hu⟩
abbrev CaS.com(n:CaN)(a:CaS):DRes×List (Nat×Bk):=comR (1+2*n.pa) n.jo a.dF a.dO a.dP a.W
theorem Rp(base k:Nat)(F:List Bk)(O:List (Nat×Bk))(P:List Int)(W:List (Nat×Bk)):(comR base k F O P W).1.F.length=F.length:=by
 unfold comR
 repeat' split
 all_goals simp only[qL,Wj]
theorem Tu(h:CaAt own w c n p a)(h1:∀q∈a.W,1<=q.1)(hO:a.dO.length+a.W.length<=65536):
  Calls prog 179 #[ptr p.jr] w (zx own w c n p {a.dev (a.com n).1 with W:=(a.com n).2} (.int .i64 (a.com n).1.cd)):=by
 obtain⟨vw,hj,hS⟩:=h.jr;have hfl:=h.fl;have hz:=h.ok.z;unfold CaN.size at hfl;refine(JD hj h1 h.kA (fun _ h=> .inr h) ?_ oM hO).mono ?_
 .intro k hk hs;have h4:=hS k hk;rcases hs with hs|hs
  .rw [h4]at hs;exact absurd hs de
  .have:=hj.slt k hk;omega
 .rintro e w' ⟨rfl,hd,⟨vw',hj',hv⟩,hu⟩;have hq:=h.jrOwn.1;refine⟨rfl,_,h.turn24 hu hd (Rp _ _ _ _ _ _) ⟨vw',hj',?_⟩,Did.step2 h.far de de de de hq hu⟩;rintro k (rfl|hk)
  .exact ⟨hS _ (.inl rfl),zd hj.str⟩
  .rcases hv with rfl|hv
   .exact ⟨hS _ (.inr hk),hj.slt k (.inr hk)⟩
   .rw [hv]at hk;cases hk
end
theorem Ek(ps:List (Int×Bool))(slots:Nat)(k s:Int)(d:Bool):(vN ps slots k s d).length=ps.length:=by unfold vN;split<;>simp
theorem Rq(ps:List (Int×Bool))(k:Int):(dropL ps k).length=ps.length:=by unfold dropL;split<;>simp
theorem Xg(l:List Int)(s t:Int):(turnList l s t).length=l.length:=by unfold turnList;split<;>simp
section
variable{own:Nat->Nat}{w w':World}{c:Nat}{n:CaN}{p:CaP}{a:CaS}
theorem WD(h:CaAt own w c n p a)(k:Int):
  Calls prog 173 #[ptr p.ix,.int .i64 k] w (zx own w c n p a (.tuple #[zN (getV a.ps k).1 (getV a.ps k).2,.int .i64 (getC a.ps k)])):=by
 obtain⟨v,mb,hi,-,-⟩:=h.ix;exact(ZA hi k).mono fun _ _ ⟨he,hb⟩=>⟨he,own,h.new (uuo hb),h.jY (uuo hb)⟩
theorem Rr(h:CaAt own w c n p a)(k s:Int)(d:Bool)(hN:a.iN<maxLen):
  Calls prog 213 #[ptr p.ix,.int .i64 k,zN s d] w (zx own w c n p {a with iN:=a.iN+1,ps:=vN a.ps n.sl k s d} (.tuple #[zN (um a.ps n.sl k s).1 (um a.ps n.sl k s).2,.int .i64 (putC a.ps n.sl k s)])):=by
 obtain⟨v,mb,hi,hb,hs⟩:=h.open5;exact(JX hi k s d hN).mono fun _ _ ⟨he,hi',hu⟩=>
  have hu':=hu.mono (fun j _ hj=>hs j hj)
  ⟨he,_,h.turn5 hu' ⟨v,mb,hi',hb,hs⟩ (Ek _ _ _ _ _),h.did5 hu'⟩
theorem El(h:CaAt own w c n p a)(k:Int):
  Calls prog 388 #[ptr p.ix,.int .i64 k] w (zx own w c n p {a with ps:=dropL a.ps k} (.tuple #[zN (getV a.ps k).1 (getV a.ps k).2,.int .i64 (getC a.ps k)])):=by
 obtain⟨v,mb,hi,hb,hs⟩:=h.open5;exact(Ra hi k).mono fun _ _ ⟨he,hi',hu⟩=>
  have hu':=hu.mono (fun j _ hj=>hs j hj)
  ⟨he,_,h.turn5 hu' ⟨v,mb,hi',hb,hs⟩ (Rq _ _),h.did5 hu'⟩
theorem yX(h:CaAt own w c n p a)(s t:Int):
  Calls prog 214 #[ptr p.ss,.int .i64 s,.int .i64 t] w (zx own w c n p {a with st:=turnList a.st s t} (.int .i64 (turnCode a.st s t))):=by
 obtain⟨v,hi,hb,hs⟩:=h.open6;exact(YC hi h.tur s t).mono fun _ _ ⟨he,hi',hu⟩=>
  have hu':=hu.mono (fun j _ hj=>hs j hj)
  ⟨he,_,h.turn6 hu' ⟨v,hi',hb,hs⟩ (Xg _ _ _),h.did6 hu'⟩
theorem VR(h:CaAt own w c n p a)(k:Int)(hr:InR k)(hN:a.kN<maxLen):
  Calls prog 216 #[ptr p.ck,.int .i64 k] w (zx own w c n p {a with kN:=a.kN+1,K:=rS n.sl a.K k,A:=UT n.sl a.K a.A a.H k,H:=UU n.sl a.K a.H k} (.int .i64 (addC n.sl a.K k))):=
 (Qy h.open8 (fun _ h=> .inr h) k hr hN).mono fun _ _ ⟨he,hc,hu⟩=>⟨he,_,h.turn8 hu hc,h.did8 hu⟩
theorem Rs(h:CaAt own w c n p a)(k:Int):
  Calls prog 313 #[ptr p.ck,.int .i64 k] w (zx own w c n p {a with K:=a.K.erase k,A:=dropA a.K a.A k} (.int .i64 (touchC a.K k))):=
 (UV h.open8 k).mono fun _ _ ⟨he,hc,hu⟩=>⟨he,_,h.turn8 hu hc,h.did8 hu⟩
theorem Tv(h:CaAt own w c n p a)(k:Int)(hN:a.kN<maxLen):
  Calls prog 387 #[ptr p.ck,.int .i64 k] w (zx own w c n p {a with kN:=a.kN+1,A:=agA a.A a.K k} (.int .i64 (touchC a.K k))):=
 (UW h.open8 k hN).mono fun _ _ ⟨he,hc,hu⟩=>⟨he,_,h.turn8 hu hc,h.did8 hu⟩
theorem VS(h:CaAt own w c n p a){N:Nat}{f:Int->Option Nat}(hm:MapAt w' p.sm N f)(hu:Upd (fun j=>j=p.sm) w w'):∃own',CaAt own' w' c n p {a with mN:=N,sums:=f}/\Did own own' w w':=by
 have hu':Upd (fun j=>own j=9\/w.heap.size<=j) w w':=hu.mono (fun j _ e=> .inl (e▸h.sm.2));exact⟨_,h.turn9 hu' ⟨hm,.inl h.sm.2⟩,h.did9 hu'⟩
theorem Xh(h:CaAt own w c n p a){x:Int}(h1: -9223372036854775808<=x)(h2:x<9223372036854775808)(y:Nat)(hy:y<9223372036854775808)(hn:a.mN<maxLen):
  ∃w' own',(Instr.mapUpdate 168 (.map (some p.sm)) (.int .i64 x) (.int .i64 (y:Int))).run prog w=.ok () w'/\CaAt own' w' c n p {a with mN:=a.mN+1,sums:=xP a.sums x (some y)}/\Did own own' w w':=by
 obtain⟨w',hr,hm,hu,-⟩:=h.sm.1.store h1 h2 y hy hn;obtain⟨own',hc,hd⟩:=VS h hm hu;exact⟨w',own',hr,hc,hd⟩
theorem zaB(h:CaAt own w c n p a){x:Int}(h1: -9223372036854775808<=x)(h2:x<9223372036854775808)(ty:TypeId):
  ∃w' own',(Builtin.delete_ #[168,3] ty #[.map (some p.sm),.int .i64 x]).run prog w=.ok (.tuple #[]) w'/\CaAt own' w' c n p {a with sums:=xP a.sums x none}/\Did own own' w w':=by
 obtain⟨w',hr,hm,hu,-⟩:=h.sm.1.drop h1 h2 ty;obtain⟨own',hc,hd⟩:=VS h hm hu;exact⟨w',own',hr,hc,hd⟩
end
def cleanB(ps:List (Int×Bool))(k:Int):Bool:=getC ps k==0&&!(getV ps k).2
theorem qX{own:Nat->Nat}{w:World}{c:Nat}{n:CaN}{p:CaP}{a:CaS}(h:CaAt own w c n p a)(k:Int):
  Calls prog 425 #[ptr c,.int .i64 k] w fun e w'=>e=.returned (.bool (cleanB a.ps k))/\Below w.heap.size w w':=by
 obtain⟨v,mb,hi,-,-⟩:=h.ix;obtain⟨-,-,-,-,d4,-,-,-,-⟩:=h.cells;have HG:=qqh (ZA hi k);clear hi h;unfold cleanB;generalize getV a.ps k=pv at*;generalize getC a.ps k=cd at*;obtain⟨s,b⟩:=pv;go_enter func425,ntmps425
 go_wp2_with fail
 refine HG.o.mono ?_;rintro e w1 ⟨rfl,hb⟩;have HB:=qqh hb;clear hb;by_cases hc:cd=0
 .subst hc;go_wp2
  go_ret
  exact⟨oe,HB.o.alloc HB.o.size _⟩
 .have q0:(cd==0)=false:=by simpa using hc
  go_wp2
  go_ret
  exact⟨by simp[q0],HB.o.alloc HB.o.size _⟩
def zaC(own:Nat->Nat)(w:World)(c:Nat)(n:CaN)(p:CaP)(a:CaS)(e:Ending)(w':World):Prop:=
 ∃key code K' A' H',e=.returned (.tuple #[.int .i64 key,.int .i64 code])/\EvG.EvOut (cleanB a.ps) n.sl a.K a.A a.H key code K' A' H'/\∃own',CaAt own' w' c n p {a with K:=K',A:=A',H:=H'}/\Did own own' w w'
section
variable{own:Nat->Nat}{w w':World}{c:Nat}{n:CaN}{p:CaP}{a:CaS}
theorem Rt(h:CaAt own w c n p a):EvG.MayIs (ptr c) (cleanB a.ps) w:=fun _ k _ hu=>qX (h.new hu) k
theorem Tw(h:CaAt own w c n p a):Calls prog 424 #[ptr p.ck,EvG.mayV (ptr c)] w (zaC own w c n p a):=
 (EvG.evict_ck h.open8 (fun _ h=> .inr h) (ptr c) (cleanB a.ps) (Rt h)).mono fun _ _ ⟨key,code,K',A',H',he,ho,hc,hu⟩=>⟨key,code,K',A',H',he,ho,_,h.turn8 hu hc,h.did8 hu⟩
end
abbrev CaS.noted(n:CaN)(a:CaS)(op block slot:Int)(d:Bool)(sum:Int):CaS:={a with next:=a.next+1,W:=a.W++[(a.next,sectR (jaddX a.next n.jo op block slot d sum))]}
abbrev CaS.left(n:CaN)(a:CaS)(k:Int):CaS:={a.noted n 1 k 0 false 0 with ps:=dropL a.ps k,sums:=xP a.sums k none,st:=turnList a.st (getV a.ps k).1 3}
theorem Xi{own:Nat->Nat}{w:World}{c:Nat}{n:CaN}{p:CaP}{a:CaS}(h:CaAt own w c n p a)(k:Int)(hg:getC a.ps k=0)(hroom:a.next<=a.cov+n.jo)(hmx:a.next<=1099511627776)(hmay:mayR (jaddX a.next n.jo 1 k 0 false 0)=true):
  Calls prog 312 #[ptr c,.int .i64 k] w (zx own w c n p (a.left n k) (.int .i64 (turnCode a.st (getV a.ps k).1 3))):=by
 have hkr:0<=k/\k<4096:=by
  have h1:=h.pl;have h2:=h.ok.b2;unfold getC at hg;split at hg
  .cases hg
  .omega
 obtain⟨hk0,hk1⟩:=hkr;have HJ:=qqh (VQ h hroom hmx 0 0 1 k 0 false 0 hmay);obtain⟨-,-,-,d3,d4,-,-,-,-⟩:=h.cells;have H:=Y2 h hg;clear h hg hroom hmx hmay;go_enter func312,ntmps312
 go_wp2_with fail
 refine HJ.o.mono ?_;rintro e w1 ⟨rfl,own1,h1,hd1⟩;have HP:=qqh (El h1 k);obtain⟨-,-,-,-,e4,-,-,-,-⟩:=h1.cells;have H1:=qqh hd1;clear h1 hd1 HJ d3 d4;go_wp2_with fail
 refine HP.o.mono ?_;rintro e w2 ⟨rfl,own2,h2,hd2⟩;have hg:=H.o.2;obtain⟨s,hs⟩:=qqe ((getV a.ps k).1);obtain⟨db,hdb⟩:=qqe ((getV a.ps k).2);rw[hg];have hua:Upd (fun _=>False) w2 (w2.alloc (.cells #[.int .i64 s,.bool db] 256)):=(uur _ _).alloc _;have h2a:=h2.new hua;have c0:(w2.alloc (.cells #[.int .i64 s,.bool db] 256)).cell? ⟨w2.heap.size,0,none⟩=some (.int .i64 s):=za (zc w2 _ rfl) 0;have hm2:own2 w2.heap.size=0:=h2.far _ (qXo _);have hdall:=(H1.o.trans hd2).trans (h2.jY hua);rw[<-hs,<-hdb];obtain⟨w3,own3,hrun,h3,hd3⟩:=zaB h2a (x:=k) oM oM 0;obtain⟨-,-,-,-,-,-,-,-,f8⟩:=h2a.cells;obtain⟨-,-,-,-,-,g5,-,-,-⟩:=h3.cells;have c3:=hd3.upd.jS c0 (fun h=>h.1 hm2);obtain⟨m,hm⟩:=qqe (w2.heap.size);have HO:Hid (own3 m=0):=(hd3.old m (by rw[hm];simp)).trans (by rw[hm];exact hm2);have HD:=Y3 h3 (hdall.trans hd3) hs;have HM:=qqh hm;rw[<-hm]at c3;clear hua h2a c0 hm2 hdall h3 hd3 h2 hd2 HP hg hs hdb hm;go_upto_region 8 with fail
 rw[<-HM.o];refine qZb (S:=fun W=>W.cell? ⟨c,19,none⟩=some (ptr p.ss)/\W.cell? ⟨m,0,none⟩=some (.int .i64 s)) kR (by(simp only[qYh]);exact⟨g5,c3⟩) (fun hHeld=>?_);refine Wl.i [0,1,2,3,4,5] ?_;iterate 6 refine Wl.t hHeld ?_
 refine Wl.o ?_;refine Wl.r 6 (fun K hK=>?_);go_simp
 have HT:=qqh (yX (HD.o.1.new ((uur (fun _=>False) w3).drew)) s 3);refine HT.o.mono ?_;rintro e w4 ⟨rfl,own4,h4,hd4⟩;obtain⟨-,-,-,-,-,i5,-,-,-⟩:=h4.cells;have c4:=hd4.upd.jS (show w3.drew.cell? ⟨m,0,none⟩=some (.int .i64 s) by rw[qYh];exact c3) (fun h=>h.1 HO.o);have H4:=Y2 h4 hd4;clear h4 hd4;refine hK.o _ _ (⟨i5,c4⟩) (fun hH1=>?_);clear hK K;refine Wl.r 7 (fun K hK=>?_);go_simp
 refine hK.o _ _ (hH1) (fun hH2=>?_);clear hK K;refine Wl.d ?_;go_wp2
 go_ret
 have hs:=HD.o.2.2;subst hs;exact⟨rfl,own4,H4.o.1,(HD.o.2.1.drew).trans H4.o.2⟩
abbrev CaS.kw(n:CaN)(a:CaS)(k:Int):CaS:={a.left n k with K:=a.K.erase k,A:=dropA a.K a.A k}
theorem Xj{own:Nat->Nat}{w:World}{c:Nat}{n:CaN}{p:CaP}{a:CaS}(h:CaAt own w c n p a)(k:Int)(hg:getC a.ps k≠0):
  Calls prog 244 #[ptr c,.int .i64 k] w (zx own w c n p a (.int .i64 0)):=by
 have HG:=qqh (WD h k);obtain⟨-,-,-,-,d4,-,-,-,-⟩:=h.cells;clear h;have q0:(getC a.ps k==0)=false:=by simpa using hg
 go_enter func244,ntmps244
 go_wp2_with fail
 refine HG.o.mono ?_;rintro e w1 ⟨rfl,own1,h1,hd1⟩;have H1:=Y2 h1 hd1;clear h1 hd1 HG d4;generalize getV a.ps k=pv at*;generalize getC a.ps k=cd at*;obtain⟨s,b⟩:=pv;go_wp2
 go_ret
 have hu:=(uur (fun _=>False) w1).alloc (.cells #[.int .i64 s,.bool b] 256);exact⟨rfl,own1,H1.o.1.new hu,H1.o.2.trans (H1.o.1.jY hu)⟩
theorem ZK{own:Nat->Nat}{w:World}{c:Nat}{n:CaN}{p:CaP}{a:CaS}(h:CaAt own w c n p a)(k:Int)(hg:getC a.ps k=0)(hroom:a.next<=a.cov+n.jo)(hmx:a.next<=1099511627776)(hmay:mayR (jaddX a.next n.jo 1 k 0 false 0)=true)
  (ht:turnCode a.st (getV a.ps k).1 3=0):
  Calls prog 244 #[ptr c,.int .i64 k] w (zx own w c n p (a.kw n k) (.int .i64 (touchC a.K k))):=by
 have HG:=qqh (WD h k);obtain⟨-,-,-,-,d4,-,-,-,-⟩:=h.cells;have HR:=Y5 hg hroom hmx hmay ht;rw[hg]at HG;clear h hg hroom hmx hmay ht;go_enter func244,ntmps244
 go_wp2_with fail
 refine HG.o.mono ?_;rintro e w1 ⟨rfl,own1,h1,hd1⟩;obtain⟨s,hs⟩:=qqe ((getV a.ps k).1);obtain⟨b,hb⟩:=qqe ((getV a.ps k).2);have hu:=(uur (fun _=>False) w1).alloc (.cells #[.int .i64 s,.bool b] 256);obtain⟨w2,hw2⟩:=qqe (w1.alloc (.cells #[.int .i64 s,.bool b] 256));rw[<-hw2]at hu;have h2:=h1.new hu;have HD:=qqh (hd1.trans (h1.jY hu));have HL:=qqh (Xi h2 k HR.o.1 HR.o.2.1 HR.o.2.2.1 HR.o.2.2.2.1);have HW:=qqh hw2;rw[<-hs,<-hb];clear h1 hd1 HG d4 hu h2 hs hb hw2;go_wp2_with fail
 rw[<-HW.o];refine HL.o.mono ?_;rw[HR.o.2.2.2.2];rintro e w3 ⟨rfl,own3,h3,hd3⟩;obtain⟨-,-,-,-,-,-,-,d7,-⟩:=h3.cells;have HK:=qqh (Rs h3 k);have H3:=qqh (HD.o.trans hd3);clear h3 hd3 HL;go_wp2_with fail
 refine HK.o.mono ?_;rintro e w4 ⟨rfl,own4,h4,hd4⟩;have H4:=Y2 h4 hd4;clear h4 hd4 d7 HK;go_wp2
 go_ret
 exact⟨rfl,own4,H4.o.1,H3.o.trans H4.o.2⟩
theorem ZL(l:List Int):(allocList l).length=l.length:=by simp[allocList]
section
variable{own:Nat->Nat}{w w':World}{c:Nat}{n:CaN}{p:CaP}{a:CaS}
theorem Ru(h:CaAt own w c n p a):
  Calls prog 384 #[ptr p.ss] w (zx own w c n p {a with st:=allocList a.st} (.tuple #[.int .i64 (allocVal a.st),.int .i64 (allocCode a.st)])):=by
 obtain⟨v,hi,hb,hs⟩:=h.open6;exact(UL hi).mono fun _ _ ⟨he,hi',hu⟩=>
  have hu':=hu.mono (fun j _ hj=>hs j hj)
  ⟨he,_,h.turn6 hu' ⟨v,hi',hb,hs⟩ (ZL _),h.did6 hu'⟩
theorem qZ(h:CaAt own w c n p a)(st:Int):
  Calls prog 385 #[ptr p.ss,.int .i64 st] w (zx own w c n p a (.int .i64 (pos a.st st).length)):=by
 obtain⟨v,hi,-,-⟩:=h.ss;exact(UO hi st (by rw[h.sl];exact h.ok.s1)).mono fun _ _ ⟨he,hb⟩=>⟨he,own,h.new (uuo hb),h.jY (uuo hb)⟩
end
def CaS.fb(a:CaS):CaS:=a.kf (flushR a.bF a.bO a.bP)
def CaS.cm(n:CaN)(a:CaS):CaS:={a.dev (a.com n).1 with W:=(a.com n).2}
def CaS.jX(n:CaN)(a:CaS):CaS×Int:=
 if(flushR a.bF a.bO a.bP).cd≠0 then(a.fb,(flushR a.bF a.bO a.bP).cd)else if(a.fb.com n).1.cd≠0 then(a.fb.cm n,(a.fb.com n).1.cd)else({a.fb.cm n with st:=freeTo a.st (pos a.st 3)},0)
theorem vR{own:Nat->Nat}{w:World}{c:Nat}{n:CaN}{p:CaP}{a:CaS}(h:CaAt own w c n p a)(h1:∀q∈a.W,1<=q.1)(hO:a.dO.length+a.W.length<=65536):
  Calls prog 109 #[ptr c] w (zx own w c n p (a.jX n).1 (.int .i64 (a.jX n).2)):=by
 have HB:=qqh (vF h);obtain⟨-,d1,-,-,-,-,-,-,-⟩:=h.cells;have H:=Y2 h1 hO;clear h h1 hO;go_enter func109,ntmps109
 go_wp2_with fail
 refine HB.o.mono ?_;rintro e w1 ⟨rfl,own1,h1,hd1⟩;have hR:a.jX n=a.jX n:=rfl
 conv at hR=>rhs;unfold CaS.jX
 generalize hcd:(flushR a.bF a.bO a.bP).cd=cd at*;replace h1:CaAt own1 w1 c n p a.fb:=h1;obtain⟨-,-,-,e3,-,-,-,-,-⟩:=h1.cells;have HC:=qqh (Tu h1 H.o.1 H.o.2);have H1:=Y3 h1 hd1 hR;clear h1 hd1 hR HB d1 hcd;by_cases hc:cd=0
 .have HZ:=qqh hc;subst hc;go_wp2_with fail
  refine HC.o.mono ?_;rintro e w2 ⟨rfl,own2,h2,hd2⟩;obtain⟨h1,hd1,hR⟩:=H1.o;rw[if_neg oe]at hR;generalize (a.fb.com n).1.cd=cd2 at*;replace h2:CaAt own2 w2 c n p (a.fb.cm n):=h2;have HF:=qqh (VC h2);have H2:=Y3 h2 (hd1.trans hd2) hR;clear h1 hd1 hR h2 hd2 e3;by_cases hc2:cd2=0
  .subst hc2;go_wp2_with fail
   refine HF.o.mono ?_;rintro e w3 ⟨rfl,own3,h3,hd3⟩;obtain⟨h2,hd2,hR⟩:=H2.o;rw[if_neg oe]at hR;have H3:=Y3 h3 (hd2.trans hd3) hR;clear h2 hd2 hR h3 hd3;go_wp2
   go_ret
   obtain⟨h3,hd3,hR⟩:=H3.o;rw[hR];exact⟨rfl,own3,h3,hd3⟩
  .have q0:(cd2==0)=false:=by simpa using hc2
   go_wp2
   go_ret
   obtain⟨h2,hd2,hR⟩:=H2.o;rw[if_pos hc2]at hR;rw[hR];exact⟨rfl,own2,h2,hd2⟩
 .have q0:(cd==0)=false:=by simpa using hc
  go_wp2
  go_ret
  obtain⟨h1,hd1,hR⟩:=H1.o;rw[if_pos hc]at hR;rw[hR];exact⟨rfl,own1,h1,hd1⟩
theorem Xk{own:Nat->Nat}{w:World}{c:Nat}{n:CaN}{p:CaP}{a:CaS}(h:CaAt own w c n p a)(hr:a.next+1<=a.cov+n.jo):
  Calls prog 243 #[ptr c] w (zx own w c n p a (.int .i64 0)):=by
 have HB:=qqh (Xf h);obtain⟨-,-,-,d3,-,-,-,-,-⟩:=h.cells;have q0:decide ((n.jo:Int)-((a.next:Int)-1-(a.cov:Int))>=2)=true:=by simp;omega
 have q1:(2:Int)<=(n.jo:Int)-((a.next:Int)-1-(a.cov:Int)):=oM;clear h hr;go_enter func243,ntmps243
 go_wp2_with fail
 refine HB.o.mono ?_;rintro e w1 ⟨rfl,own1,h1,hd1⟩;have H1:=Y2 h1 hd1;clear h1 hd1 HB d3;generalize (n.jo:Int)-((a.next:Int)-1-(a.cov:Int))=r at*;go_wp2
 go_ret
 exact⟨rfl,own1,H1.o.1,H1.o.2⟩
def CaN.j8(n:CaN):Nat:=1+2*n.pa+n.jo+n.lo+n.lo+n.lo
def CaS.j4(n:CaN)(a:CaS)(s:Nat)(blk:Int)(x:Bk):CaS×Int:=
 if(writeR a.dF a.dO a.dP (n.j8+s) x).cd=0 then({a with G:=Zv a.G s blk}.dev (writeR a.dF a.dO a.dP (n.j8+s) x),0)
 else({{a with G:=Zv a.G s blk}.dev (writeR a.dF a.dO a.dP (n.j8+s) x)with st:=turnList a.st s 4},(writeR a.dF a.dO a.dP (n.j8+s) x).cd)
theorem VT{own:Nat->Nat}{w:World}{c:Nat}{n:CaN}{p:CaP}{a:CaS}(h:CaAt own w c n p a)(s:Nat)(hs:s<n.sl)(blk:Int)(hb:blk= -1\/(0<=blk/\blk<(n.bl:Int)))(x:Bk)(hx:x.length=64)(hO:a.dO.length<65536):
  Calls prog 309 #[ptr c,.int .i64 (s:Int),.int .i64 blk,.agg (bkC x).toArray] w (zx own w c n p (a.j4 n s blk x).1 (.int .i64 (a.j4 n s blk x).2)):=by
 obtain⟨w1,hw1⟩:=qqe (w.alloc (.cells (bkC x).toArray 60));have hu1:=qqu hw1;have hg1:=qqg hw1;obtain⟨m,hm⟩:=qqe (w.heap.size);have hm0:own m=0:=h.far _ oM;rw[<-hm]at hg1;have h1:=h.new hu1;have HP:=qqh (Zx h1 s hs blk hb);obtain⟨-,-,-,-,-,-,d6,-,-⟩:=h1.cells;have hfl:=h.fl;have hz:=h.ok.z;have hsz:n.j8+s<a.dF.length:=by unfold CaN.size at hfl;unfold CaN.j8;omega
 have hsz2:n.j8+s<8192:=oM;obtain⟨sc,hsc⟩:=qqe (n.j8+s);have k1:IntKind.i64.wrap ((n.j8:Int)+(s:Int))=(sc:Int):=by rw[hsc,qxs];exact qxu _ oM
 have K2:Hid ((n.j8:Int)+(s:Int)=(sc:Int)):=by show _=_;rw[hsc,qxs]
 have H:=Y7 hm0 (h.jY hu1) hg1 hsz hx hO hsc;have HM:=qqh hm;have HW1:=qqh hw1;have d6':=d6;rw[hw1]at d6';have hut:=underlying60;have hsi:=zq x hx;clear h hb hx hO hu1 hg1 h1 hfl hz hsz hsz2 hm0 hm hw1 d6 hs;go_enter func309,ntmps309
 go_wp2_with fail
 rw[<-HW1.o,<-HM.o];refine HP.o.mono ?_;rintro e w2 ⟨rfl,own2,h2,hd2⟩;obtain⟨hm0,hd1,hg1,hsz,hx,hO,hsc⟩:=H.o;obtain⟨e0,-,-,-,-,-,-,-,-⟩:=h2.cells;obtain⟨-,-,-,e5⟩:=h2.lay;have e5:w2.cell? ⟨c,12,none⟩=some (.int .i64 (n.j8:Int)):=by rw[e5];congr 2
 have r2:=hd2.upd.range (zg hg1) (fun h=>h.1 hm0);have hm2:own2 m=0:=(hd2.old m (zd hg1)).trans hm0;have HD:=Y4 h2 (hd1.trans hd2) hm2 hsc;have HWr:=qqh (ZI (h2.new ((uur (fun _=>False) w2).drew)) sc (by rw[hsc];exact hsz) x hx hO);clear hm0 hd1 hg1 hsz hx hO hsc h2 hd2 hm2 HP d6';go_upto_region 2 with fail
 refine qZb (S:=fun W=>W.cell? ⟨c,14,none⟩=some (ptr p.ssd)/\W.cell? ⟨c,12,none⟩=some (.int .i64 (n.j8:Int))/\W.rangeAt m 0 (bkC x)) kR (by(simp only[qYh,qYj]);exact⟨e0,e5,r2⟩) (fun hHeld=>?_);refine Wl.i [0,1,2,3,4,5,6,7,8,9,10] ?_;iterate 11 refine Wl.t hHeld ?_
 refine Wl.o ?_;refine Wl.l 11 (fun w h=>h.2.2) hut hsi hHeld ?_;refine Wl.r 12 (fun K hK=>?_);go_simp
 rw[K2.out];refine HWr.out.mono ?_;rintro e w3 ⟨rfl,own3,h3,hd3⟩;obtain⟨i0,-,-,-,-,g5,-,-,-⟩:=h3.cells;obtain⟨-,-,-,i5⟩:=h3.lay;have i5:w3.cell? ⟨c,12,none⟩=some (.int .i64 (n.j8:Int)):=by rw[i5];congr 2
 have r3:=hd3.upd.range (show w2.drew.rangeAt m 0 (bkC x) by rw[qYj];exact r2) (fun h=>h.1 HD.o.2.2.1);have HT:=qqh (yX h3 s 4);have H3:=Y2 h3 ((HD.o.2.1.drew).trans hd3);clear h3 hd3;refine hK.o _ _ (⟨i0,i5,r3⟩) (fun hH1=>?_);clear hK K;refine Wl.r 13 (fun K hK=>?_);go_simp
 refine hK.o _ _ (hH1) (fun hH2=>?_);clear hK K;refine Wl.d ?_;have hR:a.j4 n s blk x=a.j4 n s blk x:=rfl
 conv at hR=>rhs;unfold CaS.j4
 rw[<-HD.o.2.2.2]at hR⊢;simp only at HT H3⊢;generalize writeR a.dF a.dO a.dP sc x=r at*;have HRr:=qqh hR;clear hR hHeld hH1 hH2 i0 i5 r3 r2 e0 e5 HWr;by_cases hc:r.cd=0
 .have HZ:=qqh hc;rw[hc];clear hc;go_wp2
  go_ret
  rw[HRr.out,if_pos HZ.o];exact⟨rfl,own3,H3.o.1,H3.o.2⟩
 .have q0:(r.cd==0)=false:=by simpa using hc
  go_wp2_with fail
  refine HT.o.mono ?_;rintro e w4 ⟨rfl,own4,h4,hd4⟩;have H4:=Y2 h4 hd4;clear h4 hd4 g5 HT;go_wp2
  go_ret
  rw[HRr.out,if_neg hc];exact⟨rfl,own4,H4.o.1,H3.o.2.trans H4.o.2⟩
theorem run_eql_place(w:World)(a c:Int)(b d:Bool):(binOp .eql 256 (.agg #[.int .i64 a,.bool b]) (.agg #[.int .i64 c,.bool d])).run prog w=.ok (.bool (a==c&&b==d)) w:=by
 simp only[binOp];simp[show Op.equal 256 (.agg #[.int .i64 a,.bool b]) (.agg #[.int .i64 c,.bool d])=Op.equalIn (9998+1+1) 256 (.agg #[.int .i64 a,.bool b]) (.agg #[.int .i64 c,.bool d])from rfl,wR w 9998 a c b d]
def CaS.given(n:CaN)(a:CaS)(k:Int)(s sum:Nat)(d:Bool):CaS:={a.noted n 0 k s d sum with iN:=a.iN+1,ps:=vN a.ps n.sl k s d,st:=turnList a.st s 2,mN:=a.mN+1,sums:=xP a.sums k (some sum)}
def CaS.ke(n:CaN)(a:CaS)(k:Int)(s sum:Nat)(d:Bool):CaS×Int:=
 if(um a.ps n.sl k s).1= -1/\(um a.ps n.sl k s).2=false then({a.given n k s sum d with kN:=a.kN+1,K:=rS n.sl a.K k,A:=UT n.sl a.K a.A a.H k,H:=UU n.sl a.K a.H k},addC n.sl a.K k)
 else({a.given n k s sum d with st:=turnList (turnList a.st s 2) (um a.ps n.sl k s).1 3,kN:=a.kN+1,A:=agA a.A a.K k},touchC a.K k)
theorem VU{own:Nat->Nat}{w:World}{c:Nat}{n:CaN}{p:CaP}{a:CaS}(h:CaAt own w c n p a)(k:Int)(s sum:Nat)(d:Bool)(hroom:a.next<=a.cov+n.jo)(hmx:a.next<=1099511627776)(hmay:mayR (jaddX a.next n.jo 0 k s d sum)=true)
  (hput:putC a.ps n.sl k s=0) (hN:a.iN<maxLen) (hsum:sum<9223372036854775808) (hM:a.mN<maxLen) (hkN:a.kN<maxLen):
  Calls prog 310 #[ptr c,.int .i64 k,.int .i64 (s:Int),.int .i64 (sum:Int),.bool d] w (zx own w c n p (a.ke n k s sum d).1 (.int .i64 (a.ke n k s sum d).2)):=by
 obtain⟨w1,hw1⟩:=qqe (w.alloc (.cells (recC 0 0 0 k s d sum).toArray 307));have hu1:=qqu hw1;have hg1:=qqg hw1;obtain⟨m,hm⟩:=qqe (w.heap.size);have hm0:own m=0:=h.far _ oM;rw[<-hm]at hg1;have h1:=h.new hu1;obtain⟨-,-,-,d3,-,-,-,-,-⟩:=h1.cells;have r1:=zg hg1;have hud:=((uur (fun _=>False) w1).drew)
 have HJ:=qqh (VQ (h1.new hud) hroom hmx 0 0 0 k s d sum hmay);have H:=Y6 hm0 ((h.jY hu1).trans (h1.jY hud)) hput hN hsum hM;have HM:=qqh hm;have HW1:=qqh hw1;have hk:0<=k/\k<4096:=by
  have e1:=h.pl;have e2:=h.ok.b2;unfold putC at hput;split at hput
  .cases hput
  .omega
 have HK:=qqh hk;replace hkN:=qqh hkN;have hut:=underlying307;have hsi:=infoThR;clear hk h hroom hmx hmay hput hN hsum hM hu1 hg1 h1 hm0 hm hw1 hud;go_enter func310,ntmps310
 go_upto_region 2 with fail
 rw[<-HM.o,show w.alloc (.cells #[.int .i64 0,.int .i64 0,.int .i64 0,.int .i64 k,.int .i64 (s:Int),.bool d,.int .i64 (sum:Int)] 307)=w1 from HW1.o.symm];refine qZb (S:=fun W=>W.cell? ⟨c,17,none⟩=some (ptr p.jr)/\W.rangeAt m 0 (recC 0 0 0 k s d sum)) kR (by(simp only[qYh,qYj]);exact⟨d3,r1⟩) (fun hHeld=>?_);refine Wl.i [0,1,2,3] ?_;iterate 4 refine Wl.t hHeld ?_
 refine Wl.o ?_;refine Wl.l 4 (fun w h=>h.2) hut hsi hHeld ?_;refine Wl.r 5 (fun K hK=>?_);go_simp
 skip
 refine HJ.o.mono ?_;rintro e w2 ⟨rfl,own2,h2,hd2⟩;obtain⟨-,-,-,i3,i4,-,-,-,-⟩:=h2.cells;have r2:=hd2.upd.range (show w1.drew.rangeAt m 0 (recC 0 0 0 k s d sum) by rw[qYj];exact r1) (fun h=>h.1 H.o.1);have HP:=qqh (Rr h2 k s d H.o.2.2.2.1);have H2:=qqh (H.o.2.1.trans hd2);clear h2 hd2;refine hK.o _ _ (⟨i3,r2⟩) (fun hH1=>?_);clear hK K;refine Wl.i [6,7,8] ?_;iterate 3 refine Wl.t hH1 ?_
 refine Wl.o ?_;refine Wl.r 9 (fun K hK=>?_);go_simp
 refine hK.o _ _ (hH1) (fun hH2=>?_);clear hK K;refine Wl.r 10 (fun K hK=>?_);go_simp
 refine hK.o _ _ (hH2) (fun hH3=>?_);clear hK K;refine Wl.d ?_;have hp:=H.o.2.2.1;clear hHeld hH1 hH2 hH3 i3 r1 r2 d3 HJ hut hsi;go_wp2_with fail
 refine HP.o.mono ?_;rw[hp];rintro e w3 ⟨rfl,own3,h3,hd3⟩;obtain⟨ps,hps⟩:=qqe (um a.ps n.sl k s);rw[<-hps];obtain⟨os,od⟩:=ps;have hua:Upd (fun _=>False) w3 (w3.alloc (.cells #[.int .i64 os,.bool od] 256)):=(uur _ _).alloc _;have h3a:=h3.new hua;have HT:=qqh (yX h3a s 2);obtain⟨-,-,-,-,-,j5,-,-,-⟩:=h3a.cells;have H3:=Y2 ((H2.o.trans hd3).trans (h3.jY hua)) (h3.far _ (qXo _));clear h3 hd3 hua h3a HP i4;go_wp2_with fail
 refine HT.o.mono ?_;rintro e w4 ⟨rfl,own4,h4,hd4⟩;obtain⟨w5,own5,hrun,h5,hd5⟩:=Xh h4 (x:=k) (by have:=HK.o;omega) (by have:=HK.o;omega) sum H.o.2.2.2.2.1 H.o.2.2.2.2.2;obtain⟨-,-,-,-,-,-,-,-,f8⟩:=h4.cells;obtain⟨-,-,-,-,-,g5,-,g7,-⟩:=h5.cells;have rB:=(hd4.trans hd5).upd.range (zg (zc w3 (.cells #[.int .i64 os,.bool od] 256) rfl)) (fun h=>h.1 H3.o.2);have H5:=Y2 h5 (H3.o.1.trans (hd4.trans hd5));clear h4 hd4 h5 hd5 HT j5;replace H5:Hid (CaAt own5 w5 c n p (a.given n k s sum d)/\Did own own5 w w5):=H5;have hR:a.ke n k s sum d=a.ke n k s sum d:=rfl
 conv at hR=>rhs;unfold CaS.ke
 rw[<-hps]at hR;simp only at hR;by_cases ho:os= -1/\od=false
 .rw [if_pos ho]at hR;have HR:=qqh hR;clear hR;obtain⟨rfl,rfl⟩:=ho;have HA:=qqh (VR H5.o.1 k (by have:=HK.o;unfold InR;omega) hkN.out);go_wp2_with (first
   |(refine qYy rfl _ _ rfl _ _ rfl _ _ rB underlying256 rfl kR ?_)
   |fail)
  refine HA.o.mono ?_;rintro e w6 ⟨rfl,own6,h6,hd6⟩;have H6:=Y2 h6 (H5.o.2.trans hd6);clear h6 hd6 HA g5 g7 f8 hrun rB;go_wp2
  go_ret
  rw[HR.o];exact⟨rfl,own6,H6.o.1,H6.o.2⟩
 .rw [if_neg ho]at hR;have HR:=qqh hR;clear hR;have hq:(os== -1&&od==false)=false:=by
   rw[Bool.and_eq_false_iff];by_cases h1:os= -1
   .right;simpa using fun h2=>ho ⟨h1,h2⟩
   .left;simpa using h1
  have hel:∀W:World,(binOp .eql 256 (.agg #[.int .i64 os,.bool od]) (.agg #[.int .i64 (-1),.bool false])).run prog W=.ok (.bool false) W:=by
   intro W;rw[run_eql_place,hq]
  have cB:w5.cell? ⟨w3.heap.size,0,none⟩=some (.int .i64 os):=rB 0 _ rfl;clear hq ho;go_wp2_with (first
   |(refine qYy rfl _ _ rfl _ _ rfl _ _ rB underlying256 rfl kR ?_)
   |fail)
  clear rB hel hrun f8;have HT2:=qqh (yX (H5.o.1.new ((uur (fun _=>False) w5).drew)) os 3);replace H5:=qqh H5.o.2.drew
  go_still_tail 6,kR
  change wpList _ _ _ _ _ w5.drew
  generalize w5.drew=w5d at*;go_wp2_with fail
  refine HT2.o.mono ?_;rintro e w6 ⟨rfl,own6,h6,hd6⟩;obtain⟨-,-,-,-,-,-,-,k7,-⟩:=h6.cells;have HC:=qqh (Tv h6 k hkN.out);have H6:=qqh (H5.o.trans hd6);clear h6 hd6 HT2 g5 g7 cB;go_wp2_with fail
  refine HC.o.mono ?_;rintro e w7 ⟨rfl,own7,h7,hd7⟩;have H7:=Y2 h7 (H6.o.trans hd7);clear h7 hd7 HC k7;go_wp2
  go_ret
  rw[HR.o];exact⟨rfl,own7,H7.o.1,H7.o.2⟩
section
variable{own own':Nat->Nat}{w w':World}{c:Nat}{n:CaN}{p:CaP}{a:CaS}
theorem zcH(h:CaAt own w c n p a):Calls prog 145 #[ptr c] w fun e w'=>e=.returned (.tuple #[ptr p.ssd,ptr p.back])/\Upd (fun _=>False) w w':=by
 obtain⟨c14,c15,-⟩:=h.cells;clear h;go_enter func145,ntmps145
 go_wp2
 go_quiet(fail)
 have hu:Upd (fun _=>False) w (w.drewN nq):=(uur _ w).drewN nq;generalize w.drewN nq=w2 at*;go_wp2
 go_ret2
 exact⟨rfl,hu⟩
theorem C_one(n:CaN):∀v∈n.C,v.oneCell'=true:=by
 intro v hv;simp only[CaN.C,qzm,qzy,qYt]at hv;rcases hv with rfl|rfl|rfl|rfl|rfl|rfl|rfl<;>rfl
theorem VV(sl jo pa lo:Nat):∀v∈layC sl jo pa lo,v.oneCell'=true:=by
 intro v hv;simp only[qzm,qzy,qYt]at hv;rcases hv with rfl|rfl|rfl|rfl|rfl|rfl|rfl<;>rfl
theorem zaD(h:CaAt own w c n p a):Calls prog 57 #[ptr c] w fun e w'=>e=.returned (.agg n.C.toArray)/\Below w.heap.size w w':=by
 obtain⟨U,hU⟩:=qqe (n.C);have hr:w.rangeAt c 0 U:=fun j v hv=>by
  have:=zg h.str j v (by rw[caC,qyg oP,<-hU];exact hv);exact this
 have hU7:U.length=7:=by rw[hU];rfl
 have hs:(prog.info? 44).map (·.size)=some U.length:=by rw[hU7];exact xj
 have h1:∀v∈U,v.oneCell'=true:=by rw[hU];exact C_one n
 have hc:=qYi hr (.cells U.toArray 44);rw[<-hU];have H:=Y3 hs h1 hU7;clear h hU hs h1 hU7;go_enter func57,ntmps57
 go_wp2_with (first
  |(refine qYy rfl _ _ rfl _ _ rfl _ _ (qYi hr _) underlying44 rfl H.o.1 ?_)
  |(refine zk rfl _ _ _ rfl _ _ _ rfl rfl (by rw[H.o.2.2];rfl) H.o.1 H.o.2.1 ?_)
  |fail)
 refine qYp (zv rfl _ _ w.heap.size 0 U _ rfl (zg (zc w _ rfl)) underlying44 rfl H.o.1) rfl ⟨rfl,(qxl _ w).alloc (qXo _) _⟩
theorem Em(h:CaAt own w c n p a):Calls prog 146 #[ptr c] w fun e w'=>e=.returned (.agg (layC n.sl n.jo n.pa n.lo).toArray)/\Below w.heap.size w w':=by
 obtain⟨U,hU⟩:=qqe (layC n.sl n.jo n.pa n.lo);have hU7:U.length=7:=by rw[hU];rfl
 have hr:w.rangeAt c 7 U:=fun j v hv=>by
  have:=zg h.str (7+j) v (by
   rw[caC,qyh (by show(7:Nat)<=7+j;omega),show 7+j-n.C.length=j by show 7+j-7=j;omega,qyg oP,<-hU];exact hv)
  rw[qXx]at this;exact this
 have hs:(prog.info? 73).map (·.size)=some U.length:=by rw[hU7];exact xF
 have h1:∀v∈U,v.oneCell'=true:=by rw[hU];exact VV _ _ _ _
 rw[<-hU];have H:=Y3 hs h1 hU7;clear h hU hs h1 hU7;go_enter func146,ntmps146
 go_wp2_with (first
  |(refine qYy rfl _ _ rfl _ _ rfl _ _ (qYi hr _) underlying73 rfl H.o.1 ?_)
  |(refine zk rfl _ _ _ rfl _ _ _ rfl rfl (by rw[H.o.2.2];rfl) H.o.1 H.o.2.1 ?_)
  |fail)
 refine qYp (zv rfl _ _ w.heap.size 0 U _ rfl (zg (zc w _ rfl)) underlying73 rfl H.o.1) rfl ⟨rfl,(qxl _ w).alloc (qXo _) _⟩
end
def zcI(w:World)(n:CaN)(d:Nat)(e:Ending)(w':World):Prop:=
 ∃li lc lf,e=.returned (.tuple #[.agg #[ptr li,ptr lc,ptr lf],.int .i64 0])/\LogI w' li d (1+2*n.pa+n.jo) n.lo 150/\LogC w' lc d (1+2*n.pa+n.jo+n.lo) n.lo 154/\
  LogF w' lf d (1+2*n.pa+n.jo+n.lo+n.lo) n.lo 158/\(w.heap.size<=li/\w.heap.size<=lc/\w.heap.size<=lf)/\Below w.heap.size w w'
theorem Rv(n:CaN)(w:World):(Instr.field 44 (.agg n.C.toArray) 5).run prog w=.ok (.int .i64 (n.lo:Int)) w:=kR
section
variable{own own':Nat->Nat}{w w':World}{c:Nat}{n:CaN}{p:CaP}{a:CaS}
theorem zcJ(h:CaAt own w c n p a):Calls prog 91 #[ptr c] w (zcI w n p.ssd):=by
 obtain⟨V,hV⟩:=qqe (layC n.sl n.jo n.pa n.lo);obtain⟨w1,hw1⟩:=qqe (w.alloc (.cells #[.pointer none,.pointer none,.pointer none] 103));have hu1:=qqu hw1;have h1:=h.new hu1;have hg1:=qqg hw1;have H1:=Y4 h1 hu1 hg1 hV;have hC:=qqh (zcH h1);have HW1:=qqh hw1;have HO:=qqh h.ok;clear h h1 hu1 hw1 hV hg1;go_enter func91,ntmps91
 go_wp2_with fail
 rw[<-HW1.o];refine hC.out.mono ?_;rintro e w2 ⟨rfl,hu2⟩;have h2:=H1.o.1.new hu2;have H2:=Y2 h2 hu2;have hL:=Em h2;rw[<-H1.o.2.2.2]at hL;have HL:=qqh hL;clear h2 hu2 hL;go_wp2_with fail
 refine HL.o.mono ?_;rintro e w3 ⟨rfl,hb3⟩;have hu3:=qqb hb3;have h3:=H2.o.1.new hu3;have H3:=Y2 h3 hu3;have HS:=qqh (zaD h3);clear h3 hu3 hb3;go_wp2_with fail
 refine HS.o.mono ?_;rintro e w4 ⟨rfl,hb4⟩;have hu4:=qqb hb4;clear hb4;obtain⟨w5,hw5⟩:=qqe (w4.alloc (.cells V.toArray 73));have hu5:=qqu hw5;have hg5:=qqg hw5;have hVl:V.length=7:=by rw[H1.o.2.2.2];rfl
 have hV1:∀v∈V,v.oneCell'=true:=by rw[H1.o.2.2.2];exact VV _ _ _ _
 have hsV:Hid ((prog.info? 73).map (·.size)=some V.length):=by show _=_;rw[hVl];exact xF
 have h5:=(H3.o.1.new hu4).new hu5;have U5:=(((H1.o.2.1.trans H2.o.2).trans H3.o.2).trans hu4).trans hu5;have g15:=(((H2.o.2.trans H3.o.2).trans hu4).trans hu5).jT H1.o.2.2.1;have H5:=Y6 h5 U5 hg5 hVl hV1 g15;have HW5:=qqh hw5;have hz:n.size<=4096:=HO.o.z;have hl1:=HO.o.l1;have hdl:=h5.fl;have HN:=qqh (Ec h5.ssd (1+2*n.pa+n.jo) n.lo hl1 jx 150);have hfd:=Rv n;clear hu4 hu5 hg5 hVl hV1 h5 U5 g15 hw5 hdl;go_upto_region 5 with(first
  |(refine zk rfl _ _ _ rfl _ _ _ rfl rfl (by rw[H5.o.2.2.2.1];rfl) hsV.out H5.o.2.2.2.2.1 ?_)
  |fail)
 rw[<-HW5.o];clear hfd;have hvc:=za H5.o.2.2.1;rw[H1.o.2.2.2]at hvc;have v2:w5.cell? ⟨w4.heap.size,2,none⟩=some (.int .i64 (1+2*(n.pa:Int)+(n.jo:Int))):=hvc 2;have e1:(((1+2*n.pa+n.jo:Nat)):Int)=1+2*(n.pa:Int)+(n.jo:Int):=oe;rw[e1]at HN;clear hvc e1;go_wp2_with fail
 refine HN.o.mono ?_;rintro e w6 ⟨rfl,hl6,hb6⟩;have hu6:=qqb hb6;have h6:=H5.o.1.new hu6;have hdl:=h6.fl;have HN:=qqh (Ed h6.ssd (1+2*n.pa+n.jo+n.lo) n.lo hl1 jx 154);have H6:=Y3 h6 hl6 hu6;have hvc:=za (hu6.jT H5.o.2.2.1);rw[H1.o.2.2.2]at hvc;have v3:w6.cell? ⟨w4.heap.size,3,none⟩=some (.int .i64 (1+2*(n.pa:Int)+(n.jo:Int)+(n.lo:Int))):=hvc 3;have e1:(((1+2*n.pa+n.jo+n.lo:Nat)):Int)=1+2*(n.pa:Int)+(n.jo:Int)+(n.lo:Int):=oe;rw[e1]at HN;clear hvc e1 h6 hl6 hb6 hu6 hdl v2;go_wp2_with fail
 refine HN.o.mono ?_;rintro e w7 ⟨rfl,hl7,hb7⟩;have hu7:=qqb hb7;have h7:=H6.o.1.new hu7;have hdl:=h7.fl;have HN:=qqh (Ee h7.ssd (1+2*n.pa+n.jo+n.lo+n.lo) n.lo hl1 jx 158);have H7:=Y2 hl7 hu7;have hvc:=za ((H6.o.2.2.trans hu7).jT H5.o.2.2.1);rw[H1.o.2.2.2]at hvc;have v4:w7.cell? ⟨w4.heap.size,4,none⟩=some (.int .i64 (1+2*(n.pa:Int)+(n.jo:Int)+(n.lo:Int)+(n.lo:Int))):=hvc 4;have e1:(((1+2*n.pa+n.jo+n.lo+n.lo:Nat)):Int)=1+2*(n.pa:Int)+(n.jo:Int)+(n.lo:Int)+(n.lo:Int):=oe;rw[e1]at HN;clear hvc e1 h7 hl7 hb7 hu7 hdl v3;go_wp2_with fail
 refine HN.o.mono ?_;rintro e w8 ⟨rfl,hl8,hb8⟩;have hu8:=qqb hb8;have g8:=((H6.o.2.2.trans H7.o.2).trans hu8).jT H5.o.2.2.2.2.2;have c80:=za g8 0;have c81:=za g8 1;have c82:=za g8 2;have f8:=zf g8;have f80:=f8 0;have f81:=f8 1;have f82:=f8 2;have H8:=Y3 hl8 hu8 g8;clear hl8 hb8 hu8 g8 f8 v4;go_wp2
 obtain⟨hl8,hu8,g8⟩:=H8.o;have s0:=zh g8 0 (ptr w5.heap.size);have s1:=zh s0 1 (ptr w6.heap.size);have s2:=zh s1 2 (ptr w7.heap.size);have t1:=((zi w8 w.heap.size 0 (ptr w5.heap.size)).trans (zi _ w.heap.size 1 (ptr w6.heap.size))).trans (zi _ w.heap.size 2 (ptr w7.heap.size));have z1:=H1.o.2.1.size;have z5:=H5.o.2.1.size;have z6:=H6.o.2.2.size;have z7:=H7.o.2.size;have hw:w.heap.size<w5.heap.size:=zd H5.o.2.2.2.2.2;have li:=((H6.o.2.1.keep H7.o.2 id).keep hu8 id).keep t1 oM;have lc:=(H7.o.1.keep hu8 id).keep t1 oM;have lf:=hl8.keep t1 oM;refine qYp (zp rfl _ _ w.heap.size 0 [ptr w5.heap.size,ptr w6.heap.size,ptr w7.heap.size] _ rfl (zg s2) underlying103 rfl kR) rfl ⟨w5.heap.size,w6.heap.size,w7.heap.size,rfl,li,lc,lf,⟨oM,oM,oM⟩,?_⟩;exact Upd.below ((((H5.o.2.1.trans H6.o.2.2).trans H7.o.2).trans hu8).new t1 (fun i hi e=>oM))
end
end Go.Proofs.YtpejdgiccaijfaaGreatDoor
