/- A cache's devi -/
import Derived.Test.YtpejdgiccaijfaaGreatDoorG12
import Derived.Test.YtpejdgiccaijfaaGreatDoorG10
import Derived.Test.YtpejdgiccaijfaaGreatDoorG11
import Derived.Test.YtpejdgiccaijfaaGreatDoorG13
set_option maxRecDepth 100000
set_option maxHeartbeats 1000000
namespace Go.Proofs.YtpejdgiccaijfaaGreatDoor
open Go Go.RowKit Tryz
variable{own:Nat->Nat}{w:World}{c:Nat}{p:CaP}{x:Int}
theorem Did.step2{w':World}{t s q:Nat}(v:∀b,w.heap.size<=b->own b=0)(D:t≠0)(A:t<16)(E:s≠0)(F:s<16)(G:own q=s)(hu:Upd (fun b=>(own b=t\/w.heap.size<=b)\/b=q) w w'):Did own (grow own t w.heap.size w'.heap.size) w w' where
 upd:=hu.mono (fun b j h=>by rcases h with(h|h)|h;exact h▸⟨D,A⟩;omega;subst h;rw[G];exact⟨E,F⟩)
 old:=fun b j=>zw j
 new:=fun b j=>by
  unfold grow;split
  .exact A
  .rw [v b j];decide
 far:=fun b j=>by
  have:=hu.size;unfold grow;rw[if_neg oM];exact v b oM
section
variable{R:(Nat->Prop)->World->Prop}{own:Nat->Nat}{w w':World}{t s k q:Nat}
theorem Thing.other2(v:Thing R)(D:R (fun b=>own b=k) w)(E:k≠t)(F:k≠s)(G:own q=s)(hu:Upd (fun b=>(own b=t\/w.heap.size<=b)\/b=q) w w'):R (fun b=>grow own t w.heap.size w'.heap.size b=k) w':=by
 have h1:R (fun b=>own b=k/\b<w.heap.size) w:=v.out D (fun b A h=>⟨h,A⟩);have h2:=v.keep h1 hu (fun b h j=>by rcases j with(j|j)|j;exact E (h.1.symm.trans j);omega;subst j;exact F (h.1.symm.trans G));exact v.out h2 (fun b A h=>by rw[zw h.2];exact h.1)
end
section
variable{own:Nat->Nat}{w w':World}{c:Nat}{n:CaN}{p:CaP}{a:CaS}
theorem CaAt.jrOwn(b:CaAt own w c n p a):own p.jr=4/\p.jr<w.heap.size:=by
 obtain⟨v,h,j⟩:=b.jr;exact⟨j _ (.inl rfl),zd h.str⟩
theorem CaAt.turn24(h:CaAt own w c n p a){F:List Bk}{O:List (Nat×Bk)}{P:List Int}{W:List (Nat×Bk)}(hu:Upd (fun j=>(own j=2\/w.heap.size<=j)\/j=p.jr) w w')(A:Dv (fun j=>own j=2\/w.heap.size<=j) w' p.ssd F O P)(D:F.length=a.dF.length)
  (E:Jn (fun j=>own j=4/\j<w.heap.size) w' p.jr p.ssd (1+2*n.pa) n.jo a.cov a.next W):
  CaAt (grow own 2 w.heap.size w'.heap.size) w' c n p {a with dF:=F,dO:=O,dP:=P,W:=W}:=by
 have v:=h.jrOwn.1;exact{h with
  str:=(hu.block c h.clt (fun b=>by rcases b with(b|b)|b;rw[h.oc]at b;exact absurd b de;exact absurd h.clt oM;have:=h.oc;rw[b,v]at this;exact absurd this de)).trans h.str
  oc:=(zw h.clt).trans h.oc
  ssd:=(Dv.kQ _ _ _ _).mine hu.size A
  back:=(Dv.kQ _ _ _ _).other2 h.back de de v hu
  jr:=(Jn.kQ _ _ _ _ _ _ _).out E (fun j _ b=>by rw[zw b.2];exact b.1)
  ix:=(Ix.kQ _ _ _ _).other2 h.ix de de v hu
  ss:=(Ss.kQ _ _).other2 h.ss de de v hu
  lg:=(Lg.kQ _ _ _).other2 h.lg de de v hu
  ck:=(Ck.kQ _ _ _ _ _ _ _).other2 h.ck de de v hu
  sm:=(Mp.kQ _ _ _).other2 h.sm de de v hu
  far:=(Did.step2 h.far (t:=2) (s:=4) de de de de v hu).far
  nib:=h.nib.keep hu (fun b=>by rcases b with(b|b)|b;rw[h.on]at b;exact absurd b de;exact absurd h.nib.lt oM;exact absurd (h.on.symm.trans ((congrArg own b).trans v)) de)
  tur:=h.tur.keep hu (fun b=>by rcases b with(b|b)|b;rw[h.ot]at b;exact absurd b de;exact absurd h.tur.lt oM;exact absurd (h.ot.symm.trans ((congrArg own b).trans v)) de)
  on:=(zw h.nib.lt).trans h.on
  ot:=(zw h.tur.lt).trans h.ot
  fl:=D.trans h.fl}
abbrev CaS.dev(a:CaS)(r:DRes):CaS:={a with dF:=r.F,dO:=r.O,dP:=r.P}
abbrev CaS.kB(a:CaS)(r:DRes):CaS:={a with bF:=r.F,bO:=r.O,bP:=r.P}
theorem YB(b:CaAt own w c n p a)(s:Nat)(j:s<a.dF.length)(x:Bk)(hx:x.length=64)(v:a.dO.length<65536):
  Calls prog 49 #[ptr p.ssd,.int .i64 (s:Int),.agg (bkC x).toArray] w (zt own w c n p (a.dev (writeR a.dF a.dO a.dP s x)) (.int .i64 (writeR a.dF a.dO a.dP s x).cd)):=
 (vO b.kP (fun _ b=> .inr b) s j x hx v).mono fun _ _ ⟨A,D,h⟩=>⟨A,_,b.kL h D (by rw[yo]),b.did2 h⟩
theorem wk(b:CaAt own w c n p a)(s:Nat)(j:s<a.bF.length)(x:Bk)(hx:x.length=64)(v:a.bO.length<65536):
  Calls prog 49 #[ptr p.back,.int .i64 (s:Int),.agg (bkC x).toArray] w (zt own w c n p (a.kB (writeR a.bF a.bO a.bP s x)) (.int .i64 (writeR a.bF a.bO a.bP s x).cd)):=
 (vO b.open3 (fun _ b=> .inr b) s j x hx v).mono fun _ _ ⟨A,D,h⟩=>⟨A,_,b.turn3 h D (by rw[yo]),b.did3 h⟩
def VR(own:Nat->Nat)(w:World)(c:Nat)(n:CaN)(p:CaP)(a:CaS)(y0:Bk)(cd0:Int)(e:Ending)(w':World):Prop:=
 ∃(y:Bk) (cd:Int),y=y0/\cd=cd0/\y.length=64/\e=.returned (.tuple #[.agg (bkC y).toArray,.int .i64 cd])/\∃own',CaAt own' w' c n p a/\Did own own' w w'
theorem qy(b:CaAt own w c n p a)(s:Nat)(j:s<a.dF.length):
  Calls prog 132 #[ptr p.ssd,.int .i64 (s:Int)] w (VR own w c n p {a with dP:=a.dP.tail} (if fate a.dP=1 then zB else curB a.dF a.dO s) (if fate a.dP=1 then 19 else 0)):=
 (ux b.kP (fun _ b=> .inr b) s j).mono fun _ _ ⟨y,v,A,hy,D,E,F,h⟩=>⟨y,v,hy,D,E,A,_,b.kL h F rfl,b.did2 h⟩
theorem YC(b:CaAt own w c n p a)(s:Nat)(j:s<a.bF.length):
  Calls prog 132 #[ptr p.back,.int .i64 (s:Int)] w (VR own w c n p {a with bP:=a.bP.tail} (if fate a.bP=1 then zB else curB a.bF a.bO s) (if fate a.bP=1 then 19 else 0)):=
 (ux b.open3 (fun _ b=> .inr b) s j).mono fun _ _ ⟨y,v,A,hy,D,E,F,h⟩=>⟨y,v,hy,D,E,A,_,b.turn3 h F rfl,b.did3 h⟩
theorem Wf(b:CaAt own w c n p a):Calls prog 311 #[ptr p.jr] w (zt own w c n p a (.int .i64 ((n.jo:Int)-((a.next:Int)-1-(a.cov:Int))))):=
 (zbN b.jr).mono fun _ _ ⟨j,h⟩=>⟨j,own,b.new h,b.ko h⟩
theorem YD(h:CaAt own w c n p a)(E:a.next<=a.cov+n.jo)(F:a.next<=1099511627776)(a0 a1 op j slot:Int)(v:Bool)(A:Int)(G:mayR (jaddX a.next n.jo op j slot v A)=true):
  Calls prog 322 #[ptr p.jr,.agg (recC a0 a1 op j slot v A).toArray] w (zt own w c n p {a with next:=a.next+1,W:=a.W++[(a.next,sectR (jaddX a.next n.jo op j slot v A))]} (.tuple #[.int .i64 (a.next:Int),.int .i64 0])):=
 (zgv h.open4 (fun _ h=> .inr h) h.nib (fun b=>by rcases b with b|b;rw[h.on]at b;exact absurd b de;exact absurd h.nib.lt oM) E F a0 a1 op j slot v A G).mono fun _ _ ⟨H,J,D⟩=>⟨H,_,h.turn4 D J,h.did4 D⟩
abbrev CaS.com(n:CaN)(a:CaS):DRes×List (Nat×Bk):=comR (1+2*n.pa) n.jo a.dF a.dO a.dP a.W
theorem Jl(base k:Nat)(F:List Bk)(O:List (Nat×Bk))(P:List Int)(W:List (Nat×Bk)):(comR base k F O P W).1.F.length=F.length:=by
 unfold comR
 repeat' split
 all_goals simp only[rW,Vy]
theorem QV(h:CaAt own w c n p a)(h1:∀q∈a.W,1<=q.1)(F:a.dO.length+a.W.length<=65536):
  Calls prog 179 #[ptr p.jr] w (zt own w c n p {a.dev (a.com n).1 with W:=(a.com n).2} (.int .i64 (a.com n).1.cd)):=by
 obtain⟨O,v,A⟩:=h.jr;have G:=h.fl;have Q:=h.ok.z;unfold CaN.size at G;refine(AQ v h1 h.kP (fun _ h=> .inr h) ?_ oM F).mono ?_
 .intro k b j;have H:=A k b;rcases j with j|j
  .rw [H]at j;exact absurd j de
  .have:=v.slt k b;omega
 .rintro e w' ⟨rfl,J,⟨L,M,D⟩,E⟩;have N:=h.jrOwn.1;refine⟨rfl,_,h.turn24 E J (Jl _ _ _ _ _ _) ⟨L,M,?_⟩,Did.step2 h.far de de de de N E⟩;rintro k (rfl|b)
  .exact ⟨A _ (.inl rfl),zd v.str⟩
  .rcases D with rfl|D
   .exact ⟨A _ (.inr b),v.slt k (.inr b)⟩
   .rw [D]at b;cases b
end
theorem zan(ps:List (Int×Bool))(b:Nat)(k s:Int)(d:Bool):(xy ps b k s d).length=ps.length:=by unfold xy;split<;>simp
theorem Jm(ps:List (Int×Bool))(k:Int):(dropL ps k).length=ps.length:=by unfold dropL;split<;>simp
theorem QW(ps:List (Int×Bool))(k:Int):(cleanL ps k).length=ps.length:=by unfold cleanL;split<;>simp
theorem Wg(l:List Int)(s t:Int):(turnList l s t).length=l.length:=by unfold turnList;split<;>simp
section
variable{own:Nat->Nat}{w w':World}{c:Nat}{n:CaN}{p:CaP}{a:CaS}
theorem YE(b:CaAt own w c n p a)(k:Int):
  Calls prog 173 #[ptr p.ix,.int .i64 k] w (zt own w c n p a (.tuple #[zO (getV a.ps k).1 (getV a.ps k).2,.int .i64 (getC a.ps k)])):=by
 obtain⟨A,D,j,-,-⟩:=b.ix;exact(tj j k).mono fun _ _ ⟨v,h⟩=>⟨v,own,b.new (uuo h),b.ko (uuo h)⟩
theorem Jo(b:CaAt own w c n p a)(k s:Int)(d:Bool)(v:a.iN<maxLen):
  Calls prog 213 #[ptr p.ix,.int .i64 k,zO s d] w (zt own w c n p {a with iN:=a.iN+1,ps:=xy a.ps n.sl k s d} (.tuple #[zO (ti a.ps n.sl k s).1 (ti a.ps n.sl k s).2,.int .i64 (putC a.ps n.sl k s)])):=by
 obtain⟨A,D,E,F,h⟩:=b.open5;exact(AY E k s d v).mono fun _ _ ⟨G,H,J⟩=>
  have j:=J.mono (fun L _ M=>h L M)
  ⟨G,_,b.turn5 j ⟨A,D,H,F,h⟩ (zan _ _ _ _ _),b.did5 j⟩
theorem zao(b:CaAt own w c n p a)(k:Int):
  Calls prog 388 #[ptr p.ix,.int .i64 k] w (zt own w c n p {a with ps:=dropL a.ps k} (.tuple #[zO (getV a.ps k).1 (getV a.ps k).2,.int .i64 (getC a.ps k)])):=by
 obtain⟨v,A,D,E,h⟩:=b.open5;exact(SR D k).mono fun _ _ ⟨F,G,H⟩=>
  have j:=H.mono (fun J _ L=>h J L)
  ⟨F,_,b.turn5 j ⟨v,A,G,E,h⟩ (Jm _ _),b.did5 j⟩
theorem Jp(b:CaAt own w c n p a)(k:Int):
  Calls prog 323 #[ptr p.ix,.int .i64 k] w (zt own w c n p {a with ps:=cleanL a.ps k} (.int .i64 (getC a.ps k))):=by
 obtain⟨v,A,D,E,h⟩:=b.open5;exact(QL D k).mono fun _ _ ⟨F,G,H⟩=>
  have j:=H.mono (fun J _ L=>h J L)
  ⟨F,_,b.turn5 j ⟨v,A,G,E,h⟩ (QW _ _),b.did5 j⟩
theorem xj(b:CaAt own w c n p a)(s t:Int):
  Calls prog 214 #[ptr p.ss,.int .i64 s,.int .i64 t] w (zt own w c n p {a with st:=turnList a.st s t} (.int .i64 (turnCode a.st s t))):=by
 obtain⟨v,A,D,h⟩:=b.open6;exact(Xz A b.tur s t).mono fun _ _ ⟨E,F,G⟩=>
  have j:=G.mono (fun H _ J=>h H J)
  ⟨E,_,b.turn6 j ⟨v,F,D,h⟩ (Wg _ _ _),b.did6 j⟩
theorem Tj(b:CaAt own w c n p a)(k:Int)(j:InR k)(v:a.kN<maxLen):
  Calls prog 216 #[ptr p.ck,.int .i64 k] w (zt own w c n p {a with kN:=a.kN+1,K:=Zj n.sl a.K k,A:=Qy n.sl a.K a.A a.H k,H:=Qz n.sl a.K a.H k} (.int .i64 (addC n.sl a.K k))):=
 (Su b.open8 (fun _ b=> .inr b) k j v).mono fun _ _ ⟨D,E,h⟩=>⟨D,_,b.turn8 h E,b.did8 h⟩
theorem Jq(b:CaAt own w c n p a)(k:Int):
  Calls prog 313 #[ptr p.ck,.int .i64 k] w (zt own w c n p {a with K:=a.K.erase k,A:=dropA a.K a.A k} (.int .i64 (touchC a.K k))):=
 (QA b.open8 k).mono fun _ _ ⟨j,v,h⟩=>⟨j,_,b.turn8 h v,b.did8 h⟩
theorem QX(b:CaAt own w c n p a)(k:Int)(j:a.kN<maxLen):
  Calls prog 387 #[ptr p.ck,.int .i64 k] w (zt own w c n p {a with kN:=a.kN+1,A:=agA a.A a.K k} (.int .i64 (touchC a.K k))):=
 (QB b.open8 k j).mono fun _ _ ⟨v,D,h⟩=>⟨v,_,b.turn8 h D,b.did8 h⟩
theorem Tk(h:CaAt own w c n p a){N:Nat}{f:Int->Option Nat}(A:MapAt w' p.sm N f)(hu:Upd (fun b=>b=p.sm) w w'):∃j,CaAt j w' c n p {a with mN:=N,sums:=f}/\Did own j w w':=by
 have v:Upd (fun b=>own b=9\/w.heap.size<=b) w w':=hu.mono (fun b _ e=> .inl (e▸h.sm.2));exact⟨_,h.turn9 v ⟨A,.inl h.sm.2⟩,h.did9 v⟩
theorem Wh(h:CaAt own w c n p a)(h1: -9223372036854775808<=x)(h2:x<9223372036854775808)(y:Nat)(hy:y<9223372036854775808)(j:a.mN<maxLen):
  ∃w' b,(Instr.mapUpdate 168 (.map (some p.sm)) (.int .i64 x) (.int .i64 (y:Int))).run prog w=.ok () w'/\CaAt b w' c n p {a with mN:=a.mN+1,sums:=yP a.sums x (some y)}/\Did own b w w':=by
 obtain⟨w',v,A,D,-⟩:=h.sm.1.store h1 h2 y hy j;obtain⟨b,E,F⟩:=Tk h A D;exact⟨w',b,v,E,F⟩
theorem zcR(h:CaAt own w c n p a)(h1: -9223372036854775808<=x)(h2:x<9223372036854775808)(j:TypeId):
  ∃w' b,(Builtin.delete_ #[168,3] j #[.map (some p.sm),.int .i64 x]).run prog w=.ok (.tuple #[]) w'/\CaAt b w' c n p {a with sums:=yP a.sums x none}/\Did own b w w':=by
 obtain⟨w',v,A,D,-⟩:=h.sm.1.drop h1 h2 j;obtain⟨b,E,F⟩:=Tk h A D;exact⟨w',b,v,E,F⟩
end
def cleanB(ps:List (Int×Bool))(k:Int):Bool:=getC ps k==0&&!(getV ps k).2
theorem sD{n:CaN}{a:CaS}(h:CaAt own w c n p a)(k:Int):
  Calls prog 425 #[ptr c,.int .i64 k] w fun e w'=>e=.returned (.bool (cleanB a.ps k))/\Below w.heap.size w w':=by
 obtain⟨H,J,j,-,-⟩:=h.ix;obtain⟨-,-,-,-,L,-,-,-,-⟩:=h.cells;have E:=qqh (tj j k);clear j h;unfold cleanB;generalize getV a.ps k=F at*;generalize getC a.ps k=v at*;obtain⟨s,M⟩:=F;go_enter func425,ntmps425
 go_wp2_with fail
 refine E.o.mono ?_;rintro e w1 ⟨rfl,A⟩;have b:=qqh A;clear A;by_cases D:v=0
 .subst D;go_wp2
  go_ret
  exact⟨oe,b.o.alloc b.o.size _⟩
 .have G:(v==0)=false:=by simpa using D
  go_wp2
  go_ret
  exact⟨by simp[G],b.o.alloc b.o.size _⟩
def zcS(own:Nat->Nat)(w:World)(c:Nat)(n:CaN)(p:CaP)(a:CaS)(e:Ending)(w':World):Prop:=
 ∃key code K' A' H',e=.returned (.tuple #[.int .i64 key,.int .i64 code])/\EvG.EvOut (cleanB a.ps) n.sl a.K a.A a.H key code K' A' H'/\∃own',CaAt own' w' c n p {a with K:=K',A:=A',H:=H'}/\Did own own' w w'
section
variable{own:Nat->Nat}{w w':World}{c:Nat}{n:CaN}{p:CaP}{a:CaS}
theorem Jr(b:CaAt own w c n p a):EvG.MayIs (ptr c) (cleanB a.ps) w:=fun _ k _ h=>sD (b.new h) k
theorem QY(b:CaAt own w c n p a):Calls prog 424 #[ptr p.ck,EvG.mayV (ptr c)] w (zcS own w c n p a):=
 (EvG.evict_ck b.open8 (fun _ b=> .inr b) (ptr c) (cleanB a.ps) (Jr b)).mono fun _ _ ⟨j,v,A,D,E,F,G,H,h⟩=>⟨j,v,A,D,E,F,G,_,b.turn8 h H,b.did8 h⟩
end
abbrev CaS.noted(n:CaN)(a:CaS)(op block slot:Int)(d:Bool)(sum:Int):CaS:={a with next:=a.next+1,W:=a.W++[(a.next,sectR (jaddX a.next n.jo op block slot d sum))]}
abbrev CaS.left(n:CaN)(a:CaS)(k:Int):CaS:={a.noted n 1 k 0 false 0 with ps:=dropL a.ps k,sums:=yP a.sums k none,st:=turnList a.st (getV a.ps k).1 3}
theorem Wi{n:CaN}{a:CaS}(h:CaAt own w c n p a)(k:Int)(b:getC a.ps k=0)(Q:a.next<=a.cov+n.jo)(T:a.next<=1099511627776)(U:mayR (jaddX a.next n.jo 1 k 0 false 0)=true):
  Calls prog 312 #[ptr c,.int .i64 k] w (zt own w c n p (a.left n k) (.int .i64 (turnCode a.st (getV a.ps k).1 3))):=by
 have ae:0<=k/\k<4096:=by
  have h1:=h.pl;have h2:=h.ok.b2;unfold getC at b;split at b
  .cases b
  .omega
 obtain⟨ax,ay⟩:=ae;have V:=qqh (YD h Q T 0 0 1 k 0 false 0 U);obtain⟨-,-,-,af,ag,-,-,-,-⟩:=h.cells;have ah:=Y2 h b;clear h b Q T U;go_enter func312,ntmps312
 go_wp2_with fail
 refine V.o.mono ?_;rintro e w1 ⟨rfl,az,h1,W⟩;have X:=qqh (zao h1 k);obtain⟨-,-,-,-,aA,-,-,-,-⟩:=h1.cells;have ai:=qqh W;clear h1 W V af ag;go_wp2_with fail
 refine X.o.mono ?_;rintro e j ⟨rfl,aj,h2,Y⟩;have b:=ah.o.2;obtain⟨s,v⟩:=qqe ((getV a.ps k).1);obtain⟨Z,a6⟩:=qqe ((getV a.ps k).2);rw[b];have F:Upd (fun _=>False) j (j.alloc (.cells #[.int .i64 s,.bool Z] 256)):=(uur _ _).alloc _;have G:=h2.new F;have a7:(j.alloc (.cells #[.int .i64 s,.bool Z] 256)).cell? ⟨j.heap.size,0,none⟩=some (.int .i64 s):=za (zc j _ rfl) 0;have H:aj j.heap.size=0:=h2.far _ (qXp _);have a8:=(ai.o.trans Y).trans (h2.ko F);rw[<-v,<-a6];obtain⟨aa,ak,aB,J,E⟩:=zcR G (x:=k) oM oM 0;obtain⟨-,-,-,-,-,-,-,-,aC⟩:=G.cells;obtain⟨-,-,-,-,-,am,-,-,-⟩:=J.cells;have L:=E.upd.j3 a7 (fun h=>h.1 H);obtain⟨m,A⟩:=qqe (j.heap.size);have an:Hid (ak m=0):=(E.old m (by rw[A];simp)).trans (by rw[A];exact H);have M:=Y3 J (a8.trans E) v;have ao:=qqh A;rw[<-A]at L;clear F G a7 H a8 J E h2 Y X b v a6 A;go_upto_region 8 with fail
 rw[<-ao.o];refine qZc (S:=fun ab=>ab.cell? ⟨c,19,none⟩=some (ptr p.ss)/\ab.cell? ⟨m,0,none⟩=some (.int .i64 s)) kR (by(simp only[qYi]);exact⟨am,L⟩) (fun ap=>?_);refine Wl.i [0,1,2,3,4,5] ?_;iterate 6 refine Wl.t ap ?_
 refine Wl.o ?_;refine Wl.r 6 (fun K D=>?_);go_simp
 have aq:=qqh (xj (M.o.1.new ((uur (fun _=>False) aa).drew)) s 3);refine aq.o.mono ?_;rintro e aD ⟨rfl,ar,N,O⟩;obtain⟨-,-,-,-,-,au,-,-,-⟩:=N.cells;have av:=O.upd.j3 (show aa.drew.cell? ⟨m,0,none⟩=some (.int .i64 s) by rw[qYi];exact L) (fun h=>h.1 an.o);have ad:=Y2 N O;clear N O;refine D.o _ _ (⟨au,av⟩) (fun aw=>?_);clear D K;refine Wl.r 7 (fun K D=>?_);go_simp
 refine D.o _ _ (aw) (fun aE=>?_);clear D K;refine Wl.d ?_;go_wp2
 go_ret
 have v:=M.o.2.2;subst v;exact⟨rfl,ar,ad.o.1,(M.o.2.1.drew).trans ad.o.2⟩
abbrev CaS.kK(n:CaN)(a:CaS)(k:Int):CaS:={a.left n k with K:=a.K.erase k,A:=dropA a.K a.A k}
theorem Wj{n:CaN}{a:CaS}(b:CaAt own w c n p a)(k:Int)(D:getC a.ps k≠0):
  Calls prog 244 #[ptr c,.int .i64 k] w (zt own w c n p a (.int .i64 0)):=by
 have j:=qqh (YE b k);obtain⟨-,-,-,-,E,-,-,-,-⟩:=b.cells;clear b;have J:(getC a.ps k==0)=false:=by simpa using D
 go_enter func244,ntmps244
 go_wp2_with fail
 refine j.o.mono ?_;rintro e w1 ⟨rfl,F,h1,v⟩;have h:=Y2 h1 v;clear h1 v j E;generalize getV a.ps k=G at*;generalize getC a.ps k=L at*;obtain⟨s,H⟩:=G;go_wp2
 go_ret
 have A:=(uur (fun _=>False) w1).alloc (.cells #[.int .i64 s,.bool H] 256);exact⟨rfl,F,h.o.1.new A,h.o.2.trans (h.o.1.ko A)⟩
theorem YF{n:CaN}{a:CaS}(j:CaAt own w c n p a)(k:Int)(v:getC a.ps k=0)(F:a.next<=a.cov+n.jo)(G:a.next<=1099511627776)(H:mayR (jaddX a.next n.jo 1 k 0 false 0)=true)
  (J:turnCode a.st (getV a.ps k).1 3=0):
  Calls prog 244 #[ptr c,.int .i64 k] w (zt own w c n p (a.kK n k) (.int .i64 (touchC a.K k))):=by
 have A:=qqh (YE j k);obtain⟨-,-,-,-,W,-,-,-,-⟩:=j.cells;have b:=Y5 v F G H J;rw[v]at A;clear j v F G H J;go_enter func244,ntmps244
 go_wp2_with fail
 refine A.o.mono ?_;rintro e w1 ⟨rfl,a8,h1,L⟩;obtain⟨s,M⟩:=qqe ((getV a.ps k).1);obtain⟨N,O⟩:=qqe ((getV a.ps k).2);have h:=(uur (fun _=>False) w1).alloc (.cells #[.int .i64 s,.bool N] 256);obtain⟨aa,D⟩:=qqe (w1.alloc (.cells #[.int .i64 s,.bool N] 256));rw[<-D]at h;have h2:=h1.new h;have X:=qqh (L.trans (h1.ko h));have P:=qqh (Wi h2 k b.o.1 b.o.2.1 b.o.2.2.1 b.o.2.2.2.1);have Y:=qqh D;rw[<-M,<-O];clear h1 L A W h h2 M O D;go_wp2_with fail
 rw[<-Y.o];refine P.o.mono ?_;rw[b.o.2.2.2.2];rintro e ab ⟨rfl,ad,E,Q⟩;obtain⟨-,-,-,-,-,-,-,Z,-⟩:=E.cells;have S:=qqh (Jq E k);have a6:=qqh (X.o.trans Q);clear E Q P;go_wp2_with fail
 refine S.o.mono ?_;rintro e ae ⟨rfl,a7,T,U⟩;have V:=Y2 T U;clear T U Z S;go_wp2
 go_ret
 exact⟨rfl,a7,V.o.1,a6.o.trans V.o.2⟩
theorem YG(l:List Int):(allocList l).length=l.length:=by simp[allocList]
section
variable{own:Nat->Nat}{w w':World}{c:Nat}{n:CaN}{p:CaP}{a:CaS}
theorem Js(b:CaAt own w c n p a):
  Calls prog 384 #[ptr p.ss] w (zt own w c n p {a with st:=allocList a.st} (.tuple #[.int .i64 (allocVal a.st),.int .i64 (allocCode a.st)])):=by
 obtain⟨v,A,D,h⟩:=b.open6;exact(Qm A).mono fun _ _ ⟨E,F,G⟩=>
  have j:=G.mono (fun H _ J=>h H J)
  ⟨E,_,b.turn6 j ⟨v,F,D,h⟩ (YG _),b.did6 j⟩
theorem sE(b:CaAt own w c n p a)(h:Int):
  Calls prog 385 #[ptr p.ss,.int .i64 h] w (zt own w c n p a (.int .i64 (pos a.st h).length)):=by
 obtain⟨D,v,-,-⟩:=b.ss;exact(Qq v h (by rw[b.sl];exact b.ok.s1)).mono fun _ _ ⟨A,j⟩=>⟨A,own,b.new (uuo j),b.ko (uuo j)⟩
end
def CaS.fb(a:CaS):CaS:=a.kB (flushR a.bF a.bO a.bP)
def CaS.cm(n:CaN)(a:CaS):CaS:={a.dev (a.com n).1 with W:=(a.com n).2}
def CaS.j9(n:CaN)(a:CaS):CaS×Int:=
 if(flushR a.bF a.bO a.bP).cd≠0 then(a.fb,(flushR a.bF a.bO a.bP).cd)else if(a.fb.com n).1.cd≠0 then(a.fb.cm n,(a.fb.com n).1.cd)else({a.fb.cm n with st:=freeTo a.st (pos a.st 3)},0)
theorem wU{n:CaN}{a:CaS}(h:CaAt own w c n p a)(h1:∀q∈a.W,1<=q.1)(G:a.dO.length+a.W.length<=65536):
  Calls prog 109 #[ptr c] w (zt own w c n p (a.j9 n).1 (.int .i64 (a.j9 n).2)):=by
 have H:=qqh (xi h);obtain⟨-,T,-,-,-,-,-,-,-⟩:=h.cells;have J:=Y2 h1 G;clear h h1 G;go_enter func109,ntmps109
 go_wp2_with fail
 refine H.o.mono ?_;rintro e w1 ⟨rfl,L,h1,j⟩;have b:a.j9 n=a.j9 n:=rfl
 conv at b=>rhs;unfold CaS.j9
 generalize U:(flushR a.bF a.bO a.bP).cd=M at*;replace h1:CaAt L w1 c n p a.fb:=h1;obtain⟨-,-,-,V,-,-,-,-,-⟩:=h1.cells;have X:=qqh (QV h1 J.o.1 J.o.2);have N:=Y3 h1 j b;clear h1 j b H T U;by_cases A:M=0
 .have aa:=qqh A;subst A;go_wp2_with fail
  refine X.o.mono ?_;rintro e Y ⟨rfl,O,h2,v⟩;obtain⟨h1,j,b⟩:=N.o;rw[if_neg oe]at b;generalize (a.fb.com n).1.cd=Q at*;replace h2:CaAt O Y c n p (a.fb.cm n):=h2;have Z:=qqh (Tc h2);have S:=Y3 h2 (j.trans v) b;clear h1 j b h2 v V;by_cases F:Q=0
  .subst F;go_wp2_with fail
   refine Z.o.mono ?_;rintro e ab ⟨rfl,a6,D,E⟩;obtain⟨h2,v,b⟩:=S.o;rw[if_neg oe]at b;have a7:=Y3 D (v.trans E) b;clear h2 v b D E;go_wp2
   go_ret
   obtain⟨D,E,b⟩:=a7.o;rw[b];exact⟨rfl,a6,D,E⟩
  .have a8:(Q==0)=false:=by simpa using F
   go_wp2
   go_ret
   obtain⟨h2,v,b⟩:=S.o;rw[if_pos F]at b;rw[b];exact⟨rfl,O,h2,v⟩
 .have a8:(M==0)=false:=by simpa using A
  go_wp2
  go_ret
  obtain⟨h1,j,b⟩:=N.o;rw[if_pos A]at b;rw[b];exact⟨rfl,L,h1,j⟩
theorem Wk{n:CaN}{a:CaS}(h:CaAt own w c n p a)(A:a.next+1<=a.cov+n.jo):
  Calls prog 243 #[ptr c] w (zt own w c n p a (.int .i64 0)):=by
 have b:=qqh (Wf h);obtain⟨-,-,-,D,-,-,-,-,-⟩:=h.cells;have F:decide ((n.jo:Int)-((a.next:Int)-1-(a.cov:Int))>=2)=true:=by simp;omega
 have q1:(2:Int)<=(n.jo:Int)-((a.next:Int)-1-(a.cov:Int)):=oM;clear h A;go_enter func243,ntmps243
 go_wp2_with fail
 refine b.o.mono ?_;rintro e w1 ⟨rfl,E,h1,j⟩;have v:=Y2 h1 j;clear h1 j b D;generalize (n.jo:Int)-((a.next:Int)-1-(a.cov:Int))=r at*;go_wp2
 go_ret
 exact⟨rfl,E,v.o.1,v.o.2⟩
def CaN.kx(n:CaN):Nat:=1+2*n.pa+n.jo+n.lo+n.lo+n.lo
def CaS.ku(n:CaN)(a:CaS)(s:Nat)(blk:Int)(x:Bk):CaS×Int:=
 if(writeR a.dF a.dO a.dP (n.kx+s) x).cd=0 then({a with G:=Zh a.G s blk}.dev (writeR a.dF a.dO a.dP (n.kx+s) x),0)
 else({{a with G:=Zh a.G s blk}.dev (writeR a.dF a.dO a.dP (n.kx+s) x)with st:=turnList a.st s 4},(writeR a.dF a.dO a.dP (n.kx+s) x).cd)
theorem Tl{n:CaN}{a:CaS}(h:CaAt own w c n p a)(s:Nat)(aa:s<n.sl)(b:Int)(ab:b= -1\/(0<=b/\b<(n.bl:Int)))(x:Bk)(hx:x.length=64)(D:a.dO.length<65536):
  Calls prog 309 #[ptr c,.int .i64 (s:Int),.int .i64 b,.agg (bkC x).toArray] w (zt own w c n p (a.ku n s b x).1 (.int .i64 (a.ku n s b x).2)):=by
 obtain⟨w1,E⟩:=qqe (w.alloc (.cells (bkC x).toArray 60));have U:=qqu E;have j:=qqg E;obtain⟨m,V⟩:=qqe (w.heap.size);have A:own m=0:=h.far _ oM;rw[<-V]at j;have h1:=h.new U;have ad:=qqh (Yv h1 s aa b ab);obtain⟨-,-,-,-,-,-,ae,-,-⟩:=h1.cells;have af:=h.fl;have av:=h.ok.z;have F:n.kx+s<a.dF.length:=by unfold CaN.size at af;unfold CaN.kx;omega
 have aw:n.kx+s<8192:=oM;obtain⟨L,v⟩:=qqe (n.kx+s);have aK:IntKind.i64.wrap ((n.kx:Int)+(s:Int))=(L:Int):=by rw[v,qxs];exact qxu _ oM
 have ax:Hid ((n.kx:Int)+(s:Int)=(L:Int)):=by show _=_;rw[v,qxs]
 have ay:=Y7 A (h.ko U) j F hx D v;have az:=qqh V;have aA:=qqh E;have ag:=ae;rw[E]at ag;have aB:=underlying60;have aC:=zu x hx;clear h ab hx D U j h1 af av F aw A V E ae aa;go_enter func309,ntmps309
 go_wp2_with fail
 rw[<-aA.o,<-az.o];refine ad.o.mono ?_;rintro e W ⟨rfl,aD,h2,M⟩;obtain⟨A,ah,j,F,hx,D,v⟩:=ay.o;obtain⟨ai,-,-,-,-,-,-,-,-⟩:=h2.cells;obtain⟨-,-,-,N⟩:=h2.lay;have N:W.cell? ⟨c,12,none⟩=some (.int .i64 (n.kx:Int)):=by rw[N];congr 2
 have X:=M.upd.range (zg j) (fun h=>h.1 A);have aj:aD m=0:=(M.old m (zd j)).trans A;have Y:=Y4 h2 (ah.trans M) aj v;have ak:=qqh (YB (h2.new ((uur (fun _=>False) W).drew)) L (by rw[v];exact F) x hx D);clear A ah j F hx D v h2 M aj ad ag;go_upto_region 2 with fail
 refine qZc (S:=fun Z=>Z.cell? ⟨c,14,none⟩=some (ptr p.ssd)/\Z.cell? ⟨c,12,none⟩=some (.int .i64 (n.kx:Int))/\Z.rangeAt m 0 (bkC x)) kR (by(simp only[qYi,qYk]);exact⟨ai,N,X⟩) (fun a6=>?_);refine Wl.i [0,1,2,3,4,5,6,7,8,9,10] ?_;iterate 11 refine Wl.t a6 ?_
 refine Wl.o ?_;refine Wl.l 11 (fun w h=>h.2.2) aB aC a6 ?_;refine Wl.r 12 (fun K G=>?_);go_simp
 rw[ax.out];refine ak.out.mono ?_;rintro e aE ⟨rfl,aF,H,a7⟩;obtain⟨am,-,-,-,-,aG,-,-,-⟩:=H.cells;obtain⟨-,-,-,O⟩:=H.lay;have O:aE.cell? ⟨c,12,none⟩=some (.int .i64 (n.kx:Int)):=by rw[O];congr 2
 have an:=a7.upd.range (show W.drew.rangeAt m 0 (bkC x) by rw[qYk];exact X) (fun h=>h.1 Y.o.2.2.1);have a8:=qqh (xj H s 4);have Q:=Y2 H ((Y.o.2.1.drew).trans a7);clear H a7;refine G.o _ _ (⟨am,O,an⟩) (fun ao=>?_);clear G K;refine Wl.r 13 (fun K G=>?_);go_simp
 refine G.o _ _ (ao) (fun aH=>?_);clear G K;refine Wl.d ?_;have T:a.ku n s b x=a.ku n s b x:=rfl
 conv at T=>rhs;unfold CaS.ku
 rw[<-Y.o.2.2.2]at T⊢;simp only at a8 Q⊢;generalize writeR a.dF a.dO a.dP L x=r at*;have ap:=qqh T;clear T a6 ao aH am O an X ai N ak;by_cases J:r.cd=0
 .have aI:=qqh J;rw[J];clear J;go_wp2
  go_ret
  rw[ap.out,if_pos aI.o];exact⟨rfl,aF,Q.o.1,Q.o.2⟩
 .have aL:(r.cd==0)=false:=by simpa using J
  go_wp2_with fail
  refine a8.o.mono ?_;rintro e aM ⟨rfl,aJ,aq,ar⟩;have au:=Y2 aq ar;clear aq ar aG a8;go_wp2
  go_ret
  rw[ap.out,if_neg J];exact⟨rfl,aJ,au.o.1,Q.o.2.trans au.o.2⟩
theorem run_eql_place(w:World)(a c:Int)(b d:Bool):(binOp .eql 256 (.agg #[.int .i64 a,.bool b]) (.agg #[.int .i64 c,.bool d])).run prog w=.ok (.bool (a==c&&b==d)) w:=by
 simp only[binOp];simp[show Op.equal 256 (.agg #[.int .i64 a,.bool b]) (.agg #[.int .i64 c,.bool d])=Op.equalIn (9998+1+1) 256 (.agg #[.int .i64 a,.bool b]) (.agg #[.int .i64 c,.bool d])from rfl,vt w 9998 a c b d]
def CaS.given(n:CaN)(a:CaS)(k:Int)(s sum:Nat)(d:Bool):CaS:={a.noted n 0 k s d sum with iN:=a.iN+1,ps:=xy a.ps n.sl k s d,st:=turnList a.st s 2,mN:=a.mN+1,sums:=yP a.sums k (some sum)}
def CaS.kz(n:CaN)(a:CaS)(k:Int)(s sum:Nat)(d:Bool):CaS×Int:=
 if(ti a.ps n.sl k s).1= -1/\(ti a.ps n.sl k s).2=false then({a.given n k s sum d with kN:=a.kN+1,K:=Zj n.sl a.K k,A:=Qy n.sl a.K a.A a.H k,H:=Qz n.sl a.K a.H k},addC n.sl a.K k)
 else({a.given n k s sum d with st:=turnList (turnList a.st s 2) (ti a.ps n.sl k s).1 3,kN:=a.kN+1,A:=agA a.A a.K k},touchC a.K k)
theorem Tm{n:CaN}{a:CaS}(h:CaAt own w c n p a)(k:Int)(s b:Nat)(d:Bool)(ak:a.next<=a.cov+n.jo)(am:a.next<=1099511627776)(an:mayR (jaddX a.next n.jo 0 k s d b)=true)
  (H:putC a.ps n.sl k s=0) (ao:a.iN<maxLen) (ap:b<9223372036854775808) (aq:a.mN<maxLen) (O:a.kN<maxLen):
  Calls prog 310 #[ptr c,.int .i64 k,.int .i64 (s:Int),.int .i64 (b:Int),.bool d] w (zt own w c n p (a.kz n k s b d).1 (.int .i64 (a.kz n k s b d).2)):=by
 obtain⟨w1,Q⟩:=qqe (w.alloc (.cells (recC 0 0 0 k s d b).toArray 307));have W:=qqu Q;have X:=qqg Q;obtain⟨m,Y⟩:=qqe (w.heap.size);have ar:own m=0:=h.far _ oM;rw[<-Y]at X;have h1:=h.new W;obtain⟨-,-,-,au,-,-,-,-,-⟩:=h1.cells;have Z:=zg X;have a6:=((uur (fun _=>False) w1).drew)
 have av:=qqh (YD (h1.new a6) ak am 0 0 0 k s d b an);have D:=Y6 ar ((h.ko W).trans (h1.ko a6)) H ao ap aq;have aU:=qqh Y;have aV:=qqh Q;have aw:0<=k/\k<4096:=by
  have b7:=h.pl;have b8:=h.ok.b2;unfold putC at H;split at H
  .cases H
  .omega
 have a7:=qqh aw;replace O:=qqh O;have ax:=underlying307;have ay:=infoThR;clear aw h ak am an H ao ap aq W X h1 ar Y Q a6;go_enter func310,ntmps310
 go_upto_region 2 with fail
 rw[<-aU.o,show w.alloc (.cells #[.int .i64 0,.int .i64 0,.int .i64 0,.int .i64 k,.int .i64 (s:Int),.bool d,.int .i64 (b:Int)] 307)=w1 from aV.o.symm];refine qZc (S:=fun E=>E.cell? ⟨c,17,none⟩=some (ptr p.jr)/\E.rangeAt m 0 (recC 0 0 0 k s d b)) kR (by(simp only[qYi,qYk]);exact⟨au,Z⟩) (fun a8=>?_);refine Wl.i [0,1,2,3] ?_;iterate 4 refine Wl.t a8 ?_
 refine Wl.o ?_;refine Wl.l 4 (fun w h=>h.2) ax ay a8 ?_;refine Wl.r 5 (fun K v=>?_);go_simp
 skip
 refine av.o.mono ?_;rintro e b9 ⟨rfl,ba,h2,aa⟩;obtain⟨-,-,-,az,aW,-,-,-,-⟩:=h2.cells;have aA:=aa.upd.range (show w1.drew.rangeAt m 0 (recC 0 0 0 k s d b) by rw[qYk];exact Z) (fun h=>h.1 D.o.1);have aB:=qqh (Jo h2 k s d D.o.2.2.2.1);have aX:=qqh (D.o.2.1.trans aa);clear h2 aa;refine v.o _ _ (⟨az,aA⟩) (fun ab=>?_);clear v K;refine Wl.i [6,7,8] ?_;iterate 3 refine Wl.t ab ?_
 refine Wl.o ?_;refine Wl.r 9 (fun K v=>?_);go_simp
 refine v.o _ _ (ab) (fun aC=>?_);clear v K;refine Wl.r 10 (fun K v=>?_);go_simp
 refine v.o _ _ (aC) (fun aY=>?_);clear v K;refine Wl.d ?_;have aZ:=D.o.2.2.1;clear a8 ab aC aY az Z aA au av ax ay;go_wp2_with fail
 refine aB.o.mono ?_;rw[aZ];rintro e T ⟨rfl,bb,U,aD⟩;obtain⟨ps,aE⟩:=qqe (ti a.ps n.sl k s);rw[<-aE];obtain⟨os,J⟩:=ps;have ad:Upd (fun _=>False) T (T.alloc (.cells #[.int .i64 os,.bool J] 256)):=(uur _ _).alloc _;have ae:=U.new ad;have aF:=qqh (xj ae s 2);obtain⟨-,-,-,-,-,b0,-,-,-⟩:=ae.cells;have aG:=Y2 ((aX.o.trans aD).trans (U.ko ad)) (U.far _ (qXp _));clear U aD ad ae aB aW;go_wp2_with fail
 refine aF.o.mono ?_;rintro e bc ⟨rfl,bd,af,ag⟩;obtain⟨F,aH,aI,ah,ai⟩:=Wh af (x:=k) (by have:=a7.o;omega) (by have:=a7.o;omega) b D.o.2.2.2.2.1 D.o.2.2.2.2.2;obtain⟨-,-,-,-,-,-,-,-,aJ⟩:=af.cells;obtain⟨-,-,-,-,-,aK,-,aL,-⟩:=ah.cells;have L:=(ag.trans ai).upd.range (zg (zc T (.cells #[.int .i64 os,.bool J] 256) rfl)) (fun h=>h.1 aG.o.2);have A:=Y2 ah (aG.o.1.trans (ag.trans ai));clear af ag ah ai aF b0;replace A:Hid (CaAt aH F c n p (a.given n k s b d)/\Did own aH w F):=A;have j:a.kz n k s b d=a.kz n k s b d:=rfl
 conv at j=>rhs;unfold CaS.kz
 rw[<-aE]at j;simp only at j;by_cases M:os= -1/\J=false
 .rw [if_pos M]at j;have aj:=qqh j;clear j;obtain⟨rfl,rfl⟩:=M;have aM:=qqh (Tj A.o.1 k (by have:=a7.o;unfold InR;omega) O.out);go_wp2_with (first
   |(refine qYz rfl _ _ rfl _ _ rfl _ _ L underlying256 rfl kR ?_)
   |fail)
  refine aM.o.mono ?_;rintro e b1 ⟨rfl,aN,G,N⟩;have V:=Y2 G (A.o.2.trans N);clear G N aM aK aL aJ aI L;go_wp2
  go_ret
  rw[aj.o];exact⟨rfl,aN,V.o.1,V.o.2⟩
 .rw [if_neg M]at j;have aj:=qqh j;clear j;have aO:(os== -1&&J==false)=false:=by
   rw[Bool.and_eq_false_iff];by_cases h1:os= -1
   .right;simpa using fun h2=>M ⟨h1,h2⟩
   .left;simpa using h1
  have b3:∀E:World,(binOp .eql 256 (.agg #[.int .i64 os,.bool J]) (.agg #[.int .i64 (-1),.bool false])).run prog E=.ok (.bool false) E:=by
   intro E;rw[run_eql_place,aO]
  have b4:F.cell? ⟨T.heap.size,0,none⟩=some (.int .i64 os):=L 0 _ rfl;clear aO M;go_wp2_with (first
   |(refine qYz rfl _ _ rfl _ _ rfl _ _ L underlying256 rfl kR ?_)
   |fail)
  clear L b3 aI aJ;have aP:=qqh (xj (A.o.1.new ((uur (fun _=>False) F).drew)) os 3);replace A:=qqh A.o.2.drew
  go_still_tail 6,kR
  change wpList _ _ _ _ _ F.drew
  generalize F.drew=be at*;go_wp2_with fail
  refine aP.o.mono ?_;rintro e b1 ⟨rfl,aN,G,N⟩;obtain⟨-,-,-,-,-,-,-,b5,-⟩:=G.cells;have aQ:=qqh (QX G k O.out);have V:=qqh (A.o.trans N);clear G N aP aK aL b4;go_wp2_with fail
  refine aQ.o.mono ?_;rintro e bf ⟨rfl,b6,aR,aS⟩;have aT:=Y2 aR (V.o.trans aS);clear aR aS aQ b5;go_wp2
  go_ret
  rw[aj.o];exact⟨rfl,b6,aT.o.1,aT.o.2⟩
structure EI where
 b:Int
 s:Int
 d:Bool
 x:Int
def EI.cs(e:EI):List Value:=[.int .i64 e.b,.int .i64 e.s,.bool e.d,.int .i64 e.x]
def EI.enc(e:EI):Value:=.agg e.cs.toArray
theorem EI.enc_inj(x y:EI)(b:x.enc=y.enc):x=y:=by
 obtain⟨a,h,c,d⟩:=x;obtain⟨j,v,A,D⟩:=y;simp only[EI.enc,EI.cs,Value.agg.injEq]at b;obtain⟨rfl,rfl,rfl,rfl⟩:=b;rfl
theorem EI.one(e:EI):∀b∈e.cs,b.oneCell'=true:=by
 intro b h;simp only[EI.cs,qzn,qzz,qYu]at h;rcases h with rfl|rfl|rfl|rfl<;>rfl
def EI.zero:EI:=⟨0,0,false,0⟩
def Ar(x:Int):Prop:= -9223372036854775808<=x/\x<9223372036854775808
def apPut(f:Int->Option EI)(e:EI):Int->Option EI:=fun s=>if s=e.b then some e else f s
def apM(l:List EI):Int->Option EI:=l.foldl apPut (fun _=>none)
theorem Jt(l:List EI)(e:EI):apM (l++[e])=apPut (apM l) e:=by simp[apM,List.foldl_append]
theorem Ju(l:List EI){k:Nat}(b:k<l.length):apM (l.take (k+1))=apPut (apM (l.take k)) l[k]:=by
 rw[qXl b,Jt]
def AtB(f:Int->Option EI):Prop:=∀s e,f s=some e->e.b=s
theorem Jv(l:List EI):∀f,AtB f->AtB (l.foldl apPut f)/\∀s,((l.foldl apPut f) s).isSome=true↔s∈l.map EI.b\/(f s).isSome=true:=by
 induction l with
 |nil=>intro f h;exact⟨h,fun s=>oe⟩
 |cons e l A=>
  intro f h;have D:AtB (apPut f e):=by
   intro s E j;unfold apPut at j;split at j
   .rename_i v;cases j;exact v.symm
   .exact h s E j
  refine⟨(A _ D).1,fun s=>?_⟩;rw[List.foldl_cons,(A _ D).2 s,qzi,qzn];unfold apPut;by_cases v:s=e.b
  .simp [v]
  .simp [v]
theorem zcT(l:List EI):AtB (apM l):=(Jv l _ (fun s e h=>by cases h)).1
theorem Wm(l:List EI)(s:Int):(apM l s).isSome=true↔s∈l.map EI.b:=by
 have:=(Jv l (fun _=>none) (fun s e h=>by cases h)).2 s;simpa[apM]using this
theorem VS{l:List EI}{k:Nat}(v:k<l.length)(A:((l.take k).map EI.b).Nodup)(h:(apM (l.take k) l[k].b).isSome=false):((l.take (k+1)).map EI.b).Nodup:=by
 rw[qXl v,qzh,qzw];refine⟨A,oe,fun a b D j e=>?_⟩;simp only[qzi,qzk,qzu]at j;subst j;rw[e]at b;have:=(Wm _ _).2 b;rw[h]at this;cases this
theorem QZ{l:List EI}{k:Nat}(j:k<l.length)(v:(apM (l.take k) l[k].b).isSome=true):¬(l.map EI.b).Nodup:=by
 intro h;have h1:=(Wm _ _).1 v;rw[<-qXj k l,qzh,qzw]at h;exact h.2.2 _ h1 _ (List.mem_map_of_mem (by rw[qya j];exact qzp)) rfl
def recE(r:List Int):EI:=⟨r.getD 3 0,r.getD 4 0,r.getD 5 0==1,r.getD 6 0⟩
def apR(f:Int->Option EI)(r:List Int):Int->Option EI:=fun s=>if s=r.getD 3 0 then(if r.getD 2 0=0 then some (recE r)else none)else f s
def apRs(f:Int->Option EI)(rs:List (List Int)):Int->Option EI:=rs.foldl apR f
theorem Ra(f:Int->Option EI)(rs:List (List Int)){k:Nat}(b:k<rs.length):apRs f (rs.take (k+1))=apR (apRs f (rs.take k)) rs[k]:=by
 rw[qXl b];unfold apRs;rw[List.foldl_append];rfl
theorem zap(rs:List (List Int)):∀f,AtB f->AtB (apRs f rs):=by
 induction rs with
 |nil=>intro f h;exact h
 |cons r rs j=>
  intro f h;refine j _ (fun s e b=>?_);unfold apR at b;split at b
  .rename_i v
   split at b
   .cases b;exact v.symm
   .cases b
  .exact h s e b
theorem zaq{p:EI->Prop}(l:List EI):∀f,(∀s e,f s=some e->p e)->(∀e∈l,p e)->∀s e,(l.foldl apPut f) s=some e->p e:=by
 induction l with
 |nil=>intro f h _;exact h
 |cons x l v=>
  intro f h j;refine v _ (fun s e b=>?_) (fun e b=>j e (qzo _ b));unfold apPut at b;split at b
  .cases b;exact j _ qzp
  .exact h s e b
theorem Jw{p:EI->Prop}{l:List EI}{rs:List (List Int)}(v:∀e∈l,p e)(j:∀r∈rs,p (recE r)):∀s e,apRs (apM l) rs s=some e->p e:=by
 have:∀(rs:List (List Int)) f,(∀s e,f s=some e->p e)->(∀r∈rs,p (recE r))->∀s e,apRs f rs s=some e->p e:=by
  intro rs
  induction rs with
  |nil=>intro f h _;exact h
  |cons r rs A=>
   intro f h j;refine A _ (fun s e b=>?_) (fun r D=>j r (qzo _ D));unfold apR at b;split at b
   .split at b
    .cases b;exact j _ qzp
    .cases b
   .exact h s e b
 exact this rs _ (zaq l _ (fun s e h=>by cases h) v) j
def Lists(f:Int->Option EI)(L:List EI):Prop:=(L.map EI.b).Nodup/\∀e,e∈L↔f e.b=some e
def cntS(L:List EI)(s:Int):Nat:=L.countP (fun e=>e.s==s)
def takenF(L:List EI):Int->Option Int:=fun s=>if cntS L s=0 then none else some (cntS L s:Int)
theorem Wn(L:List EI)(e:EI):takenF (L++[e])=fun s=>if s=e.s then some ((cntS L e.s:Int)+1)else takenF L s:=by
 funext s
 unfold takenF cntS;rw[List.countP_append];by_cases b:s=e.s
 .subst b;simp
 .have h:(e.s==s)=false:=by simp;exact fun e=>b e.symm
  simp[b,h]
theorem Wo(L:List EI)(s:Int):cntS L s=0↔s∉L.map EI.s:=by
 unfold cntS;rw[List.countP_eq_zero];simp only[qzr,not_exists,not_and,beq_iff_eq]
theorem zar(L:List EI)(s:Int):cntS L s<=L.length:=List.countP_le_length
theorem Wp(L:List EI)(s:Int):(takenF L s).getD 0=(cntS L s:Int):=by
 unfold takenF;split
 .rename_i h;rw[h];rfl
 .rfl
theorem qC(L:List EI)(s:Int):(takenF L s).isSome=true↔s∈L.map EI.s:=by
 unfold takenF;by_cases h:cntS L s=0
 .rw [if_pos h];exact⟨fun b=>(by cases b),fun b=>absurd b ((Wo L s).1 h)⟩
 .rw [if_neg h];exact⟨fun _=>Classical.byContradiction fun b=>h ((Wo L s).2 b),fun _=>rfl⟩
theorem VT{F:Int->Option EI}{L:List EI}{left:Int->Bool}{b:EI}(j:F x=some b)(v:b.b=x)(A:left x=true)(G:(L.map EI.b).Nodup)(D:∀e,e∈L↔F e.b=some e/\left e.b=false):
  ((L++[b]).map EI.b).Nodup/\∀e,e∈L++[b]↔F e.b=some e/\(left e.b&&!decide (e.b=x))=false:=by
 refine⟨?_,fun e=>?_⟩
 .rw [qzh,qzw];refine⟨G,oe,fun a H N E J=>?_⟩;simp only[qzi,qzk,qzu]at E;obtain⟨e,M,rfl⟩:=qzr.1 H;have:=((D e).1 M).2;rw[J,E,v,A]at this;cases this
 .rw [qzm,qzu,D e];by_cases h:e.b=x
  .rw [qYs h,h];constructor
   .rintro (⟨-,h2⟩|rfl)
    .rw [A]at h2;cases h2
    .exact ⟨j,oe⟩
   .rintro ⟨h1,-⟩;rw[j]at h1;exact .inr (qYd h1).symm
  .rw [decide_eq_false h];constructor
   .rintro (h2|rfl)
    .simpa using h2
    .exact absurd v h
   .intro h2;exact .inl (by simpa using h2)
theorem Jy{L:List EI}(b:EI)(h1:c<=L.length)(h2:c=L.length↔(L.map EI.s).Nodup):
  (if(takenF L b.s).isSome=true then c else c+1)<=(L++[b]).length/\((if(takenF L b.s).isSome=true then c else c+1)=(L++[b]).length↔((L++[b]).map EI.s).Nodup):=by
 rw[qyz,qzh,qzw];simp only[qza,qzd];by_cases h:(takenF L b.s).isSome=true
 .rw [if_pos h];refine⟨oM,fun e=>oM,fun e=>?_⟩;exact absurd rfl (e.2.2 _ ((qC L b.s).1 h) b.s oe)
 .rw [if_neg h];refine⟨oM,fun e=>⟨h2.1 oM,oe,fun a j D v A=>?_⟩,fun e=>by have:=h2.2 e.1;omega⟩;simp only[qzi,qzk,qzu]at v;rw[A,v]at j;exact h ((qC L b.s).2 j)
theorem Rb{L h:List EI}(v:h.Perm L)(A:(L.map EI.b).Nodup)(D:h.Pairwise (fun x y=>x.b<=y.b)):h.Pairwise (fun x y=>x.b<y.b):=by
 have h1:(h.map EI.b).Nodup:=(v.map EI.b).nodup_iff.2 A;have h2:h.Pairwise (fun x y=>x.b≠y.b):=qXb.1 h1;exact(D.and h2).imp (fun j=>by have:=j.1;have:=j.2;omega)
theorem VU{F:Int->Option EI}{L h:List EI}(j:Lists F L)(v:h.Perm L):Lists F h:=⟨(v.map EI.b).nodup_iff.2 j.1,fun e=>(v.mem_iff).trans (j.2 e)⟩
end Go.Proofs.YtpejdgiccaijfaaGreatDoor
