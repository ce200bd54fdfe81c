/- A cache in mem -/
import Derived.Test.YtpejdgiccaijfaaGreatDoorG08
import Derived.Test.YtpejdgiccaijfaaGreatDoorG07
import Derived.Test.YtpejdgiccaijfaaGreatDoorG09
import Derived.Test.YtpejdgiccaijfaaGreatDoorG06
set_option maxRecDepth 100000
set_option maxHeartbeats 1000000
namespace Go.Proofs.YtpejdgiccaijfaaGreatDoor
open Go Go.RowKit Tryz
variable{w w':World}{b n l base fi N:Nat}{S:Nat->Prop}{F:List Bk}{O:List (Nat×Bk)}{P:List Int}
theorem Dv.kQ(b:Nat)(F:List Bk)(O:List (Nat×Bk))(P:List Int):Thing (fun S w=>Dv S w b F O P)where
 keep:=fun h k j=>h.keep k j
 out:=fun h j=>h.out j
theorem Ck.kQ(b N k q:Nat)(K:List Int)(s:Int->Bool)(G:List Int):Thing (fun S w=>Ck S w b N k q K s G)where
 keep:=fun h v j=>h.keep v j
 out:=fun h j=>h.out j
def Ix(S:Nat->Prop)(w:World)(b N:Nat)(ps:List (Int×Bool))(slots:Nat):Prop:=∃v mb,IndexAt w b v mb N ps slots/\S b/\∀j,ixS v mb j->S j
theorem Ix.kQ(b N:Nat)(ps:List (Int×Bool))(G:Nat):Thing (fun S w=>Ix S w b N ps G)where
 keep:=fun⟨v,A,h,j,k⟩ H D=>⟨v,A,h.keep H (D _ j) (fun q s=>D _ (k q s)),j,k⟩
 out:=fun⟨v,A,h,j,k⟩ E=>⟨v,A,h,E _ h.blt j,fun q s=>E _ (h.slt q s) (k q s)⟩
def Ss(S:Nat->Prop)(w:World)(b:Nat)(l:List Int):Prop:=∃v,SlotsAt 326 w b v l/\S b/\∀j,v.ownBlock=some j->S j
theorem Ss.kQ(b:Nat)(l:List Int):Thing (fun S w=>Ss S w b l)where
 keep:=fun⟨s,h,j,k⟩ E A=>⟨s,h.keep E (A _ j) (fun v q=>A _ (k v q)),j,k⟩
 out:=fun⟨s,h,j,k⟩ D=>⟨s,h,D _ (zd h.str) j,fun v q=>D _ (h.sl.lt q) (k v q)⟩
def Mp(S:Nat->Prop)(w:World)(mb N:Nat)(f:Int->Option Nat):Prop:=MapAt w mb N f/\S mb
theorem Mp.kQ(mb N:Nat)(f:Int->Option Nat):Thing (fun S w=>Mp S w mb N f)where
 keep:=fun⟨h,j⟩ k q=>⟨h.keep k (q _ j),j⟩
 out:=fun⟨h,j⟩ s=>⟨h,s _ h.lt j⟩
structure CaN where
 id:Nat
 bl:Nat
 sl:Nat
 jo:Nat
 pa:Nat
 lo:Nat
 ba:Nat
structure CaP where
 ssd:Nat
 back:Nat
 jr:Nat
 ix:Nat
 ss:Nat
 lg:Nat
 ck:Nat
 sm:Nat
structure CaS where
 which:Nat
 dF:List Bk
 dO:List (Nat×Bk)
 dP:List Int
 bF:List Bk
 bO:List (Nat×Bk)
 bP:List Int
 cov:Nat
 next:Nat
 W:List (Nat×Bk)
 iN:Nat
 ps:List (Int×Bool)
 st:List Int
 G:List (Int->Bool)
 kN:Nat
 K:List Int
 A:Int->Bool
 H:List Int
 mN:Nat
 sums:Int->Option Nat
def CaN.size(n:CaN):Nat:=1+2*n.pa+n.jo+n.lo+n.lo+n.lo+n.sl
def CaN.C(n:CaN):List Value:=superC n.id n.bl n.sl n.jo n.pa n.lo n.ba
structure CaN.Ok(n:CaN):Prop where
 b1:1<=n.bl
 b2:n.bl<=4096
 s1:1<=n.sl
 s2:n.sl<=1024
 j1:4<=n.jo
 j2:n.jo<=1024
 l1:1<=n.lo
 l2:n.lo<=1024
 a1:1<=n.ba
 a2:n.ba<=64
 p1:(n.sl-1)/4+1<=n.pa
 p2:n.pa<=4096
 z:n.size<=4096
abbrev ptr(b:Nat):Value:=.pointer (some ⟨b,0,none⟩)
def caC(n:CaN)(p:CaP)(which:Nat):List Value:=
 n.C++(layC n.sl n.jo n.pa n.lo++[ptr p.ssd,ptr p.back,.int .i64 which,ptr p.jr,ptr p.ix,ptr p.ss,ptr p.lg,ptr p.ck,.map (some p.sm)])
structure CaAt(own:Nat->Nat)(w:World)(c:Nat)(n:CaN)(p:CaP)(a:CaS):Prop where
 str:w.heap[c]?=some (.cells (caC n p a.which).toArray 170 (0,0))
 oc:own c=1
 ok:n.Ok
 ssd:Dv (fun j=>own j=2) w p.ssd a.dF a.dO a.dP
 back:Dv (fun j=>own j=3) w p.back a.bF a.bO a.bP
 jr:Jn (fun j=>own j=4) w p.jr p.ssd (1+2*n.pa) n.jo a.cov a.next a.W
 ix:Ix (fun j=>own j=5) w p.ix a.iN a.ps n.sl
 ss:Ss (fun j=>own j=6) w p.ss a.st
 lg:Lg (fun j=>own j=7) w p.lg n.bl a.G
 ck:Ck (fun j=>own j=8) w p.ck a.kN n.sl n.sl a.K a.A a.H
 sm:Mp (fun j=>own j=9) w p.sm a.mN a.sums
 far:∀j,w.heap.size<=j->own j=0
 nib:Nib w
 tur:Tur w
 on:own 0=0
 ot:own 1=0
 fl:a.dF.length=n.size
 gl:a.bF.length=n.bl
 pl:a.ps.length=n.bl
 sl:a.st.length=n.sl
 Gl:a.G.length=n.sl
 wh:a.which<=1
section
variable{own:Nat->Nat}{w w':World}{c:Nat}{n:CaN}{p:CaP}{a:CaS}
theorem CaAt.clt(h:CaAt own w c n p a):c<w.heap.size:=zd h.str
theorem CaAt.new(h:CaAt own w c n p a)(hu:Upd (fun _=>False) w w'):CaAt own w' c n p a:=
 {h with
  str:=(hu.block c h.clt id).trans h.str
  ssd:=(Dv.kQ _ _ _ _).new h.ssd hu
  back:=(Dv.kQ _ _ _ _).new h.back hu
  jr:=(Jn.kQ _ _ _ _ _ _ _).new h.jr hu
  ix:=(Ix.kQ _ _ _ _).new h.ix hu
  ss:=(Ss.kQ _ _).new h.ss hu
  lg:=(Lg.kQ _ _ _).new h.lg hu
  ck:=(Ck.kQ _ _ _ _ _ _ _).new h.ck hu
  sm:=(Mp.kQ _ _ _).new h.sm hu
  far:=fun j k=>h.far j (qXr hu.size k)
  nib:=h.nib.keep hu id
  tur:=h.tur.keep hu id }
end
section
variable{own:Nat->Nat}{w w':World}{c:Nat}{n:CaN}{p:CaP}{a:CaS}
theorem CaAt.kL(h:CaAt own w c n p a)(hu:Upd (fun k=>own k=2\/w.heap.size<=k) w w')(q:Dv (fun k=>own k=2\/w.heap.size<=k) w' p.ssd F O P)(s:F.length=a.dF.length):
  CaAt (grow own 2 w.heap.size w'.heap.size) w' c n p {a with dF:=F,dO:=O,dP:=P}:=
 {h with
  str:=(hu.block c h.clt (fun j=>by rcases j with j|j;rw[h.oc]at j;exact absurd j de;exact absurd h.clt oM)).trans h.str
  oc:=(zw h.clt).trans h.oc
  ssd:=(Dv.kQ _ _ _ _).mine hu.size q
  back:=(Dv.kQ _ _ _ _).other h.back de hu
  jr:=(Jn.kQ _ _ _ _ _ _ _).other h.jr de hu
  ix:=(Ix.kQ _ _ _ _).other h.ix de hu
  ss:=(Ss.kQ _ _).other h.ss de hu
  lg:=(Lg.kQ _ _ _).other h.lg de hu
  ck:=(Ck.kQ _ _ _ _ _ _ _).other h.ck de hu
  sm:=(Mp.kQ _ _ _).other h.sm de hu
  far:=(Did.step h.far (t:=2) de de hu).far
  nib:=h.nib.keep hu (fun j=>by rcases j with j|j;rw[h.on]at j;exact absurd j de;exact absurd h.nib.lt oM)
  tur:=h.tur.keep hu (fun j=>by rcases j with j|j;rw[h.ot]at j;exact absurd j de;exact absurd h.tur.lt oM)
  on:=(zw h.nib.lt).trans h.on
  ot:=(zw h.tur.lt).trans h.ot
  fl:=s.trans h.fl
 }
theorem CaAt.did2(h:CaAt own w c n p a)(hu:Upd (fun j=>own j=2\/w.heap.size<=j) w w'):Did own (grow own 2 w.heap.size w'.heap.size) w w':=Did.step h.far de de hu
theorem CaAt.kP(h:CaAt own w c n p a):Dv (fun j=>own j=2\/w.heap.size<=j) w p.ssd a.dF a.dO a.dP:=(Dv.kQ _ _ _ _).open h.ssd
theorem CaAt.turn3(h:CaAt own w c n p a)(hu:Upd (fun k=>own k=3\/w.heap.size<=k) w w')(q:Dv (fun k=>own k=3\/w.heap.size<=k) w' p.back F O P)(s:F.length=a.bF.length):
  CaAt (grow own 3 w.heap.size w'.heap.size) w' c n p {a with bF:=F,bO:=O,bP:=P}:=
 {h with
  str:=(hu.block c h.clt (fun j=>by rcases j with j|j;rw[h.oc]at j;exact absurd j de;exact absurd h.clt oM)).trans h.str
  oc:=(zw h.clt).trans h.oc
  ssd:=(Dv.kQ _ _ _ _).other h.ssd de hu
  back:=(Dv.kQ _ _ _ _).mine hu.size q
  jr:=(Jn.kQ _ _ _ _ _ _ _).other h.jr de hu
  ix:=(Ix.kQ _ _ _ _).other h.ix de hu
  ss:=(Ss.kQ _ _).other h.ss de hu
  lg:=(Lg.kQ _ _ _).other h.lg de hu
  ck:=(Ck.kQ _ _ _ _ _ _ _).other h.ck de hu
  sm:=(Mp.kQ _ _ _).other h.sm de hu
  far:=(Did.step h.far (t:=3) de de hu).far
  nib:=h.nib.keep hu (fun j=>by rcases j with j|j;rw[h.on]at j;exact absurd j de;exact absurd h.nib.lt oM)
  tur:=h.tur.keep hu (fun j=>by rcases j with j|j;rw[h.ot]at j;exact absurd j de;exact absurd h.tur.lt oM)
  on:=(zw h.nib.lt).trans h.on
  ot:=(zw h.tur.lt).trans h.ot
  gl:=s.trans h.gl
 }
theorem CaAt.did3(h:CaAt own w c n p a)(hu:Upd (fun j=>own j=3\/w.heap.size<=j) w w'):Did own (grow own 3 w.heap.size w'.heap.size) w w':=Did.step h.far de de hu
theorem CaAt.open3(h:CaAt own w c n p a):Dv (fun j=>own j=3\/w.heap.size<=j) w p.back a.bF a.bO a.bP:=(Dv.kQ _ _ _ _).open h.back
theorem CaAt.turn4(h:CaAt own w c n p a){q next:Nat}{W:List (Nat×Bk)}(hu:Upd (fun k=>own k=4\/w.heap.size<=k) w w')(s:Jn (fun k=>own k=4\/w.heap.size<=k) w' p.jr p.ssd (1+2*n.pa) n.jo q next W):
  CaAt (grow own 4 w.heap.size w'.heap.size) w' c n p {a with cov:=q,next:=next,W:=W}:=
 {h with
  str:=(hu.block c h.clt (fun j=>by rcases j with j|j;rw[h.oc]at j;exact absurd j de;exact absurd h.clt oM)).trans h.str
  oc:=(zw h.clt).trans h.oc
  ssd:=(Dv.kQ _ _ _ _).other h.ssd de hu
  back:=(Dv.kQ _ _ _ _).other h.back de hu
  jr:=(Jn.kQ _ _ _ _ _ _ _).mine hu.size s
  ix:=(Ix.kQ _ _ _ _).other h.ix de hu
  ss:=(Ss.kQ _ _).other h.ss de hu
  lg:=(Lg.kQ _ _ _).other h.lg de hu
  ck:=(Ck.kQ _ _ _ _ _ _ _).other h.ck de hu
  sm:=(Mp.kQ _ _ _).other h.sm de hu
  far:=(Did.step h.far (t:=4) de de hu).far
  nib:=h.nib.keep hu (fun j=>by rcases j with j|j;rw[h.on]at j;exact absurd j de;exact absurd h.nib.lt oM)
  tur:=h.tur.keep hu (fun j=>by rcases j with j|j;rw[h.ot]at j;exact absurd j de;exact absurd h.tur.lt oM)
  on:=(zw h.nib.lt).trans h.on
  ot:=(zw h.tur.lt).trans h.ot
 }
theorem CaAt.did4(h:CaAt own w c n p a)(hu:Upd (fun j=>own j=4\/w.heap.size<=j) w w'):Did own (grow own 4 w.heap.size w'.heap.size) w w':=Did.step h.far de de hu
theorem CaAt.open4(h:CaAt own w c n p a):Jn (fun j=>own j=4\/w.heap.size<=j) w p.jr p.ssd (1+2*n.pa) n.jo a.cov a.next a.W:=(Jn.kQ _ _ _ _ _ _ _).open h.jr
theorem CaAt.turn5(h:CaAt own w c n p a){ps:List (Int×Bool)}(hu:Upd (fun k=>own k=5\/w.heap.size<=k) w w')(q:Ix (fun k=>own k=5\/w.heap.size<=k) w' p.ix N ps n.sl)(s:ps.length=a.ps.length):
  CaAt (grow own 5 w.heap.size w'.heap.size) w' c n p {a with iN:=N,ps:=ps}:=
 {h with
  str:=(hu.block c h.clt (fun j=>by rcases j with j|j;rw[h.oc]at j;exact absurd j de;exact absurd h.clt oM)).trans h.str
  oc:=(zw h.clt).trans h.oc
  ssd:=(Dv.kQ _ _ _ _).other h.ssd de hu
  back:=(Dv.kQ _ _ _ _).other h.back de hu
  jr:=(Jn.kQ _ _ _ _ _ _ _).other h.jr de hu
  ix:=(Ix.kQ _ _ _ _).mine hu.size q
  ss:=(Ss.kQ _ _).other h.ss de hu
  lg:=(Lg.kQ _ _ _).other h.lg de hu
  ck:=(Ck.kQ _ _ _ _ _ _ _).other h.ck de hu
  sm:=(Mp.kQ _ _ _).other h.sm de hu
  far:=(Did.step h.far (t:=5) de de hu).far
  nib:=h.nib.keep hu (fun j=>by rcases j with j|j;rw[h.on]at j;exact absurd j de;exact absurd h.nib.lt oM)
  tur:=h.tur.keep hu (fun j=>by rcases j with j|j;rw[h.ot]at j;exact absurd j de;exact absurd h.tur.lt oM)
  on:=(zw h.nib.lt).trans h.on
  ot:=(zw h.tur.lt).trans h.ot
  pl:=s.trans h.pl
 }
theorem CaAt.did5(h:CaAt own w c n p a)(hu:Upd (fun j=>own j=5\/w.heap.size<=j) w w'):Did own (grow own 5 w.heap.size w'.heap.size) w w':=Did.step h.far de de hu
theorem CaAt.open5(h:CaAt own w c n p a):Ix (fun j=>own j=5\/w.heap.size<=j) w p.ix a.iN a.ps n.sl:=(Ix.kQ _ _ _ _).open h.ix
theorem CaAt.turn6(h:CaAt own w c n p a){l:List Int}(hu:Upd (fun k=>own k=6\/w.heap.size<=k) w w')(q:Ss (fun k=>own k=6\/w.heap.size<=k) w' p.ss l)(s:l.length=a.st.length):
  CaAt (grow own 6 w.heap.size w'.heap.size) w' c n p {a with st:=l}:=
 {h with
  str:=(hu.block c h.clt (fun j=>by rcases j with j|j;rw[h.oc]at j;exact absurd j de;exact absurd h.clt oM)).trans h.str
  oc:=(zw h.clt).trans h.oc
  ssd:=(Dv.kQ _ _ _ _).other h.ssd de hu
  back:=(Dv.kQ _ _ _ _).other h.back de hu
  jr:=(Jn.kQ _ _ _ _ _ _ _).other h.jr de hu
  ix:=(Ix.kQ _ _ _ _).other h.ix de hu
  ss:=(Ss.kQ _ _).mine hu.size q
  lg:=(Lg.kQ _ _ _).other h.lg de hu
  ck:=(Ck.kQ _ _ _ _ _ _ _).other h.ck de hu
  sm:=(Mp.kQ _ _ _).other h.sm de hu
  far:=(Did.step h.far (t:=6) de de hu).far
  nib:=h.nib.keep hu (fun j=>by rcases j with j|j;rw[h.on]at j;exact absurd j de;exact absurd h.nib.lt oM)
  tur:=h.tur.keep hu (fun j=>by rcases j with j|j;rw[h.ot]at j;exact absurd j de;exact absurd h.tur.lt oM)
  on:=(zw h.nib.lt).trans h.on
  ot:=(zw h.tur.lt).trans h.ot
  sl:=s.trans h.sl
 }
theorem CaAt.did6(h:CaAt own w c n p a)(hu:Upd (fun j=>own j=6\/w.heap.size<=j) w w'):Did own (grow own 6 w.heap.size w'.heap.size) w w':=Did.step h.far de de hu
theorem CaAt.open6(h:CaAt own w c n p a):Ss (fun j=>own j=6\/w.heap.size<=j) w p.ss a.st:=(Ss.kQ _ _).open h.ss
theorem CaAt.turn7(h:CaAt own w c n p a){G:List (Int->Bool)}(hu:Upd (fun k=>own k=7\/w.heap.size<=k) w w')(q:Lg (fun k=>own k=7\/w.heap.size<=k) w' p.lg n.bl G)(s:G.length=a.G.length):
  CaAt (grow own 7 w.heap.size w'.heap.size) w' c n p {a with G:=G}:=
 {h with
  str:=(hu.block c h.clt (fun j=>by rcases j with j|j;rw[h.oc]at j;exact absurd j de;exact absurd h.clt oM)).trans h.str
  oc:=(zw h.clt).trans h.oc
  ssd:=(Dv.kQ _ _ _ _).other h.ssd de hu
  back:=(Dv.kQ _ _ _ _).other h.back de hu
  jr:=(Jn.kQ _ _ _ _ _ _ _).other h.jr de hu
  ix:=(Ix.kQ _ _ _ _).other h.ix de hu
  ss:=(Ss.kQ _ _).other h.ss de hu
  lg:=(Lg.kQ _ _ _).mine hu.size q
  ck:=(Ck.kQ _ _ _ _ _ _ _).other h.ck de hu
  sm:=(Mp.kQ _ _ _).other h.sm de hu
  far:=(Did.step h.far (t:=7) de de hu).far
  nib:=h.nib.keep hu (fun j=>by rcases j with j|j;rw[h.on]at j;exact absurd j de;exact absurd h.nib.lt oM)
  tur:=h.tur.keep hu (fun j=>by rcases j with j|j;rw[h.ot]at j;exact absurd j de;exact absurd h.tur.lt oM)
  on:=(zw h.nib.lt).trans h.on
  ot:=(zw h.tur.lt).trans h.ot
  Gl:=s.trans h.Gl
 }
theorem CaAt.did7(h:CaAt own w c n p a)(hu:Upd (fun j=>own j=7\/w.heap.size<=j) w w'):Did own (grow own 7 w.heap.size w'.heap.size) w w':=Did.step h.far de de hu
theorem CaAt.open7(h:CaAt own w c n p a):Lg (fun j=>own j=7\/w.heap.size<=j) w p.lg n.bl a.G:=(Lg.kQ _ _ _).open h.lg
theorem CaAt.turn8(h:CaAt own w c n p a){K q:List Int}{s:Int->Bool}(hu:Upd (fun k=>own k=8\/w.heap.size<=k) w w')(v:Ck (fun k=>own k=8\/w.heap.size<=k) w' p.ck N n.sl n.sl K s q):
  CaAt (grow own 8 w.heap.size w'.heap.size) w' c n p {a with kN:=N,K:=K,A:=s,H:=q}:=
 {h with
  str:=(hu.block c h.clt (fun j=>by rcases j with j|j;rw[h.oc]at j;exact absurd j de;exact absurd h.clt oM)).trans h.str
  oc:=(zw h.clt).trans h.oc
  ssd:=(Dv.kQ _ _ _ _).other h.ssd de hu
  back:=(Dv.kQ _ _ _ _).other h.back de hu
  jr:=(Jn.kQ _ _ _ _ _ _ _).other h.jr de hu
  ix:=(Ix.kQ _ _ _ _).other h.ix de hu
  ss:=(Ss.kQ _ _).other h.ss de hu
  lg:=(Lg.kQ _ _ _).other h.lg de hu
  ck:=(Ck.kQ _ _ _ _ _ _ _).mine hu.size v
  sm:=(Mp.kQ _ _ _).other h.sm de hu
  far:=(Did.step h.far (t:=8) de de hu).far
  nib:=h.nib.keep hu (fun j=>by rcases j with j|j;rw[h.on]at j;exact absurd j de;exact absurd h.nib.lt oM)
  tur:=h.tur.keep hu (fun j=>by rcases j with j|j;rw[h.ot]at j;exact absurd j de;exact absurd h.tur.lt oM)
  on:=(zw h.nib.lt).trans h.on
  ot:=(zw h.tur.lt).trans h.ot
 }
theorem CaAt.did8(h:CaAt own w c n p a)(hu:Upd (fun j=>own j=8\/w.heap.size<=j) w w'):Did own (grow own 8 w.heap.size w'.heap.size) w w':=Did.step h.far de de hu
theorem CaAt.open8(h:CaAt own w c n p a):Ck (fun j=>own j=8\/w.heap.size<=j) w p.ck a.kN n.sl n.sl a.K a.A a.H:=(Ck.kQ _ _ _ _ _ _ _).open h.ck
theorem CaAt.turn9(h:CaAt own w c n p a){f:Int->Option Nat}(hu:Upd (fun k=>own k=9\/w.heap.size<=k) w w')(q:Mp (fun k=>own k=9\/w.heap.size<=k) w' p.sm N f):
  CaAt (grow own 9 w.heap.size w'.heap.size) w' c n p {a with mN:=N,sums:=f}:=
 {h with
  str:=(hu.block c h.clt (fun j=>by rcases j with j|j;rw[h.oc]at j;exact absurd j de;exact absurd h.clt oM)).trans h.str
  oc:=(zw h.clt).trans h.oc
  ssd:=(Dv.kQ _ _ _ _).other h.ssd de hu
  back:=(Dv.kQ _ _ _ _).other h.back de hu
  jr:=(Jn.kQ _ _ _ _ _ _ _).other h.jr de hu
  ix:=(Ix.kQ _ _ _ _).other h.ix de hu
  ss:=(Ss.kQ _ _).other h.ss de hu
  lg:=(Lg.kQ _ _ _).other h.lg de hu
  ck:=(Ck.kQ _ _ _ _ _ _ _).other h.ck de hu
  sm:=(Mp.kQ _ _ _).mine hu.size q
  far:=(Did.step h.far (t:=9) de de hu).far
  nib:=h.nib.keep hu (fun j=>by rcases j with j|j;rw[h.on]at j;exact absurd j de;exact absurd h.nib.lt oM)
  tur:=h.tur.keep hu (fun j=>by rcases j with j|j;rw[h.ot]at j;exact absurd j de;exact absurd h.tur.lt oM)
  on:=(zw h.nib.lt).trans h.on
  ot:=(zw h.tur.lt).trans h.ot
 }
theorem CaAt.did9(h:CaAt own w c n p a)(hu:Upd (fun j=>own j=9\/w.heap.size<=j) w w'):Did own (grow own 9 w.heap.size w'.heap.size) w w':=Did.step h.far de de hu
theorem CaAt.turn1(h:CaAt own w c n p a)(x:Nat)(hx:x<=1):CaAt own (w.setCell ⟨c,16,none⟩ (.int .i64 (x:Int))) c n p {a with which:=x}:=by
 have k:Upd (fun j=>j=c) w (w.setCell ⟨c,16,none⟩ (.int .i64 (x:Int))):=zi w c 16 _;have q:∀(s j:Nat),s≠1->own j=s->¬j=c:=fun s j v hj e=>v (by rw[<-hj,e,h.oc]);exact{h with
  str:=zh h.str 16 _
  ssd:=h.ssd.keep k (fun j hj=>q _ j de hj)
  back:=h.back.keep k (fun j hj=>q _ j de hj)
  jr:=(Jn.kQ _ _ _ _ _ _ _).keep h.jr k (fun j hj=>q _ j de hj)
  ix:=(Ix.kQ _ _ _ _).keep h.ix k (fun j hj=>q _ j de hj)
  ss:=(Ss.kQ _ _).keep h.ss k (fun j hj=>q _ j de hj)
  lg:=(Lg.kQ _ _ _).keep h.lg k (fun j hj=>q _ j de hj)
  ck:=h.ck.keep k (fun j hj=>q _ j de hj)
  sm:=(Mp.kQ _ _ _).keep h.sm k (fun j hj=>q _ j de hj)
  far:=fun j hj=>h.far j oC
  nib:=h.nib.keep k (q _ _ de h.on)
  tur:=h.tur.keep k (q _ _ de h.ot)
  wh:=hx}
theorem CaAt.did1(h:CaAt own w c n p a)(x:Value):Did own own w (w.setCell ⟨c,16,none⟩ x):=(Did.refl h.far).setCell ⟨c,16,none⟩ (fun _=>by rw[show own c=1 from h.oc];exact⟨de,de⟩) x
theorem CaAt.ko(k:CaAt own w c n p a)(hu:Upd (fun _=>False) w w'):Did own own w w':=⟨hu.mono fE,fun _ _=>rfl,fun h j=>by rw[k.far h j];decide,fun h j=>k.far h (qXr hu.size j)⟩
end
def zt(own:Nat->Nat)(w:World)(c:Nat)(n:CaN)(p:CaP)(a:CaS)(v:Value)(e:Ending)(w':World):Prop:=
 e=.returned v/\∃own',CaAt own' w' c n p a/\Did own own' w w'
section
variable{own:Nat->Nat}{w w':World}{c:Nat}{n:CaN}{p:CaP}{a:CaS}
theorem CaAt.cells(j:CaAt own w c n p a):w.cell? ⟨c,14,none⟩=some (ptr p.ssd)/\w.cell? ⟨c,15,none⟩=some (ptr p.back)/\w.cell? ⟨c,16,none⟩=some (.int .i64 (a.which:Int))/\
  w.cell? ⟨c,17,none⟩=some (ptr p.jr)/\w.cell? ⟨c,18,none⟩=some (ptr p.ix)/\w.cell? ⟨c,19,none⟩=some (ptr p.ss)/\w.cell? ⟨c,20,none⟩=some (ptr p.lg)/\w.cell? ⟨c,21,none⟩=some (ptr p.ck)/\w.cell? ⟨c,22,none⟩=some (.map (some p.sm)):=by
 have h:=za j.str;exact⟨h 14,h 15,h 16,h 17,h 18,h 19,h 20,h 21,h 22⟩
theorem CaAt.sup(j:CaAt own w c n p a):w.cell? ⟨c,0,none⟩=some (.int .i64 (n.id:Int))/\w.cell? ⟨c,1,none⟩=some (.int .i64 (n.bl:Int))/\w.cell? ⟨c,2,none⟩=some (.int .i64 (n.sl:Int))/\
  w.cell? ⟨c,3,none⟩=some (.int .i64 (n.jo:Int))/\w.cell? ⟨c,4,none⟩=some (.int .i64 (n.pa:Int))/\w.cell? ⟨c,5,none⟩=some (.int .i64 (n.lo:Int))/\w.cell? ⟨c,6,none⟩=some (.int .i64 (n.ba:Int)):=by
 have h:=za j.str;exact⟨h 0,h 1,h 2,h 3,h 4,h 5,h 6⟩
theorem CaAt.lay(j:CaAt own w c n p a):w.cell? ⟨c,7,none⟩=some (.int .i64 1)/\w.cell? ⟨c,8,none⟩=some (.int .i64 (1+2*(n.pa:Int)))/\w.cell? ⟨c,13,none⟩=some (.int .i64 (1+2*(n.pa:Int)+(n.jo:Int)+(n.lo:Int)+(n.lo:Int)+(n.lo:Int)+(n.sl:Int)))/\
  w.cell? ⟨c,12,none⟩=some (.int .i64 (1+2*(n.pa:Int)+(n.jo:Int)+(n.lo:Int)+(n.lo:Int)+(n.lo:Int))):=by
 have h:=za j.str;exact⟨h 7,h 8,h 13,h 12⟩
theorem CaAt.fz(h:CaAt own w c n p a)(i:Nat):w.frozen? ⟨c,i,none⟩=false:=zf h.str i
theorem Yu(h:CaAt own w c n p a):Calls prog 54 #[ptr p.ssd] w (zt own w c n p {a with dF:=(flushR a.dF a.dO a.dP).F,dO:=(flushR a.dF a.dO a.dP).O,dP:=(flushR a.dF a.dO a.dP).P} (.int .i64 (flushR a.dF a.dO a.dP).cd)):=
 (xT h.kP (fun _ h=> .inr h)).mono fun _ _ ⟨k,q,j⟩=>⟨k,_,h.kL j q (by simp only[flushR];(repeat' split)<;>simp[zI]),h.did2 j⟩
theorem xi(h:CaAt own w c n p a):Calls prog 54 #[ptr p.back] w (zt own w c n p {a with bF:=(flushR a.bF a.bO a.bP).F,bO:=(flushR a.bF a.bO a.bP).O,bP:=(flushR a.bF a.bO a.bP).P} (.int .i64 (flushR a.bF a.bO a.bP).cd)):=
 (xT h.open3 (fun _ h=> .inr h)).mono fun _ _ ⟨k,q,j⟩=>⟨k,_,h.turn3 j q (by simp only[flushR];(repeat' split)<;>simp[zI]),h.did3 j⟩
theorem ca_jnext(h:CaAt own w c n p a):Calls prog 165 #[ptr p.jr] w fun e w'=>e=.returned (.int .i64 (a.next:Int))/\w=w':=QC h.jr
end
section
variable{own:Nat->Nat}{w w':World}{c:Nat}{n:CaN}{p:CaP}{a:CaS}
theorem SY(G:List (Int->Bool))(k:Nat)(x:Int):(Zh G k x).length=G.length:=by simp[Zh]
theorem VK(G:List (Int->Bool))(k:Nat):(scrubG G k).length=G.length:=by simp[scrubG]
theorem Yv(h:CaAt own w c n p a)(k:Nat)(q:k<n.sl)(x:Int)(hx:x= -1\/(0<=x/\x<(n.bl:Int))):
  Calls prog 212 #[ptr p.lg,.int .i64 (k:Int),.int .i64 x] w (zt own w c n p {a with G:=Zh a.G k x} (.int .i64 0)):=
 (zgr h.open7 k (by rw[h.Gl];exact q) x hx).mono fun _ _ ⟨s,v,j⟩=>⟨s,_,h.turn7 j v (SY _ _ _),h.did7 j⟩
theorem QO(h:CaAt own w c n p a)(k:Nat)(q:k<n.sl):
  Calls prog 215 #[ptr p.lg,.int .i64 (k:Int)] w (zt own w c n p {a with G:=scrubG a.G k} (.int .i64 0)):=
 (zce h.open7 k (by rw[h.Gl];exact q)).mono fun _ _ ⟨s,v,j⟩=>⟨s,_,h.turn7 j v (VK _ _),h.did7 j⟩
theorem SZ(h:CaAt own w c n p a)(s:Int)(k:s=(a.next:Int)-1):
  Calls prog 166 #[ptr p.jr,.int .i64 s] w (zt own w c n p {a with cov:=a.next-1,W:=[]} (.int .i64 0)):=
 (zch h.open4 s k).mono fun _ _ ⟨q,v,j⟩=>⟨q,_,h.turn4 j v,h.did4 j⟩
def VL:Int->Bool:=updB (fun _=>false) (-1) true
def qx(G:List (Int->Bool))(k:Nat):List (Int->Bool):=List.replicate k VL++G.drop k
theorem VM(G:List (Int->Bool)):qx G 0=G:=by simp[qx]
theorem QP(G:List (Int->Bool)):qx G G.length=List.replicate G.length VL:=by simp[qx]
theorem sA{j:Type}(f:j->j):∀(l:List j) (x:j) (r:List j),(l++x::r).modify l.length f=l++f x::r
 |[],_,_=>oe
 |y::l,x,r=>by simpa using sA f l x r
theorem VN{G:List (Int->Bool)}{k:Nat}(h:k<G.length):Zh (qx G k) k (-1)=qx G (k+1):=by
 have e:G.drop k=G[k]::G.drop (k+1):=qya h;have:=sA (fun A=>putA A (-1)) (List.replicate k VL) G[k] (G.drop (k+1));rw[qze]at this;unfold Zh qx;rw[e,this,List.replicate_succ',qxw];simp[putA,VL]
end
open Go Go.RowKit Go.Shelf Tryz
attribute [local go_sem] qYb
theorem Ss.exact{S:Nat->Prop}{w:World}{b:Nat}{l:List Int}(k:Ss S w b l):∃q:Nat->Prop,Ss q w b l/\(∀h,q h->S h)/\∀h,q h->∃cs t z,w.heap[h]?=some (.cells cs t z):=by
 obtain⟨s,k,v,A⟩:=k;refine⟨fun h=>h=b\/s.ownBlock=some h,⟨s,k,.inl rfl,fun h j=> .inr j⟩,fun h j=>by rcases j with rfl|j;exact v;exact A h j,fun h j=>?_⟩;rcases j with rfl|j
 .exact ⟨_,_,_,k.str⟩
 .rcases k.sl with⟨-,⟨e,-⟩|⟨g,E,G,H,e,D,-⟩⟩
  .rw [e]at j;cases j
  .rw [e]at j;cases j;exact⟨_,_,_,D⟩
theorem Ss.grown{l:List Int}{j:Option Nat}(s:Ss S w b l)(q:w.grownBy w' j)(v:∀r,j=some r->∃o:Obj,w.heap[r]?=some o/\o.isCells=false):Ss S w' b l:=by
 obtain⟨H,A,D,E⟩:=s.exact;have:=(Ss.kQ b l).keep A (Upd.kC (S:=fun h=>j=some h) q (fun g e _=>e)) (fun h k e=>by
  obtain⟨cs,t,z,G⟩:=E h k;exact VA G q v e)
 exact(Ss.kQ b l).out this (fun h _ k=>D h k)
theorem zeX{l:List Int}(j:Ss S w b l)(q:Tur w)(slot h:Int):
  Calls prog 214 #[ptr b,.int .i64 slot,.int .i64 h] w fun e w'=>e=.returned (.int .i64 (turnCode l slot h))/\Ss S w' b (turnList l slot h)/\Upd S w w':=by
 obtain⟨s,j,v,k⟩:=j;exact(Xz j q slot h).mono fun _ _ ⟨A,D,E⟩=>⟨A,⟨s,D,v,k⟩,E.mono (fun G _ H=>k G H)⟩
theorem Yw(l:List Int)(slot h:Int):(turnList l slot h).length=l.length:=by unfold turnList;split<;>simp
def freeTo(l:List Int)(pre:List Nat):List Int:=pre.foldl (fun(l:List Int) (k:Nat)=>turnList l (k:Int) 0) l
theorem XY(l:List Int)(pre:List Nat)(x:Nat):freeTo l (pre++[x])=turnList (freeTo l pre) (x:Int) 0:=by simp[freeTo]
theorem sB(l:List Int)(pre:List Nat):(freeTo l pre).length=l.length:=by
 induction pre generalizing l with
 |nil=>rfl
 |cons x pre h=>exact(h (turnList l (x:Int) 0)).trans (Yw _ _ _)
section
variable{own:Nat->Nat}{w w':World}{c:Nat}{n:CaN}{p:CaP}{a:CaS}
def zad(own:Nat->Nat)(w:World)(c:Nat)(n:CaN)(p:CaP)(a:CaS)(e:Ending)(w':World):Prop:=zt own w c n p {a with st:=freeTo a.st (pos a.st 3)} (.tuple #[]) e w'
theorem Tc(h:CaAt own w c n p a):Calls prog 167 #[ptr c] w (zad own w c n p a):=by
 have W:Upd (fun _=>False) w (w.alloc (.cells #[ptr c] 98)):=(uur _ w).alloc _;have h1:=h.new W;have aq:Boxed (w.alloc (.cells #[ptr c] 98)) w.heap.size 98 (ptr c):=Boxed.new w _ _;obtain⟨ar,au,av,aw,ax,aR,ay,az,aA⟩:=h1.cells;obtain⟨aS,X,aB,aC⟩:=h1.ss;have aD:0<a.st.length:=by have:=h.sl;have:=h.ok.s1;omega
 have ad:=UM X 3 aD;have aE:=X.le;have E:=Y4 h W h1 ad;have ae:(w.alloc (.cells #[ptr c] 98)).heap.size=w.heap.size+1:=oe;have af:=h.clt;clear h W h1 ad X aB aC ar au av aw ax ay az aA;refine(callsIn_wide (n:=3)).1 ?_;refine callsIn_of_wp_marks func167 rfl trivial ?_ rfl;simp only[ntmps167,qXi,qza,qzd,Nat.reduceAdd,Nat.reduceSub,qxi,qxj,qXc,qxy,qzv,qxz]
 gi_wp2_with (refine⟨trivial,?_⟩;gi_at_call 232;refine(callsIn_wide.2 E.o.2.2.2).mono ?_;rintro e w1 ⟨Y,Z,g,aF,aG,rfl,hge,aH,ag,H,aI,aJ,af,a6⟩)
 have aK:=a6.size;rw[ae]at aK hge;have ah:Upd (fun _=>False) w w1:=E.o.2.1.trans (uuo a6);have ai:=E.o.1.new ah;have a7:Boxed w1 w.heap.size 98 (ptr c):=(a6.block _ (by rw[ae];omega)).trans aq;have J:Hid (∀j,¬(own j=6)->j<w1.heap.size->¬(w1.heap.size<=j\/own j=6)):=fun j h1 h2 h=>by rcases h with h|h;omega;exact h1 h
 have a8:Hid (∀j,w.heap.size<=j->¬own j=6):=fun j A e=>by rw[E.o.1.far j A]at e;exact absurd e de
 have v:=qqh ai;clear ai;refine wpIn_rangeFunc_ownF rfl oM (gf:=303) (lb:= #[.pointer (some ⟨Y,0,none⟩),.pointer (some ⟨Z,0,none⟩)]) rfl trivial (enters_of func303 kR rfl)
  (Zy Fence.wide _ trivial rfl oM (fun j=>w1.heap.size<=j\/own j=6) Y Z g aF aG a.st 3 w1 aE H ag aH (J.out _ (a8.out _ oM) H) (J.out _ (a8.out _ oM) ag) aI aJ af) uy (fun k l o aL aM=>wL (M:=w1.heap.size) (fun j h=> .inl h) k l o aL aM) (qxl _ _) (fun _=>rfl)
  (fun Q k=>Ss (fun j=>own j=6) k p.ss (freeTo a.st Q)/\Upd (fun j=>w1.heap.size<=j\/own j=6) w1 k)
  (fun _ _ _=>False)
  (fun Q aT aU aV q H aj=>⟨q.1.grown H (fun r e=>(aj r e).2),yJ q.2 H (fun r e=> .inl (aj r e).1)⟩)
  (fun _ _ _ _ _ q _ _=>q)
  ⟨v.o.ss,uur _ _⟩
  (fun x=>{tmps:= #[ptr c,.pointer (some ⟨w.heap.size,0,none⟩),.int .i64 (x:Int),ptr c,ptr c,.pointer (some ⟨c,19,none⟩),ptr p.ss,.func (.func 303) #[] #[.pointer (some ⟨Y,0,none⟩),.pointer (some ⟨Z,0,none⟩)],.int .i64 (x:Int),undef,undef,undef,undef,undef,undef],defers:=[]}) ?assign ?body ?done ?stop
 case assign=>
  intro l x k K L
  gi_wp2
  simpa using L
 case body=>
  rintro l Q x k ⟨T,s⟩ hlt;have ak:=s.block _ (zd a7) (J.out _ (a8.out _ (qXp _)) (zd a7))|>.trans a7
  have aW:k.cell? ⟨w.heap.size,0,none⟩=some (ptr c):=za ak 0;have am:=(s.block c v.o.clt (J.out _ (by rw[v.o.oc];decide) v.o.clt)).trans v.o.str;have aX:k.cell? ⟨c,19,none⟩=some (ptr p.ss):=za am 19;have an:=v.o.tur.keep s (J.out _ (by rw[v.o.ot];decide) v.o.tur.lt);obtain⟨aY,ao,G,U⟩:=T.exact;have ap:=Y4 (zeX ao an (x:Int) 0) s G U;clear T s ak am an ao G U
  gi_wp2_with ((first|(refine⟨trivial,fun _=>oM,?_⟩)|(refine⟨trivial,?_⟩)|skip);gi_at_call 214;refine(CallsIn.inRound l (callsIn_wide.2 ap.o.1)).mono ?_;rintro e aZ ⟨rfl,aN,D⟩)
  obtain⟨b0,s,G,U⟩:=ap.o;refine⟨zD D (fun j A _=>U j A),D.mono (fun aa _ ab=> .inr (G aa ab)),?_,s.trans (D.mono (fun aa _ ab=> .inr (G aa ab)))⟩;rw[XY];exact(Ss.kQ _ _).out aN (fun j _ A=>G j A)
 case done=>
  rintro V b1 k aO rfl ⟨T,s⟩ L
  gi_wp2
  refine⟨oe,.inl ⟨_,_,rfl,run_takeDeferred L,?_⟩⟩;refine⟨_,qYv rfl _ _ _,?_⟩;have aP:=wL (S:=fun j=>w1.heap.size<=j\/own j=6) (M:=w1.heap.size) (fun j h=> .inl h) k V _ (.deferred none) aO L rfl rfl;have aQ:=T.grown (grownBy_putObj' k V (.deferred none)) (fun r e=>by cases e;exact⟨_,L,rfl⟩);have D:Upd (fun j=>own j=6\/w.heap.size<=j) w (k.putObj V (.deferred none)):=(ah.mono fE).new (s.trans aP) (fun i b2 q=>by rcases q with q|q;omega;exact .inl q);have b3:=D.size;exact⟨rfl,_,E.o.1.turn6 D ((Ss.kQ _ _).out aQ (fun j _ A=> .inl A)) (sB _ _),E.o.1.did6 D⟩
 case stop=>
  rintro V c Q k _ _ h _;exact h.elim
end
section
open Go.Maps
theorem MapAt.look1{mb:Nat}{f:Int->Option Nat}(h:MapAt w mb N f){x:Int}(h1: -9223372036854775808<=x)(h2:x<9223372036854775808):
  (Instr.lookup 168 (.map (some mb)) (.int .i64 x) false).run prog w=.ok (.int .i64 (((f x).getD 0:Nat):Int)) w:=by
 obtain⟨s,v,k⟩:=h;obtain⟨H,ps,A,E⟩:=v.lookup yC underlying168 (Sm w) (plainElem_int underlying3 de) (qM h1 h2);obtain⟨c,rfl,j,J⟩:=plainElem_int_inv underlying3 E;simp only[qYe]at j;rw[A];have:c=(((f x).getD 0:Nat):Int):=by
  cases hx:f x with
  |none=>
   have q:=(k x).1;rw[hx]at q;have:=atKey_of_not_has (D:=s) q (.lit (.int .i64 0));rw[this]at j;simp at j;simpa using j.1.symm
  |some G=>
   have:=(k x).2 G hx (.lit (.int .i64 0));rw[this]at j;simp at j;simpa using j.1.symm
 rw[this]
end
theorem XZ{P:Prop}(h:P:=by
 have hmf:=qqf;have HF:=Y3 hf hR hxs;clear hf hR hxs;have hr:=zg (zc w (.cells xs.toArray n1d) rfl)
 go_enter_defers q2d,q3d
 go_wp2_with (first
  |(refine qYz rfl _ _ rfl _ _ rfl _ _ (qYj (qYj hr _) _) q4d rfl HF.o.2.2 ?_)
  |fail)
 show Calls _ _ _ (((w.alloc (.cells xs.toArray n1d)).alloc (.cells (bkC zB).toArray 60)).alloc (.cells #[.int .i64 0] 31)) _;obtain⟨h1,h2,h3,h4,h5⟩:=xH w (.cells xs.toArray n1d) (.cells (bkC zB).toArray 60) (.cells #[.int .i64 0] 31);clear hr;generalize ((w.alloc (.cells xs.toArray n1d)).alloc (.cells (bkC zB).toArray 60)).alloc (.cells #[.int .i64 0] 31)=w3 at*;refine(HF.o.1 w3 (Upd.below h5)).mono ?_;rintro e w4 ⟨ys,cd,hRR,rfl,hb4⟩;have g2:=(hb4.block _ (zd h2)).trans h2;have g3:=(hb4.block _ (zd h3)).trans h3;have hyl:=HF.o.2.1 ys cd hRR;have hth:w4.there (w.heap.size+1) 0 64:=fun j hj=>by
  rw[za g2,zf g2];exact⟨by rw[qXy,qxe oY];rfl,rfl⟩
 have hst:w4.there (w.heap.size+1) 0 ys.toArray.size:=by rw[show ys.toArray.size=64 by simpa using hyl.1];exact hth
 have hsz2:(prog.info? 60).map (·.size)=some ys.toArray.size:=by rw[show ys.toArray.size=64 by simpa using hyl.1];exact zM
 have g3':=((zn w4 (w.heap.size+1) 0 ys).block (w.heap.size+1+1) (zd g3) oM).trans g3;have c3:(w4.setCells (w.heap.size+1) 0 ys).cell? ⟨w.heap.size+1+1,0,none⟩=some (.int .i64 0):=za g3' 0;have z3:=zf g3' 0;have HX:=Y8 hst hsz2 hyl hRR hb4 h5 h4 hth;clear hst hsz2 hyl hRR hb4 h5 h4 h1 h2 h3 g2 g3 hth;go_wp2_with (first
  |(refine qZb rfl _ _ _ rfl _ _ ys.toArray rfl rfl HX.o.1 HX.o.2.1 (qYo HX.o.2.2.1.2) ?_)
  |fail)
 refine leaves_cons (f:=n5d) (args:= #[.pointer (some ⟨w.heap.size+1,0,none⟩),.pointer (some ⟨w.heap.size+1+1,0,none⟩)]) oe jZ ?_;refine(q6d _ _ _).mono ?_;rintro e u' w'' ⟨rfl,rfl,rfl⟩;simp[Leaves,settle];have hst2:w4.there (w.heap.size+1) 0 ys.length:=by rw[HX.o.2.2.1.1];exact HX.o.2.2.2.2.2.2.2
 have r1:=qYl w4 (w.heap.size+1) 0 ys hst2;have r2:((w4.setCells (w.heap.size+1) 0 ys).setCell ⟨w.heap.size+1+1,0,none⟩ (.int .i64 cd)).rangeAt (w.heap.size+1) 0 ys:=zC r1 oM;have c4:((w4.setCells (w.heap.size+1) 0 ys).setCell ⟨w.heap.size+1+1,0,none⟩ (.int .i64 cd)).cell? ⟨w.heap.size+1+1,0,none⟩=some (.int .i64 cd):=World.cell?_setCell_same _ _ _ c3;refine⟨_,ut rfl _ _ (w.heap.size+1) 0 ys _ rfl r2 underlying60 rfl (by rw[HX.o.2.2.1.1];exact zM) (w.heap.size+1+1) _ rfl (sC c4),⟨ys,cd,HX.o.2.2.2.1,rfl,?_⟩⟩;refine zj (zj ((Upd.below HX.o.2.2.2.2.2.1).trans (HX.o.2.2.2.2.1.mono HX.o.2.2.2.2.2.1.size)) (zn w4 (w.heap.size+1) 0 ys) (qXp _) (fun k e=>oM)) (zi _ (w.heap.size+1+1) 0 _) (qXp _) (fun k e=>oM)):P:=h
theorem vu{P:Prop}(h:P:=by
 have hmf:=qqf;have HF:=Y3 hf hR hxs;clear hf hR hxs;have hr:=zg (zc w (.cells xs.toArray 60) rfl)
 go_enter_defers q7d,q8d
 go_wp2_with (first
  |(refine qYz rfl _ _ rfl _ _ rfl _ _ (qYj (qYj hr _) _) underlying60 rfl HF.o.2.2 ?_)
  |fail)
 show Calls _ _ _ (((w.alloc (.cells xs.toArray 60)).alloc (.cells zL.toArray n1d)).alloc (.cells #[.int .i64 0] 31)) _;obtain⟨h1,h2,h3,h4,h5⟩:=xH w (.cells xs.toArray 60) (.cells zL.toArray n1d) (.cells #[.int .i64 0] 31);clear hr;generalize ((w.alloc (.cells xs.toArray 60)).alloc (.cells zL.toArray n1d)).alloc (.cells #[.int .i64 0] 31)=w3 at*;refine(HF.o.1 w3 (Upd.below h5)).mono ?_;rintro e w4 ⟨ys,cd,hRR,rfl,hb4⟩;have g2:=(hb4.block _ (zd h2)).trans h2;have g3:=(hb4.block _ (zd h3)).trans h3;have hyl:=HF.o.2.1 ys cd hRR;have hth:w4.there (w.heap.size+1) 0 n9d:=fun j hj=>by
  rw[za g2,zf g2];exact⟨by rw[qXy,qxe (by simpa[zL]using hj)];rfl,rfl⟩
 have hst:w4.there (w.heap.size+1) 0 ys.toArray.size:=by rw[show ys.toArray.size=n9d by simpa using hyl.1];exact hth
 have hsz2:(prog.info? n1d).map (·.size)=some ys.toArray.size:=by rw[show ys.toArray.size=n9d by simpa using hyl.1];exact zae
 have g3':=((zn w4 (w.heap.size+1) 0 ys).block (w.heap.size+1+1) (zd g3) oM).trans g3;have c3:(w4.setCells (w.heap.size+1) 0 ys).cell? ⟨w.heap.size+1+1,0,none⟩=some (.int .i64 0):=za g3' 0;have z3:=zf g3' 0;have HX:=Y8 hst hsz2 hyl hRR hb4 h5 h4 hth;clear hst hsz2 hyl hRR hb4 h5 h4 h1 h2 h3 g2 g3 hth;go_wp2_with (first
  |(refine qZb rfl _ _ _ rfl _ _ ys.toArray rfl rfl HX.o.1 HX.o.2.1 (qYo HX.o.2.2.1.2) ?_)
  |fail)
 refine leaves_cons (f:=zcD) (args:= #[.pointer (some ⟨w.heap.size+1,0,none⟩),.pointer (some ⟨w.heap.size+1+1,0,none⟩)]) oe jZ ?_;refine(zcE _ _ _).mono ?_;rintro e u' w'' ⟨rfl,rfl,rfl⟩;simp[Leaves,settle];have hst2:w4.there (w.heap.size+1) 0 ys.length:=by rw[HX.o.2.2.1.1];exact HX.o.2.2.2.2.2.2.2
 have r1:=qYl w4 (w.heap.size+1) 0 ys hst2;have r2:((w4.setCells (w.heap.size+1) 0 ys).setCell ⟨w.heap.size+1+1,0,none⟩ (.int .i64 cd)).rangeAt (w.heap.size+1) 0 ys:=zC r1 oM;have c4:((w4.setCells (w.heap.size+1) 0 ys).setCell ⟨w.heap.size+1+1,0,none⟩ (.int .i64 cd)).cell? ⟨w.heap.size+1+1,0,none⟩=some (.int .i64 cd):=World.cell?_setCell_same _ _ _ c3;refine⟨_,ut rfl _ _ (w.heap.size+1) 0 ys _ rfl r2 q4d rfl (by rw[HX.o.2.2.1.1];exact zae) (w.heap.size+1+1) _ rfl (sC c4),⟨ys,cd,HX.o.2.2.2.1,rfl,?_⟩⟩;refine zj (zj ((Upd.below HX.o.2.2.2.2.2.1).trans (HX.o.2.2.2.2.1.mono HX.o.2.2.2.2.2.1.size)) (zn w4 (w.heap.size+1) 0 ys) (qXp _) (fun k e=>oM)) (zi _ (w.heap.size+1+1) 0 _) (qXp _) (fun k e=>oM)):P:=h
namespace fGuardI
def zL:List Value:=[Value.int .i64 0,Value.int .i64 0,Value.int .i64 0,Value.int .i64 0]
end fGuardI
theorem ut{P:Program}{k:Func}{p q:Tmp}{j s:TypeId}(A:k.results= #[.cell p j,.cell q s])(h:Array Value)(w:World)(b o:Nat)(cs:List Value)(d:TypeDesc)
  (D:h.getD p undef=.pointer (some ⟨b,o,none⟩)) (E:w.rangeAt b o cs) (hu:P.underlying j=some d) (G:d.isRow=true) (H:(P.info? j).map (·.size)=some cs.length)
  (g:Nat) (v:Value) (J:h.getD q undef=.pointer (some ⟨g,0,none⟩)) (hv:(loadVar s ⟨g,0,none⟩).run P w=.ok v w):
  (results k h).run P w=.ok (.tuple #[.agg cs.toArray,v]) w:=by
 have L:h[p]?.getD undef=.pointer (some ⟨b,o,none⟩):=by simpa using D
 have M:h[q]?.getD undef=.pointer (some ⟨g,0,none⟩):=by simpa using J
 simp[results,A,L,M,asAddr,run_loadVar_mid w b o j cs d E hu G H,hv,Sem.run_bind,Result.andThen]
theorem sC{g:Nat}{cd:Int}(h:w.cell? ⟨g,0,none⟩=some (.int .i64 cd)):(loadVar 31 ⟨g,0,none⟩).run prog w=.ok (.int .i64 cd) w:=by
 simp[go_sem,h]
def yu(w:World)(R:List Value->Int->Prop)(e:Ending)(w':World):Prop:=∃ys cd,R ys cd/\e=.returned (.tuple #[.agg ys.toArray,.int .i64 cd])/\Below w.heap.size w w'
theorem tp(p q:Value)(w:World):
  CallsD prog 314 #[p,q] .returning w fun e j w'=>e=.returned (.tuple #[])/\j=.returning/\w'=w:=by
 refine callsD_of_wpS func314 rfl fun k cs s=>?_;apply wpS_seq;apply wpS_region;simp[wpOpsS,go_sem,recoverD,s,ntmps314,Exit.thenS];refine wpS_cond (t:=false) ow ?_;simp only[Bool.false_eq_true,if_false];refine wpS_of_wp (wp_skip ?_);cases k
 simp_all[bodyPostS,results,results314]
namespace fGuardI
abbrev n1d:Nat:=117
theorem q2d:type_of% @func247:= @func247
theorem q3d:type_of% @ntmps247:= @ntmps247
theorem q4d:type_of% @underlying117:= @underlying117
abbrev n5d:Nat:=314
theorem q6d:type_of% @tp:= @tp
end fGuardI
open fGuardI in
theorem zgi(xs:List Value)(hxs:(prog.info? 117).map (·.size)=some xs.length)(q:Nat)(v:Array Value)(ent:∀args w,(callFunc q args).run prog w=.ok (.enter q args) w)
  (R:List Value->Int->Prop) (hR:∀ys cd,R ys cd->ys.length=64/\∀A∈ys,A.oneCell'=true)
  (hf:∀s,Below w.heap.size w s->Calls prog q (#[.agg xs.toArray]++v) s (yu s R)):
  Calls prog 247 #[.func (.func q) #[] v,.agg xs.toArray] w (yu w R):=XZ
theorem tr(p q:Value)(w:World):
  CallsD prog 317 #[p,q] .returning w fun e j w'=>e=.returned (.tuple #[])/\j=.returning/\w'=w:=by
 refine callsD_of_wpS func317 rfl fun k cs s=>?_;apply wpS_seq;apply wpS_region;simp[wpOpsS,go_sem,recoverD,s,ntmps317,Exit.thenS];refine wpS_cond (t:=false) ow ?_;simp only[Bool.false_eq_true,if_false];refine wpS_of_wp (wp_skip ?_);cases k
 simp_all[bodyPostS,results,results317]
namespace fGuardI
theorem q7d:type_of% @func249:= @func249
theorem q8d:type_of% @ntmps249:= @ntmps249
abbrev n9d:Nat:=4
theorem zae:type_of% @tT:= @tT
abbrev zcD:Nat:=317
theorem zcE:type_of% @tr:= @tr
end fGuardI
open fGuardI in
theorem Td{w:World}(xs:List Value)(hxs:(prog.info? 60).map (·.size)=some xs.length)(q:Nat)(v:Array Value)(ent:∀args w,(callFunc q args).run prog w=.ok (.enter q args) w)
  (R:List Value->Int->Prop) (hR:∀ys cd,R ys cd->ys.length=4/\∀A∈ys,A.oneCell'=true)
  (hf:∀s,Below w.heap.size w s->Calls prog q (#[.agg xs.toArray]++v) s (yu s R)):
  Calls prog 249 #[.func (.func q) #[] v,.agg xs.toArray] w (yu w R):=vu
namespace fGuardI
end fGuardI
namespace fGuardC
def zL:List Value:=[Value.int .i64 0,Value.int .i64 0,Value.int .i64 0,Value.int .i64 0,Value.int .i64 0,Value.int .i64 0]
end fGuardC
theorem Yx:(prog.info? 187).map (·.size)=some 6:=kR
theorem tt(p q:Value)(w:World):
  CallsD prog 438 #[p,q] .returning w fun e j w'=>e=.returned (.tuple #[])/\j=.returning/\w'=w:=by
 refine callsD_of_wpS func438 rfl fun k cs s=>?_;apply wpS_seq;apply wpS_region;simp[wpOpsS,go_sem,recoverD,s,ntmps438,Exit.thenS];refine wpS_cond (t:=false) ow ?_;simp only[Bool.false_eq_true,if_false];refine wpS_of_wp (wp_skip ?_);cases k
 simp_all[bodyPostS,results,results438]
namespace fGuardC
abbrev n1d:Nat:=187
theorem q2d:type_of% @func409:= @func409
theorem q3d:type_of% @ntmps409:= @ntmps409
theorem q4d:type_of% @underlying187:= @underlying187
abbrev n5d:Nat:=438
theorem q6d:type_of% @tt:= @tt
end fGuardC
theorem tu(p q:Value)(w:World):
  CallsD prog 250 #[p,q] .returning w fun e j w'=>e=.returned (.tuple #[])/\j=.returning/\w'=w:=by
 refine callsD_of_wpS func250 rfl fun k cs s=>?_;apply wpS_seq;apply wpS_region;simp[wpOpsS,go_sem,recoverD,s,ntmps250,Exit.thenS];refine wpS_cond (t:=false) ow ?_;simp only[Bool.false_eq_true,if_false];refine wpS_of_wp (wp_skip ?_);cases k
 simp_all[bodyPostS,results,results250]
namespace fGuardC
theorem q7d:type_of% @func183:= @func183
theorem q8d:type_of% @ntmps183:= @ntmps183
abbrev n9d:Nat:=6
theorem zae:type_of% @Yx:= @Yx
abbrev zcD:Nat:=250
theorem zcE:type_of% @tu:= @tu
end fGuardC
open fGuardC in
theorem Te{w:World}(xs:List Value)(hxs:(prog.info? 60).map (·.size)=some xs.length)(q:Nat)(v:Array Value)(ent:∀args w,(callFunc q args).run prog w=.ok (.enter q args) w)
  (R:List Value->Int->Prop) (hR:∀ys cd,R ys cd->ys.length=6/\∀A∈ys,A.oneCell'=true)
  (hf:∀s,Below w.heap.size w s->Calls prog q (#[.agg xs.toArray]++v) s (yu s R)):
  Calls prog 183 #[.func (.func q) #[] v,.agg xs.toArray] w (yu w R):=vu
namespace fGuardC
end fGuardC
namespace fGuardF
def zL:List Value:=[Value.int .i64 0,Value.int .i64 0,Value.int .i64 0,Value.int .i64 0,Value.int .i64 0,Value.int .i64 0,Value.int .i64 0,Value.int .i64 0,Value.int .i64 0,Value.int .i64 0,Value.int .i64 0,Value.int .i64 0,Value.int .i64 0]
end fGuardF
theorem Yy:(prog.info? 192).map (·.size)=some 13:=kR
theorem tw(p q:Value)(w:World):
  CallsD prog 439 #[p,q] .returning w fun e j w'=>e=.returned (.tuple #[])/\j=.returning/\w'=w:=by
 refine callsD_of_wpS func439 rfl fun k cs s=>?_;apply wpS_seq;apply wpS_region;simp[wpOpsS,go_sem,recoverD,s,ntmps439,Exit.thenS];refine wpS_cond (t:=false) ow ?_;simp only[Bool.false_eq_true,if_false];refine wpS_of_wp (wp_skip ?_);cases k
 simp_all[bodyPostS,results,results439]
namespace fGuardF
abbrev n1d:Nat:=192
theorem q2d:type_of% @func410:= @func410
theorem q3d:type_of% @ntmps410:= @ntmps410
theorem q4d:type_of% @underlying192:= @underlying192
abbrev n5d:Nat:=439
theorem q6d:type_of% @tw:= @tw
end fGuardF
theorem tx(p q:Value)(w:World):
  CallsD prog 253 #[p,q] .returning w fun e j w'=>e=.returned (.tuple #[])/\j=.returning/\w'=w:=by
 refine callsD_of_wpS func253 rfl fun k cs s=>?_;apply wpS_seq;apply wpS_region;simp[wpOpsS,go_sem,recoverD,s,ntmps253,Exit.thenS];refine wpS_cond (t:=false) ow ?_;simp only[Bool.false_eq_true,if_false];refine wpS_of_wp (wp_skip ?_);cases k
 simp_all[bodyPostS,results,results253]
namespace fGuardF
theorem q7d:type_of% @func185:= @func185
theorem q8d:type_of% @ntmps185:= @ntmps185
abbrev n9d:Nat:=13
theorem zae:type_of% @Yy:= @Yy
abbrev zcD:Nat:=253
theorem zcE:type_of% @tx:= @tx
end fGuardF
open fGuardF in
theorem Tf{w:World}(xs:List Value)(hxs:(prog.info? 60).map (·.size)=some xs.length)(q:Nat)(v:Array Value)(ent:∀args w,(callFunc q args).run prog w=.ok (.enter q args) w)
  (R:List Value->Int->Prop) (hR:∀ys cd,R ys cd->ys.length=13/\∀A∈ys,A.oneCell'=true)
  (hf:∀s,Below w.heap.size w s->Calls prog q (#[.agg xs.toArray]++v) s (yu s R)):
  Calls prog 185 #[.func (.func q) #[] v,.agg xs.toArray] w (yu w R):=vu
namespace fGuardF
end fGuardF
theorem vy{P:Prop}(h:P:=by
 have hfl:=h.good.fl;have e1:=VO zcF _ _ _ zcG;have e2:=VO zcH _ _ _ zcI;have e3:=VO zcJ _ _ _ zcK;have q1:decide ((base:Int)<0)=false:=oe;have q2:decide ((n:Int)<1)=false:=by simp;omega
 have q3:decide ((F.length:Int)<(base:Int))=false:=by simp;omega
 have q4:decide ((F.length:Int)-(base:Int)<(n:Int))=false:=by simp;omega
 have H:=qqh h;clear h;go_enter zcL,zcM
 go_wp2_with (first|(go_at_call 78;refine(qn H.o).mono ?_;rintro e w' ⟨rfl,rfl⟩))
 go_ret2
 exact⟨rfl,⟨zc _ _ rfl⟩,(qxl _ _).alloc (qXp _) _⟩):P:=h
structure LogI(w:World)(l b base n fi:Nat):Prop where
 str:w.heap[l]?=some (.cells #[.pointer (some ⟨b,0,none⟩),.int .i64 (base:Int),.int .i64 (n:Int),.func (.func 148) #[] #[],.func (.func 149) #[] #[],.func (.func fi) #[] #[]] 336 (0,0))
theorem LogI.lt(h:LogI w l b base n fi):l<w.heap.size:=zd h.str
theorem LogI.keep(h:LogI w l b base n fi)(hu:Upd S w w')(j:¬S l):LogI w' l b base n fi:=⟨(hu.block l h.lt j).trans h.str⟩
theorem LogI.below(h:LogI w l b base n fi)(j:Below w.heap.size w w'):LogI w' l b base n fi:=h.keep (uuo (S:=fun _=>False) j) id
theorem LogI.c(h:LogI w l b base n fi):w.cell? ⟨l,0,none⟩=some (.pointer (some ⟨b,0,none⟩))/\w.cell? ⟨l,1,none⟩=some (.int .i64 (base:Int))/\w.cell? ⟨l,2,none⟩=some (.int .i64 (n:Int))/\
  w.cell? ⟨l,3,none⟩=some (.func (.func 148) #[] #[])/\w.cell? ⟨l,4,none⟩=some (.func (.func 149) #[] #[])/\w.cell? ⟨l,5,none⟩=some (.func (.func fi) #[] #[]):=
 ⟨za h.str 0,za h.str 1,za h.str 2,za h.str 3,za h.str 4,za h.str 5⟩
namespace fLogI
end fLogI
namespace fLogI
end fLogI
theorem VO(T:TypeId)(a b c)(k:prog.underlying T=some (.func a b c))(w:World)(h:Fn)(xs j:Array Value):(binOp .eql T (.func h xs j) .nilFunc).run prog w=.ok (.bool false) w:=by
 have:∀d,(Op.equalIn (d+1) T (.func h xs j) .nilFunc).run prog w=.ok false w:=fun d=>by simp[Op.equalIn,run_underlying k]
 simp only[binOp];simp[Op.equal,Op.maxDepth,this 9999]
namespace fLogI
abbrev zcF:Nat:=237
theorem zcG:type_of% @underlying237:= @underlying237
abbrev zcH:Nat:=238
theorem zcI:type_of% @underlying238:= @underlying238
abbrev zcJ:Nat:=239
theorem zcK:type_of% @underlying239:= @underlying239
theorem zcL:type_of% @func147:= @func147
theorem zcM:type_of% @ntmps147:= @ntmps147
end fLogI
open fLogI in
theorem zaf(h:Dv S w b F O P)(base n:Nat)(j:1<=n)(k:base+n<=F.length)(fi:Nat):
  Calls prog 147 #[.pointer (some ⟨b,0,none⟩),.int .i64 (base:Int),.int .i64 (n:Int),.func (.func 148) #[] #[],.func (.func 149) #[] #[],.func (.func fi) #[] #[]] w
   fun e w'=>e=.returned (.tuple #[.pointer (some ⟨w.heap.size,0,none⟩),.int .i64 0])/\LogI w' w.heap.size b base n fi/\Below w.heap.size w w':=vy
structure LogC(w:World)(l b base n fi:Nat):Prop where
 str:w.heap[l]?=some (.cells #[.pointer (some ⟨b,0,none⟩),.int .i64 (base:Int),.int .i64 (n:Int),.func (.func 152) #[] #[],.func (.func 153) #[] #[],.func (.func fi) #[] #[]] 277 (0,0))
theorem LogC.lt(h:LogC w l b base n fi):l<w.heap.size:=zd h.str
theorem LogC.keep(h:LogC w l b base n fi)(hu:Upd S w w')(j:¬S l):LogC w' l b base n fi:=⟨(hu.block l h.lt j).trans h.str⟩
theorem LogC.below(h:LogC w l b base n fi)(j:Below w.heap.size w w'):LogC w' l b base n fi:=h.keep (uuo (S:=fun _=>False) j) id
theorem LogC.c(h:LogC w l b base n fi):w.cell? ⟨l,0,none⟩=some (.pointer (some ⟨b,0,none⟩))/\w.cell? ⟨l,1,none⟩=some (.int .i64 (base:Int))/\w.cell? ⟨l,2,none⟩=some (.int .i64 (n:Int))/\
  w.cell? ⟨l,3,none⟩=some (.func (.func 152) #[] #[])/\w.cell? ⟨l,4,none⟩=some (.func (.func 153) #[] #[])/\w.cell? ⟨l,5,none⟩=some (.func (.func fi) #[] #[]):=
 ⟨za h.str 0,za h.str 1,za h.str 2,za h.str 3,za h.str 4,za h.str 5⟩
namespace fLogC
end fLogC
namespace fLogC
end fLogC
namespace fLogC
abbrev zcF:Nat:=242
theorem zcG:type_of% @underlying242:= @underlying242
abbrev zcH:Nat:=243
theorem zcI:type_of% @underlying243:= @underlying243
abbrev zcJ:Nat:=244
theorem zcK:type_of% @underlying244:= @underlying244
theorem zcL:type_of% @func151:= @func151
theorem zcM:type_of% @ntmps151:= @ntmps151
end fLogC
open fLogC in
theorem zag(h:Dv S w b F O P)(base n:Nat)(j:1<=n)(k:base+n<=F.length)(fi:Nat):
  Calls prog 151 #[.pointer (some ⟨b,0,none⟩),.int .i64 (base:Int),.int .i64 (n:Int),.func (.func 152) #[] #[],.func (.func 153) #[] #[],.func (.func fi) #[] #[]] w
   fun e w'=>e=.returned (.tuple #[.pointer (some ⟨w.heap.size,0,none⟩),.int .i64 0])/\LogC w' w.heap.size b base n fi/\Below w.heap.size w w':=vy
structure LogF(w:World)(l b base n fi:Nat):Prop where
 str:w.heap[l]?=some (.cells #[.pointer (some ⟨b,0,none⟩),.int .i64 (base:Int),.int .i64 (n:Int),.func (.func 156) #[] #[],.func (.func 157) #[] #[],.func (.func fi) #[] #[]] 281 (0,0))
theorem LogF.lt(h:LogF w l b base n fi):l<w.heap.size:=zd h.str
theorem LogF.keep(h:LogF w l b base n fi)(hu:Upd S w w')(j:¬S l):LogF w' l b base n fi:=⟨(hu.block l h.lt j).trans h.str⟩
theorem LogF.below(h:LogF w l b base n fi)(j:Below w.heap.size w w'):LogF w' l b base n fi:=h.keep (uuo (S:=fun _=>False) j) id
theorem LogF.c(h:LogF w l b base n fi):w.cell? ⟨l,0,none⟩=some (.pointer (some ⟨b,0,none⟩))/\w.cell? ⟨l,1,none⟩=some (.int .i64 (base:Int))/\w.cell? ⟨l,2,none⟩=some (.int .i64 (n:Int))/\
  w.cell? ⟨l,3,none⟩=some (.func (.func 156) #[] #[])/\w.cell? ⟨l,4,none⟩=some (.func (.func 157) #[] #[])/\w.cell? ⟨l,5,none⟩=some (.func (.func fi) #[] #[]):=
 ⟨za h.str 0,za h.str 1,za h.str 2,za h.str 3,za h.str 4,za h.str 5⟩
namespace fLogF
end fLogF
namespace fLogF
end fLogF
namespace fLogF
abbrev zcF:Nat:=247
theorem zcG:type_of% @underlying247:= @underlying247
abbrev zcH:Nat:=248
theorem zcI:type_of% @underlying248:= @underlying248
abbrev zcJ:Nat:=249
theorem zcK:type_of% @underlying249:= @underlying249
theorem zcL:type_of% @func155:= @func155
theorem zcM:type_of% @ntmps155:= @ntmps155
end fLogF
open fLogF in
theorem zah(h:Dv S w b F O P)(base n:Nat)(j:1<=n)(k:base+n<=F.length)(fi:Nat):
  Calls prog 155 #[.pointer (some ⟨b,0,none⟩),.int .i64 (base:Int),.int .i64 (n:Int),.func (.func 156) #[] #[],.func (.func 157) #[] #[],.func (.func fi) #[] #[]] w
   fun e w'=>e=.returned (.tuple #[.pointer (some ⟨w.heap.size,0,none⟩),.int .i64 0])/\LogF w' w.heap.size b base n fi/\Below w.heap.size w w':=vy
theorem zF{p:Nat}{cs:Array Value}{t:TypeId}(h:w.heap[p]?=some (.cells cs t (0,0)))(j:n<=cs.size):w.there p 0 n:=fun k q=>by
 rw[za h,zf h];exact⟨by rw[qXy,qxe oM];rfl,rfl⟩
theorem vz{p:Nat}{x y:Bk}{t:TypeId}(h:w.heap[p]?=some (.cells (bkC x).toArray t (0,0)))(hx:x.length=64)(hy:y.length=64):(w.setCells p 0 (bkC y)).heap[p]?=some (.cells (bkC y).toArray t (0,0)):=by
 obtain⟨k,h2,s,q⟩:=zy (bkC y) 0 w p _ t (0,0) h;rw[h2];have:k=(bkC y).toArray:=by
  apply qxd
  intro j;have e:(bkC y).toArray[j]?=(bkC y)[j]?:=oe;rw[q j,e,zm,hy,zo _ hx];by_cases v:j<64
  .rw [if_pos ⟨oM,oM,oM⟩];rfl
  .rw [if_neg oM,qxf (by rw[zo _ hx];omega),qyl (by rw[zm,hy];omega)]
 rw[this]
def Ja(T:Nat->Prop)(b:Nat)(F:List Bk)(O:List (Nat×Bk))(P:List Int)(s:Nat)(w2:World)(s8 s6:Value)(wx:World):Prop:=
 ∃q z cd,s8=.pointer (some ⟨q,0,none⟩)/\s6=.int .i64 cd/\wx.heap[q]?=some (.cells (bkC z).toArray 60 (0,0))/\w2.heap.size<=q/\z=(if fate P=1 then zB else curB F O s)/\cd=(if fate P=1 then 19 else 0)/\z.length=64/\
  Dv (fun j=>T j/\j≠q) wx b F O P.tail/\Upd T w2 wx
section
variable{own own':Nat->Nat}{w w':World}{c:Nat}{n:CaN}{p:CaP}{a:CaS}
theorem zeY(h:CaAt own w c n p a):Calls prog 145 #[ptr c] w fun e w'=>e=.returned (.tuple #[ptr p.ssd,ptr p.back])/\Upd (fun _=>False) w w':=by
 obtain⟨k,q,-⟩:=h.cells;clear h;go_enter func145,ntmps145
 go_wp2
 go_quiet(fail)
 have j:Upd (fun _=>False) w (w.drewN nq):=(uur _ w).drewN nq;generalize w.drewN nq=s at*;go_wp2
 go_ret2
 exact⟨rfl,j⟩
theorem C_one(n:CaN):∀h∈n.C,h.oneCell'=true:=by
 intro h j;simp only[CaN.C,qzn,qzz,qYu]at j;rcases j with rfl|rfl|rfl|rfl|rfl|rfl|rfl<;>rfl
theorem Tg(sl k q s:Nat):∀h∈layC sl k q s,h.oneCell'=true:=by
 intro h j;simp only[qzn,qzz,qYu]at j;rcases j with rfl|rfl|rfl|rfl|rfl|rfl|rfl<;>rfl
theorem zcN(h:CaAt own w c n p a):Calls prog 57 #[ptr c] w fun e w'=>e=.returned (.agg n.C.toArray)/\Below w.heap.size w w':=by
 obtain⟨j,hU⟩:=qqe (n.C);have v:w.rangeAt c 0 j:=fun D q hv=>by
  have:=zg h.str D q (by rw[caC,qyh oX,<-hU];exact hv);exact this
 have s:j.length=7:=by rw[hU];rfl
 have A:(prog.info? 44).map (·.size)=some j.length:=by rw[s];exact xB
 have h1:∀q∈j,q.oneCell'=true:=by rw[hU];exact C_one n
 have E:=qYj v (.cells j.toArray 44);rw[<-hU];have k:=Y3 A h1 s;clear h hU A h1 s;go_enter func57,ntmps57
 go_wp2_with (first
  |(refine qYz rfl _ _ rfl _ _ rfl _ _ (qYj v _) underlying44 rfl k.o.1 ?_)
  |(refine zk rfl _ _ _ rfl _ _ _ rfl rfl (by rw[k.o.2.2];rfl) k.o.1 k.o.2.1 ?_)
  |fail)
 refine qYq (zq rfl _ _ w.heap.size 0 j _ rfl (zg (zc w _ rfl)) underlying44 rfl k.o.1) rfl ⟨rfl,(qxl _ w).alloc (qXp _) _⟩
theorem zai(h:CaAt own w c n p a):Calls prog 146 #[ptr c] w fun e w'=>e=.returned (.agg (layC n.sl n.jo n.pa n.lo).toArray)/\Below w.heap.size w w':=by
 obtain⟨k,hU⟩:=qqe (layC n.sl n.jo n.pa n.lo);have s:k.length=7:=by rw[hU];rfl
 have D:w.rangeAt c 7 k:=fun j v hv=>by
  have:=zg h.str (7+j) v (by
   rw[caC,qyi (by show(7:Nat)<=7+j;omega),show 7+j-n.C.length=j by show 7+j-7=j;omega,qyh oX,<-hU];exact hv)
  rw[qXy]at this;exact this
 have A:(prog.info? 73).map (·.size)=some k.length:=by rw[s];exact xU
 have h1:∀v∈k,v.oneCell'=true:=by rw[hU];exact Tg _ _ _ _
 rw[<-hU];have q:=Y3 A h1 s;clear h hU A h1 s;go_enter func146,ntmps146
 go_wp2_with (first
  |(refine qYz rfl _ _ rfl _ _ rfl _ _ (qYj D _) underlying73 rfl q.o.1 ?_)
  |(refine zk rfl _ _ _ rfl _ _ _ rfl rfl (by rw[q.o.2.2];rfl) q.o.1 q.o.2.1 ?_)
  |fail)
 refine qYq (zq rfl _ _ w.heap.size 0 k _ rfl (zg (zc w _ rfl)) underlying73 rfl q.o.1) rfl ⟨rfl,(qxl _ w).alloc (qXp _) _⟩
end
def zeZ(w:World)(n:CaN)(d:Nat)(e:Ending)(w':World):Prop:=
 ∃li lc lf,e=.returned (.tuple #[.agg #[ptr li,ptr lc,ptr lf],.int .i64 0])/\LogI w' li d (1+2*n.pa+n.jo) n.lo 150/\LogC w' lc d (1+2*n.pa+n.jo+n.lo) n.lo 154/\
  LogF w' lf d (1+2*n.pa+n.jo+n.lo+n.lo) n.lo 158/\(w.heap.size<=li/\w.heap.size<=lc/\w.heap.size<=lf)/\Below w.heap.size w w'
theorem Jb(n:CaN)(w:World):(Instr.field 44 (.agg n.C.toArray) 5).run prog w=.ok (.int .i64 (n.lo:Int)) w:=kR
section
variable{own own':Nat->Nat}{w w':World}{c:Nat}{n:CaN}{p:CaP}{a:CaS}
theorem zfa(h:CaAt own w c n p a):Calls prog 91 #[ptr c] w (zeZ w n p.ssd):=by
 obtain⟨M,an⟩:=qqe (layC n.sl n.jo n.pa n.lo);obtain⟨w1,Q⟩:=qqe (w.alloc (.cells #[.pointer none,.pointer none,.pointer none] 103));have ab:=qqu Q;have h1:=h.new ab;have ao:=qqg Q;have k:=Y4 h1 ab ao an;have aD:=qqh (zeY h1);have aE:=qqh Q;have ap:=qqh h.ok;clear h h1 ab Q an ao;go_enter func91,ntmps91
 go_wp2_with fail
 rw[<-aE.o];refine aD.out.mono ?_;rintro e aT ⟨rfl,ad⟩;have h2:=k.o.1.new ad;have ae:=Y2 h2 ad;have af:=zai h2;rw[<-k.o.2.2.2]at af;have aF:=qqh af;clear h2 ad af;go_wp2_with fail
 refine aF.o.mono ?_;rintro e aU ⟨rfl,aq⟩;have ag:=qqb aq;have ah:=ae.o.1.new ag;have ai:=Y2 ah ag;have aG:=qqh (zcN ah);clear ah ag aq;go_wp2_with fail
 refine aG.o.mono ?_;rintro e T ⟨rfl,ar⟩;have U:=qqb ar;clear ar;obtain⟨E,V⟩:=qqe (T.alloc (.cells M.toArray 73));have W:=qqu V;have au:=qqg V;have aj:M.length=7:=by rw[k.o.2.2.2];rfl
 have av:∀aH∈M,aH.oneCell'=true:=by rw[k.o.2.2.2];exact Tg _ _ _ _
 have aI:Hid ((prog.info? 73).map (·.size)=some M.length):=by show _=_;rw[aj];exact xU
 have X:=(ai.o.1.new U).new W;have aw:=(((k.o.2.1.trans ae.o.2).trans ai.o.2).trans U).trans W;have ax:=(((ae.o.2.trans ai.o.2).trans U).trans W).j4 k.o.2.2.1;have q:=Y6 X aw au aj av ax;have aJ:=qqh V;have aV:n.size<=4096:=ap.o.z;have ak:=ap.o.l1;have hdl:=X.fl;have s:=qqh (zaf X.ssd (1+2*n.pa+n.jo) n.lo ak jH 150);have aK:=Jb n;clear U W au aj av X aw ax V hdl;go_upto_region 5 with(first
  |(refine zk rfl _ _ _ rfl _ _ _ rfl rfl (by rw[q.o.2.2.2.1];rfl) aI.out q.o.2.2.2.2.1 ?_)
  |fail)
 rw[<-aJ.o];clear aK;have j:=za q.o.2.2.1;rw[k.o.2.2.2]at j;have aL:E.cell? ⟨T.heap.size,2,none⟩=some (.int .i64 (1+2*(n.pa:Int)+(n.jo:Int))):=j 2;have v:(((1+2*n.pa+n.jo:Nat)):Int)=1+2*(n.pa:Int)+(n.jo:Int):=oe;rw[v]at s;clear j v;go_wp2_with fail
 refine s.o.mono ?_;rintro e H ⟨rfl,ay,az⟩;have Y:=qqb az;have Z:=q.o.1.new Y;have hdl:=Z.fl;have s:=qqh (zag Z.ssd (1+2*n.pa+n.jo+n.lo) n.lo ak jH 154);have G:=Y3 Z ay Y;have j:=za (Y.j4 q.o.2.2.1);rw[k.o.2.2.2]at j;have v3:H.cell? ⟨T.heap.size,3,none⟩=some (.int .i64 (1+2*(n.pa:Int)+(n.jo:Int)+(n.lo:Int))):=j 3;have v:(((1+2*n.pa+n.jo+n.lo:Nat)):Int)=1+2*(n.pa:Int)+(n.jo:Int)+(n.lo:Int):=oe;rw[v]at s;clear j v Z ay az Y hdl aL;go_wp2_with fail
 refine s.o.mono ?_;rintro e J ⟨rfl,aA,aB⟩;have a6:=qqb aB;have am:=G.o.1.new a6;have hdl:=am.fl;have s:=qqh (zah am.ssd (1+2*n.pa+n.jo+n.lo+n.lo) n.lo ak jH 158);have L:=Y2 aA a6;have j:=za ((G.o.2.2.trans a6).j4 q.o.2.2.1);rw[k.o.2.2.2]at j;have v4:J.cell? ⟨T.heap.size,4,none⟩=some (.int .i64 (1+2*(n.pa:Int)+(n.jo:Int)+(n.lo:Int)+(n.lo:Int))):=j 4;have v:(((1+2*n.pa+n.jo+n.lo+n.lo:Nat)):Int)=1+2*(n.pa:Int)+(n.jo:Int)+(n.lo:Int)+(n.lo:Int):=oe;rw[v]at s;clear j v am aA aB a6 hdl v3;go_wp2_with fail
 refine s.o.mono ?_;rintro e aM ⟨rfl,a7,aC⟩;have D:=qqb aC;have A:=((G.o.2.2.trans L.o.2).trans D).j4 q.o.2.2.2.2.2;have aW:=za A 0;have aX:=za A 1;have aY:=za A 2;have a8:=zf A;have aZ:=a8 0;have b0:=a8 1;have b1:=a8 2;have aN:=Y3 a7 D A;clear a7 aC D A a8 v4;go_wp2
 obtain⟨a7,D,A⟩:=aN.o;have s0:=zh A 0 (ptr E.heap.size);have aO:=zh s0 1 (ptr H.heap.size);have aP:=zh aO 2 (ptr J.heap.size);have aa:=((zi aM w.heap.size 0 (ptr E.heap.size)).trans (zi _ w.heap.size 1 (ptr H.heap.size))).trans (zi _ w.heap.size 2 (ptr J.heap.size));have b2:=k.o.2.1.size;have z5:=q.o.2.1.size;have b3:=G.o.2.2.size;have b4:=L.o.2.size;have b5:w.heap.size<E.heap.size:=zd q.o.2.2.2.2.2;have aQ:=((G.o.2.1.keep L.o.2 id).keep D id).keep aa oM;have aR:=(L.o.1.keep D id).keep aa oM;have aS:=a7.keep aa oM;refine qYq (zp rfl _ _ w.heap.size 0 [ptr E.heap.size,ptr H.heap.size,ptr J.heap.size] _ rfl (zg aP) underlying103 rfl kR) rfl ⟨E.heap.size,H.heap.size,J.heap.size,rfl,aQ,aR,aS,⟨oM,oM,oM⟩,?_⟩;exact Upd.below ((((q.o.2.1.trans G.o.2.2).trans L.o.2).trans D).new aa (fun i b6 e=>oM))
end
theorem xP{s:Type}{enc:s->List Value}{m:Nat}(q:∀x,(enc x).length=m){g o:Nat}{L:List s}(A:∀h u,(L.flatMap enc)[h]?=some u->w.cell? ⟨g,o+h,none⟩=some u){k:Nat}(j:k<L.length):w.rangeAt g (o+k*m) (enc L[k]):=by
 intro h D v;have E:h<m:=by rw[<-q L[k]];exact(qym.1 v).1
 rw[qXm];refine A _ D ?_;have:∀(L:List s) (k:Nat) (j:k<L.length),(L.flatMap enc)[k*m+h]?=(enc L[k])[h]?:=by
  intro L
  induction L with
  |nil=>intro k j;simp at j
  |cons x L G=>
   intro k j;rw[qyf];cases k with
   |zero=>rw[qYa,qXy,qyh (by rw[q];exact E)];rfl
   |succ k=>
    have e:(k+1)*m+h=m+(k*m+h):=by rw[Nat.succ_mul];omega
    rw[e,qyi (by rw[q];omega),q,Nat.add_sub_cancel_left];exact G k (by simpa using j)
 rw[this L k j];exact v
end Go.Proofs.YtpejdgiccaijfaaGreatDoor
