/- A cache in mem -/
import Derived.Test.YtfhfbpmlnjdfoaaGreatDoorG10
set_option maxRecDepth 100000
set_option maxHeartbeats 2000000
namespace Go.Proofs.YtfhfbpmlnjdfoaaGreatDoor
open Go Go.RowKit Tryz
theorem Dv.kU(b:Nat)(F:List Bk)(O:List (Nat×Bk))(P:List Int):Thing (fun S w=>Dv S w b F O P)where
 keep:=fun h hu hs=>h.keep hu hs
 out:=fun h hs=>h.out hs
theorem Ck.kU(b N most few:Nat)(K:List Int)(A:Int->Bool)(G:List Int):Thing (fun S w=>Ck S w b N most few K A G)where
 keep:=fun h hu hs=>h.keep hu hs
 out:=fun h hs=>h.out hs
def Ix(S:Nat->Prop)(w:World)(b N:Nat)(ps:List (Int×Bool))(slots:Nat):Prop:=∃v mb,IndexAt w b v mb N ps slots/\S b/\∀j,ixS v mb j->S j
theorem Ix.kU(b N:Nat)(ps:List (Int×Bool))(slots:Nat):Thing (fun S w=>Ix S w b N ps slots)where
 keep:=fun⟨v,mb,h,hb,hs⟩ hu hd=>⟨v,mb,h.keep hu (hd _ hb) (fun j hj=>hd _ (hs j hj)),hb,hs⟩
 out:=fun⟨v,mb,h,hb,hs⟩ ho=>⟨v,mb,h,ho _ h.blt hb,fun j hj=>ho _ (h.slt j hj) (hs j hj)⟩
def Ss(S:Nat->Prop)(w:World)(b:Nat)(l:List Int):Prop:=∃v,SlotsAt 327 w b v l/\S b/\∀j,v.ownBlock=some j->S j
theorem Ss.kU(b:Nat)(l:List Int):Thing (fun S w=>Ss S w b l)where
 keep:=fun⟨v,h,hb,hs⟩ hu hd=>⟨v,h.keep hu (hd _ hb) (fun j hj=>hd _ (hs j hj)),hb,hs⟩
 out:=fun⟨v,h,hb,hs⟩ ho=>⟨v,h,ho _ (zf h.str) hb,fun j hj=>ho _ (h.sl.lt hj) (hs j hj)⟩
def Mp(S:Nat->Prop)(w:World)(mb N:Nat)(f:Int->Option Nat):Prop:=MapAt w mb N f/\S mb
theorem Mp.kU(mb N:Nat)(f:Int->Option Nat):Thing (fun S w=>Mp S w mb N f)where
 keep:=fun⟨h,hs⟩ hu hd=>⟨h.keep hu (hd _ hs),hs⟩
 out:=fun⟨h,hs⟩ ho=>⟨h,ho _ h.lt hs⟩
structure CaN where
 id:Nat
 bl:Nat
 sl:Nat
 jo:Nat
 pa:Nat
 lo:Nat
 ba:Nat
structure CaP where
 ssd:Nat
 back:Nat
 jr:Nat
 ix:Nat
 ss:Nat
 lg:Nat
 ck:Nat
 sm:Nat
structure CaS where
 which:Nat
 dF:List Bk
 dO:List (Nat×Bk)
 dP:List Int
 bF:List Bk
 bO:List (Nat×Bk)
 bP:List Int
 cov:Nat
 next:Nat
 W:List (Nat×Bk)
 iN:Nat
 ps:List (Int×Bool)
 st:List Int
 G:List (Int->Bool)
 kN:Nat
 K:List Int
 A:Int->Bool
 H:List Int
 mN:Nat
 sums:Int->Option Nat
def CaN.size(n:CaN):Nat:=1+2*n.pa+n.jo+n.lo+n.lo+n.lo+n.sl
def CaN.C(n:CaN):List Value:=superC n.id n.bl n.sl n.jo n.pa n.lo n.ba
structure CaN.Ok(n:CaN):Prop where
 b1:1<=n.bl
 b2:n.bl<=4096
 s1:1<=n.sl
 s2:n.sl<=1024
 j1:4<=n.jo
 j2:n.jo<=1024
 l1:1<=n.lo
 l2:n.lo<=1024
 a1:1<=n.ba
 a2:n.ba<=64
 p1:(n.sl-1)/4+1<=n.pa
 p2:n.pa<=4096
 z:n.size<=4096
abbrev ptr(b:Nat):Value:=.pointer (some ⟨b,0,none⟩)
def caC(n:CaN)(p:CaP)(which:Nat):List Value:=
 n.C++(layC n.sl n.jo n.pa n.lo++[ptr p.ssd,ptr p.back,.int .i64 which,ptr p.jr,ptr p.ix,ptr p.ss,ptr p.lg,ptr p.ck,.map (some p.sm)])
structure CaAt(own:Nat->Nat)(w:World)(c:Nat)(n:CaN)(p:CaP)(a:CaS):Prop where
 str:w.heap[c]?=some (.cells (caC n p a.which).toArray 172 (0,0))
 oc:own c=1
 ok:n.Ok
 ssd:Dv (fun j=>own j=2) w p.ssd a.dF a.dO a.dP
 back:Dv (fun j=>own j=3) w p.back a.bF a.bO a.bP
 jr:Jn (fun j=>own j=4) w p.jr p.ssd (1+2*n.pa) n.jo a.cov a.next a.W
 ix:Ix (fun j=>own j=5) w p.ix a.iN a.ps n.sl
 ss:Ss (fun j=>own j=6) w p.ss a.st
 lg:Lg (fun j=>own j=7) w p.lg n.bl a.G
 ck:Ck (fun j=>own j=8) w p.ck a.kN n.sl n.sl a.K a.A a.H
 sm:Mp (fun j=>own j=9) w p.sm a.mN a.sums
 far:∀j,w.heap.size<=j->own j=0
 nib:Nib w
 tur:Tur w
 on:own 0=0
 ot:own 1=0
 fl:a.dF.length=n.size
 gl:a.bF.length=n.bl
 pl:a.ps.length=n.bl
 sl:a.st.length=n.sl
 Gl:a.G.length=n.sl
 wh:a.which<=1
section
variable{own:Nat->Nat}{w w':World}{c:Nat}{n:CaN}{p:CaP}{a:CaS}
theorem CaAt.clt(h:CaAt own w c n p a):c<w.heap.size:=zf h.str
theorem CaAt.new(h:CaAt own w c n p a)(hu:Upd (fun _=>False) w w'):CaAt own w' c n p a:=
 {h with
  str:=(hu.block c h.clt id).trans h.str
  ssd:=(Dv.kU _ _ _ _).new h.ssd hu
  back:=(Dv.kU _ _ _ _).new h.back hu
  jr:=(Jn.kU _ _ _ _ _ _ _).new h.jr hu
  ix:=(Ix.kU _ _ _ _).new h.ix hu
  ss:=(Ss.kU _ _).new h.ss hu
  lg:=(Lg.kU _ _ _).new h.lg hu
  ck:=(Ck.kU _ _ _ _ _ _ _).new h.ck hu
  sm:=(Mp.kU _ _ _).new h.sm hu
  far:=fun j hj=>h.far j (qXx hu.size hj)
  nib:=h.nib.keep hu id
  tur:=h.tur.keep hu id }
end
theorem WG(id bl sl jo pa lo ba:Int):∀v∈superC id bl sl jo pa lo ba,v.oneCell'=true:=by
 intro v hv;simp only[superC,qzr,qXd,qZb]at hv;rcases hv with rfl|rfl|rfl|rfl|rfl|rfl|rfl<;>rfl
section
variable{own:Nat->Nat}{w w':World}{c:Nat}{n:CaN}{p:CaP}{a:CaS}
theorem CaAt.kP(h:CaAt own w c n p a){F:List Bk}{O:List (Nat×Bk)}{P:List Int}(hu:Upd (fun j=>own j=2\/w.heap.size<=j) w w')(hd:Dv (fun j=>own j=2\/w.heap.size<=j) w' p.ssd F O P)(hl:F.length=a.dF.length):
  CaAt (grow own 2 w.heap.size w'.heap.size) w' c n p {a with dF:=F,dO:=O,dP:=P}:=
 {h with
  str:=(hu.block c h.clt (fun hs=>by rcases hs with hs|hs;rw[h.oc]at hs;exact absurd hs de;exact absurd h.clt oM)).trans h.str
  oc:=(zy h.clt).trans h.oc
  ssd:=(Dv.kU _ _ _ _).mine hu.size hd
  back:=(Dv.kU _ _ _ _).other h.back de hu
  jr:=(Jn.kU _ _ _ _ _ _ _).other h.jr de hu
  ix:=(Ix.kU _ _ _ _).other h.ix de hu
  ss:=(Ss.kU _ _).other h.ss de hu
  lg:=(Lg.kU _ _ _).other h.lg de hu
  ck:=(Ck.kU _ _ _ _ _ _ _).other h.ck de hu
  sm:=(Mp.kU _ _ _).other h.sm de hu
  far:=(Did.step h.far (t:=2) de de hu).far
  nib:=h.nib.keep hu (fun hs=>by rcases hs with hs|hs;rw[h.on]at hs;exact absurd hs de;exact absurd h.nib.lt oM)
  tur:=h.tur.keep hu (fun hs=>by rcases hs with hs|hs;rw[h.ot]at hs;exact absurd hs de;exact absurd h.tur.lt oM)
  on:=(zy h.nib.lt).trans h.on
  ot:=(zy h.tur.lt).trans h.ot
  fl:=hl.trans h.fl
 }
theorem CaAt.did2(h:CaAt own w c n p a)(hu:Upd (fun j=>own j=2\/w.heap.size<=j) w w'):Did own (grow own 2 w.heap.size w'.heap.size) w w':=Did.step h.far de de hu
theorem CaAt.kT(h:CaAt own w c n p a):Dv (fun j=>own j=2\/w.heap.size<=j) w p.ssd a.dF a.dO a.dP:=(Dv.kU _ _ _ _).open h.ssd
theorem CaAt.turn3(h:CaAt own w c n p a){F:List Bk}{O:List (Nat×Bk)}{P:List Int}(hu:Upd (fun j=>own j=3\/w.heap.size<=j) w w')(hd:Dv (fun j=>own j=3\/w.heap.size<=j) w' p.back F O P)(hl:F.length=a.bF.length):
  CaAt (grow own 3 w.heap.size w'.heap.size) w' c n p {a with bF:=F,bO:=O,bP:=P}:=
 {h with
  str:=(hu.block c h.clt (fun hs=>by rcases hs with hs|hs;rw[h.oc]at hs;exact absurd hs de;exact absurd h.clt oM)).trans h.str
  oc:=(zy h.clt).trans h.oc
  ssd:=(Dv.kU _ _ _ _).other h.ssd de hu
  back:=(Dv.kU _ _ _ _).mine hu.size hd
  jr:=(Jn.kU _ _ _ _ _ _ _).other h.jr de hu
  ix:=(Ix.kU _ _ _ _).other h.ix de hu
  ss:=(Ss.kU _ _).other h.ss de hu
  lg:=(Lg.kU _ _ _).other h.lg de hu
  ck:=(Ck.kU _ _ _ _ _ _ _).other h.ck de hu
  sm:=(Mp.kU _ _ _).other h.sm de hu
  far:=(Did.step h.far (t:=3) de de hu).far
  nib:=h.nib.keep hu (fun hs=>by rcases hs with hs|hs;rw[h.on]at hs;exact absurd hs de;exact absurd h.nib.lt oM)
  tur:=h.tur.keep hu (fun hs=>by rcases hs with hs|hs;rw[h.ot]at hs;exact absurd hs de;exact absurd h.tur.lt oM)
  on:=(zy h.nib.lt).trans h.on
  ot:=(zy h.tur.lt).trans h.ot
  gl:=hl.trans h.gl
 }
theorem CaAt.did3(h:CaAt own w c n p a)(hu:Upd (fun j=>own j=3\/w.heap.size<=j) w w'):Did own (grow own 3 w.heap.size w'.heap.size) w w':=Did.step h.far de de hu
theorem CaAt.open3(h:CaAt own w c n p a):Dv (fun j=>own j=3\/w.heap.size<=j) w p.back a.bF a.bO a.bP:=(Dv.kU _ _ _ _).open h.back
theorem CaAt.turn4(h:CaAt own w c n p a){cov next:Nat}{W:List (Nat×Bk)}(hu:Upd (fun j=>own j=4\/w.heap.size<=j) w w')(hd:Jn (fun j=>own j=4\/w.heap.size<=j) w' p.jr p.ssd (1+2*n.pa) n.jo cov next W):
  CaAt (grow own 4 w.heap.size w'.heap.size) w' c n p {a with cov:=cov,next:=next,W:=W}:=
 {h with
  str:=(hu.block c h.clt (fun hs=>by rcases hs with hs|hs;rw[h.oc]at hs;exact absurd hs de;exact absurd h.clt oM)).trans h.str
  oc:=(zy h.clt).trans h.oc
  ssd:=(Dv.kU _ _ _ _).other h.ssd de hu
  back:=(Dv.kU _ _ _ _).other h.back de hu
  jr:=(Jn.kU _ _ _ _ _ _ _).mine hu.size hd
  ix:=(Ix.kU _ _ _ _).other h.ix de hu
  ss:=(Ss.kU _ _).other h.ss de hu
  lg:=(Lg.kU _ _ _).other h.lg de hu
  ck:=(Ck.kU _ _ _ _ _ _ _).other h.ck de hu
  sm:=(Mp.kU _ _ _).other h.sm de hu
  far:=(Did.step h.far (t:=4) de de hu).far
  nib:=h.nib.keep hu (fun hs=>by rcases hs with hs|hs;rw[h.on]at hs;exact absurd hs de;exact absurd h.nib.lt oM)
  tur:=h.tur.keep hu (fun hs=>by rcases hs with hs|hs;rw[h.ot]at hs;exact absurd hs de;exact absurd h.tur.lt oM)
  on:=(zy h.nib.lt).trans h.on
  ot:=(zy h.tur.lt).trans h.ot
 }
theorem CaAt.did4(h:CaAt own w c n p a)(hu:Upd (fun j=>own j=4\/w.heap.size<=j) w w'):Did own (grow own 4 w.heap.size w'.heap.size) w w':=Did.step h.far de de hu
theorem CaAt.open4(h:CaAt own w c n p a):Jn (fun j=>own j=4\/w.heap.size<=j) w p.jr p.ssd (1+2*n.pa) n.jo a.cov a.next a.W:=(Jn.kU _ _ _ _ _ _ _).open h.jr
theorem CaAt.turn5(h:CaAt own w c n p a){N:Nat}{ps:List (Int×Bool)}(hu:Upd (fun j=>own j=5\/w.heap.size<=j) w w')(hd:Ix (fun j=>own j=5\/w.heap.size<=j) w' p.ix N ps n.sl)(hl:ps.length=a.ps.length):
  CaAt (grow own 5 w.heap.size w'.heap.size) w' c n p {a with iN:=N,ps:=ps}:=
 {h with
  str:=(hu.block c h.clt (fun hs=>by rcases hs with hs|hs;rw[h.oc]at hs;exact absurd hs de;exact absurd h.clt oM)).trans h.str
  oc:=(zy h.clt).trans h.oc
  ssd:=(Dv.kU _ _ _ _).other h.ssd de hu
  back:=(Dv.kU _ _ _ _).other h.back de hu
  jr:=(Jn.kU _ _ _ _ _ _ _).other h.jr de hu
  ix:=(Ix.kU _ _ _ _).mine hu.size hd
  ss:=(Ss.kU _ _).other h.ss de hu
  lg:=(Lg.kU _ _ _).other h.lg de hu
  ck:=(Ck.kU _ _ _ _ _ _ _).other h.ck de hu
  sm:=(Mp.kU _ _ _).other h.sm de hu
  far:=(Did.step h.far (t:=5) de de hu).far
  nib:=h.nib.keep hu (fun hs=>by rcases hs with hs|hs;rw[h.on]at hs;exact absurd hs de;exact absurd h.nib.lt oM)
  tur:=h.tur.keep hu (fun hs=>by rcases hs with hs|hs;rw[h.ot]at hs;exact absurd hs de;exact absurd h.tur.lt oM)
  on:=(zy h.nib.lt).trans h.on
  ot:=(zy h.tur.lt).trans h.ot
  pl:=hl.trans h.pl
 }
theorem CaAt.did5(h:CaAt own w c n p a)(hu:Upd (fun j=>own j=5\/w.heap.size<=j) w w'):Did own (grow own 5 w.heap.size w'.heap.size) w w':=Did.step h.far de de hu
theorem CaAt.open5(h:CaAt own w c n p a):Ix (fun j=>own j=5\/w.heap.size<=j) w p.ix a.iN a.ps n.sl:=(Ix.kU _ _ _ _).open h.ix
theorem CaAt.turn6(h:CaAt own w c n p a){l:List Int}(hu:Upd (fun j=>own j=6\/w.heap.size<=j) w w')(hd:Ss (fun j=>own j=6\/w.heap.size<=j) w' p.ss l)(hl:l.length=a.st.length):
  CaAt (grow own 6 w.heap.size w'.heap.size) w' c n p {a with st:=l}:=
 {h with
  str:=(hu.block c h.clt (fun hs=>by rcases hs with hs|hs;rw[h.oc]at hs;exact absurd hs de;exact absurd h.clt oM)).trans h.str
  oc:=(zy h.clt).trans h.oc
  ssd:=(Dv.kU _ _ _ _).other h.ssd de hu
  back:=(Dv.kU _ _ _ _).other h.back de hu
  jr:=(Jn.kU _ _ _ _ _ _ _).other h.jr de hu
  ix:=(Ix.kU _ _ _ _).other h.ix de hu
  ss:=(Ss.kU _ _).mine hu.size hd
  lg:=(Lg.kU _ _ _).other h.lg de hu
  ck:=(Ck.kU _ _ _ _ _ _ _).other h.ck de hu
  sm:=(Mp.kU _ _ _).other h.sm de hu
  far:=(Did.step h.far (t:=6) de de hu).far
  nib:=h.nib.keep hu (fun hs=>by rcases hs with hs|hs;rw[h.on]at hs;exact absurd hs de;exact absurd h.nib.lt oM)
  tur:=h.tur.keep hu (fun hs=>by rcases hs with hs|hs;rw[h.ot]at hs;exact absurd hs de;exact absurd h.tur.lt oM)
  on:=(zy h.nib.lt).trans h.on
  ot:=(zy h.tur.lt).trans h.ot
  sl:=hl.trans h.sl
 }
theorem CaAt.did6(h:CaAt own w c n p a)(hu:Upd (fun j=>own j=6\/w.heap.size<=j) w w'):Did own (grow own 6 w.heap.size w'.heap.size) w w':=Did.step h.far de de hu
theorem CaAt.open6(h:CaAt own w c n p a):Ss (fun j=>own j=6\/w.heap.size<=j) w p.ss a.st:=(Ss.kU _ _).open h.ss
theorem CaAt.turn7(h:CaAt own w c n p a){G:List (Int->Bool)}(hu:Upd (fun j=>own j=7\/w.heap.size<=j) w w')(hd:Lg (fun j=>own j=7\/w.heap.size<=j) w' p.lg n.bl G)(hl:G.length=a.G.length):
  CaAt (grow own 7 w.heap.size w'.heap.size) w' c n p {a with G:=G}:=
 {h with
  str:=(hu.block c h.clt (fun hs=>by rcases hs with hs|hs;rw[h.oc]at hs;exact absurd hs de;exact absurd h.clt oM)).trans h.str
  oc:=(zy h.clt).trans h.oc
  ssd:=(Dv.kU _ _ _ _).other h.ssd de hu
  back:=(Dv.kU _ _ _ _).other h.back de hu
  jr:=(Jn.kU _ _ _ _ _ _ _).other h.jr de hu
  ix:=(Ix.kU _ _ _ _).other h.ix de hu
  ss:=(Ss.kU _ _).other h.ss de hu
  lg:=(Lg.kU _ _ _).mine hu.size hd
  ck:=(Ck.kU _ _ _ _ _ _ _).other h.ck de hu
  sm:=(Mp.kU _ _ _).other h.sm de hu
  far:=(Did.step h.far (t:=7) de de hu).far
  nib:=h.nib.keep hu (fun hs=>by rcases hs with hs|hs;rw[h.on]at hs;exact absurd hs de;exact absurd h.nib.lt oM)
  tur:=h.tur.keep hu (fun hs=>by rcases hs with hs|hs;rw[h.ot]at hs;exact absurd hs de;exact absurd h.tur.lt oM)
  on:=(zy h.nib.lt).trans h.on
  ot:=(zy h.tur.lt).trans h.ot
  Gl:=hl.trans h.Gl
 }
theorem CaAt.did7(h:CaAt own w c n p a)(hu:Upd (fun j=>own j=7\/w.heap.size<=j) w w'):Did own (grow own 7 w.heap.size w'.heap.size) w w':=Did.step h.far de de hu
theorem CaAt.open7(h:CaAt own w c n p a):Lg (fun j=>own j=7\/w.heap.size<=j) w p.lg n.bl a.G:=(Lg.kU _ _ _).open h.lg
theorem CaAt.turn8(h:CaAt own w c n p a){N:Nat}{K H:List Int}{A:Int->Bool}(hu:Upd (fun j=>own j=8\/w.heap.size<=j) w w')(hd:Ck (fun j=>own j=8\/w.heap.size<=j) w' p.ck N n.sl n.sl K A H):
  CaAt (grow own 8 w.heap.size w'.heap.size) w' c n p {a with kN:=N,K:=K,A:=A,H:=H}:=
 {h with
  str:=(hu.block c h.clt (fun hs=>by rcases hs with hs|hs;rw[h.oc]at hs;exact absurd hs de;exact absurd h.clt oM)).trans h.str
  oc:=(zy h.clt).trans h.oc
  ssd:=(Dv.kU _ _ _ _).other h.ssd de hu
  back:=(Dv.kU _ _ _ _).other h.back de hu
  jr:=(Jn.kU _ _ _ _ _ _ _).other h.jr de hu
  ix:=(Ix.kU _ _ _ _).other h.ix de hu
  ss:=(Ss.kU _ _).other h.ss de hu
  lg:=(Lg.kU _ _ _).other h.lg de hu
  ck:=(Ck.kU _ _ _ _ _ _ _).mine hu.size hd
  sm:=(Mp.kU _ _ _).other h.sm de hu
  far:=(Did.step h.far (t:=8) de de hu).far
  nib:=h.nib.keep hu (fun hs=>by rcases hs with hs|hs;rw[h.on]at hs;exact absurd hs de;exact absurd h.nib.lt oM)
  tur:=h.tur.keep hu (fun hs=>by rcases hs with hs|hs;rw[h.ot]at hs;exact absurd hs de;exact absurd h.tur.lt oM)
  on:=(zy h.nib.lt).trans h.on
  ot:=(zy h.tur.lt).trans h.ot
 }
theorem CaAt.did8(h:CaAt own w c n p a)(hu:Upd (fun j=>own j=8\/w.heap.size<=j) w w'):Did own (grow own 8 w.heap.size w'.heap.size) w w':=Did.step h.far de de hu
theorem CaAt.open8(h:CaAt own w c n p a):Ck (fun j=>own j=8\/w.heap.size<=j) w p.ck a.kN n.sl n.sl a.K a.A a.H:=(Ck.kU _ _ _ _ _ _ _).open h.ck
theorem CaAt.turn9(h:CaAt own w c n p a){N:Nat}{f:Int->Option Nat}(hu:Upd (fun j=>own j=9\/w.heap.size<=j) w w')(hd:Mp (fun j=>own j=9\/w.heap.size<=j) w' p.sm N f):
  CaAt (grow own 9 w.heap.size w'.heap.size) w' c n p {a with mN:=N,sums:=f}:=
 {h with
  str:=(hu.block c h.clt (fun hs=>by rcases hs with hs|hs;rw[h.oc]at hs;exact absurd hs de;exact absurd h.clt oM)).trans h.str
  oc:=(zy h.clt).trans h.oc
  ssd:=(Dv.kU _ _ _ _).other h.ssd de hu
  back:=(Dv.kU _ _ _ _).other h.back de hu
  jr:=(Jn.kU _ _ _ _ _ _ _).other h.jr de hu
  ix:=(Ix.kU _ _ _ _).other h.ix de hu
  ss:=(Ss.kU _ _).other h.ss de hu
  lg:=(Lg.kU _ _ _).other h.lg de hu
  ck:=(Ck.kU _ _ _ _ _ _ _).other h.ck de hu
  sm:=(Mp.kU _ _ _).mine hu.size hd
  far:=(Did.step h.far (t:=9) de de hu).far
  nib:=h.nib.keep hu (fun hs=>by rcases hs with hs|hs;rw[h.on]at hs;exact absurd hs de;exact absurd h.nib.lt oM)
  tur:=h.tur.keep hu (fun hs=>by rcases hs with hs|hs;rw[h.ot]at hs;exact absurd hs de;exact absurd h.tur.lt oM)
  on:=(zy h.nib.lt).trans h.on
  ot:=(zy h.tur.lt).trans h.ot
 }
theorem CaAt.did9(h:CaAt own w c n p a)(hu:Upd (fun j=>own j=9\/w.heap.size<=j) w w'):Did own (grow own 9 w.heap.size w'.heap.size) w w':=Did.step h.far de de hu
theorem CaAt.turn1(h:CaAt own w c n p a)(x:Nat)(hx:x<=1):CaAt own (w.setCell ⟨c,16,none⟩ (.int .i64 (x:Int))) c n p {a with which:=x}:=by
 have hu:Upd (fun j=>j=c) w (w.setCell ⟨c,16,none⟩ (.int .i64 (x:Int))):=zj w c 16 _;have hne:∀(k j:Nat),k≠1->own j=k->¬j=c:=fun k j hk hj e=>hk (by rw[<-hj,e,h.oc]);exact{h with
  str:=zi h.str 16 _
  ssd:=h.ssd.keep hu (fun j hj=>hne _ j de hj)
  back:=h.back.keep hu (fun j hj=>hne _ j de hj)
  jr:=(Jn.kU _ _ _ _ _ _ _).keep h.jr hu (fun j hj=>hne _ j de hj)
  ix:=(Ix.kU _ _ _ _).keep h.ix hu (fun j hj=>hne _ j de hj)
  ss:=(Ss.kU _ _).keep h.ss hu (fun j hj=>hne _ j de hj)
  lg:=(Lg.kU _ _ _).keep h.lg hu (fun j hj=>hne _ j de hj)
  ck:=h.ck.keep hu (fun j hj=>hne _ j de hj)
  sm:=(Mp.kU _ _ _).keep h.sm hu (fun j hj=>hne _ j de hj)
  far:=fun j hj=>h.far j ow
  nib:=h.nib.keep hu (hne _ _ de h.on)
  tur:=h.tur.keep hu (hne _ _ de h.ot)
  wh:=hx}
theorem CaAt.did1(h:CaAt own w c n p a)(x:Value):Did own own w (w.setCell ⟨c,16,none⟩ x):=(Did.refl h.far).setCell ⟨c,16,none⟩ (fun _=>by rw[show own c=1 from h.oc];exact⟨de,de⟩) x
theorem CaAt.ki(h:CaAt own w c n p a)(hu:Upd (fun _=>False) w w'):Did own own w w':=⟨hu.mono fE,fun _ _=>rfl,fun j hj=>by rw[h.far j hj];decide,fun j hj=>h.far j (qXx hu.size hj)⟩
end
def zv(own:Nat->Nat)(w:World)(c:Nat)(n:CaN)(p:CaP)(a:CaS)(v:Value)(e:Ending)(w':World):Prop:=
 e=.returned v/\∃own',CaAt own' w' c n p a/\Did own own' w w'
section
variable{own:Nat->Nat}{w w':World}{c:Nat}{n:CaN}{p:CaP}{a:CaS}
theorem CaAt.cells(h:CaAt own w c n p a):w.cell? ⟨c,14,none⟩=some (ptr p.ssd)/\w.cell? ⟨c,15,none⟩=some (ptr p.back)/\w.cell? ⟨c,16,none⟩=some (.int .i64 (a.which:Int))/\
  w.cell? ⟨c,17,none⟩=some (ptr p.jr)/\w.cell? ⟨c,18,none⟩=some (ptr p.ix)/\w.cell? ⟨c,19,none⟩=some (ptr p.ss)/\w.cell? ⟨c,20,none⟩=some (ptr p.lg)/\w.cell? ⟨c,21,none⟩=some (ptr p.ck)/\w.cell? ⟨c,22,none⟩=some (.map (some p.sm)):=by
 have hc:=za h.str;exact⟨hc 14,hc 15,hc 16,hc 17,hc 18,hc 19,hc 20,hc 21,hc 22⟩
theorem CaAt.sup(h:CaAt own w c n p a):w.cell? ⟨c,0,none⟩=some (.int .i64 (n.id:Int))/\w.cell? ⟨c,1,none⟩=some (.int .i64 (n.bl:Int))/\w.cell? ⟨c,2,none⟩=some (.int .i64 (n.sl:Int))/\
  w.cell? ⟨c,3,none⟩=some (.int .i64 (n.jo:Int))/\w.cell? ⟨c,4,none⟩=some (.int .i64 (n.pa:Int))/\w.cell? ⟨c,5,none⟩=some (.int .i64 (n.lo:Int))/\w.cell? ⟨c,6,none⟩=some (.int .i64 (n.ba:Int)):=by
 have hc:=za h.str;exact⟨hc 0,hc 1,hc 2,hc 3,hc 4,hc 5,hc 6⟩
theorem CaAt.lay(h:CaAt own w c n p a):w.cell? ⟨c,7,none⟩=some (.int .i64 1)/\w.cell? ⟨c,8,none⟩=some (.int .i64 (1+2*(n.pa:Int)))/\w.cell? ⟨c,13,none⟩=some (.int .i64 (1+2*(n.pa:Int)+(n.jo:Int)+(n.lo:Int)+(n.lo:Int)+(n.lo:Int)+(n.sl:Int)))/\
  w.cell? ⟨c,12,none⟩=some (.int .i64 (1+2*(n.pa:Int)+(n.jo:Int)+(n.lo:Int)+(n.lo:Int)+(n.lo:Int))):=by
 have hc:=za h.str;exact⟨hc 7,hc 8,hc 13,hc 12⟩
theorem CaAt.fz(h:CaAt own w c n p a)(i:Nat):w.frozen? ⟨c,i,none⟩=false:=zg h.str i
theorem uC(h:CaAt own w c n p a):Calls prog 46 #[ptr p.ssd] w (zv own w c n p {a with dF:=(flushR a.dF a.dO a.dP).F,dO:=(flushR a.dF a.dO a.dP).O,dP:=(flushR a.dF a.dO a.dP).P} (.int .i64 (flushR a.dF a.dO a.dP).cd)):=
 (xo h.kT (fun _ h=> .inr h)).mono fun _ _ ⟨he,hd,hu⟩=>⟨he,_,h.kP hu hd (by simp only[flushR];(repeat' split)<;>simp[zG]),h.did2 hu⟩
theorem xM(h:CaAt own w c n p a):Calls prog 46 #[ptr p.back] w (zv own w c n p {a with bF:=(flushR a.bF a.bO a.bP).F,bO:=(flushR a.bF a.bO a.bP).O,bP:=(flushR a.bF a.bO a.bP).P} (.int .i64 (flushR a.bF a.bO a.bP).cd)):=
 (xo h.open3 (fun _ h=> .inr h)).mono fun _ _ ⟨he,hd,hu⟩=>⟨he,_,h.turn3 hu hd (by simp only[flushR];(repeat' split)<;>simp[zG]),h.did3 hu⟩
theorem ca_jnext(h:CaAt own w c n p a):Calls prog 154 #[ptr p.jr] w fun e w'=>e=.returned (.int .i64 (a.next:Int))/\w=w':=UT h.jr
end
section
variable{own:Nat->Nat}{w w':World}{c:Nat}{n:CaN}{p:CaP}{a:CaS}
theorem QV(G:List (Int->Bool))(k:Nat)(x:Int):(sy G k x).length=G.length:=by simp[sy]
theorem WH(G:List (Int->Bool))(k:Nat):(scrubG G k).length=G.length:=by simp[scrubG]
theorem ZE(h:CaAt own w c n p a)(k:Nat)(hk:k<n.sl)(x:Int)(hx:x= -1\/(0<=x/\x<(n.bl:Int))):
  Calls prog 202 #[ptr p.lg,.int .i64 (k:Int),.int .i64 x] w (zv own w c n p {a with G:=sy a.G k x} (.int .i64 0)):=
 (zdr h.open7 k (by rw[h.Gl];exact hk) x hx).mono fun _ _ ⟨he,hd,hu⟩=>⟨he,_,h.turn7 hu hd (QV _ _ _),h.did7 hu⟩
theorem Te(h:CaAt own w c n p a)(k:Nat)(hk:k<n.sl):
  Calls prog 204 #[ptr p.lg,.int .i64 (k:Int)] w (zv own w c n p {a with G:=scrubG a.G k} (.int .i64 0)):=
 (AH h.open7 k (by rw[h.Gl];exact hk)).mono fun _ _ ⟨he,hd,hu⟩=>⟨he,_,h.turn7 hu hd (WH _ _),h.did7 hu⟩
theorem QW(h:CaAt own w c n p a)(s:Int)(hs:s=(a.next:Int)-1):
  Calls prog 155 #[ptr p.jr,.int .i64 s] w (zv own w c n p {a with cov:=a.next-1,W:=[]} (.int .i64 0)):=
 (AF h.open4 s hs).mono fun _ _ ⟨he,hd,hu⟩=>⟨he,_,h.turn4 hu hd,h.did4 hu⟩
def WI:Int->Bool:=updB (fun _=>false) (-1) true
def tP(G:List (Int->Bool))(k:Nat):List (Int->Bool):=List.replicate k WI++G.drop k
theorem WJ(G:List (Int->Bool)):tP G 0=G:=by simp[tP]
theorem Tf(G:List (Int->Bool)):tP G G.length=List.replicate G.length WI:=by simp[tP]
theorem qT{α:Type}(f:α->α):∀(l:List α) (x:α) (r:List α),(l++x::r).modify l.length f=l++f x::r
 |[],_,_=>oe
 |y::l,x,r=>by simpa using qT f l x r
theorem WK{G:List (Int->Bool)}{k:Nat}(h:k<G.length):sy (tP G k) k (-1)=tP G (k+1):=by
 have e:G.drop k=G[k]::G.drop (k+1):=qyb h;have:=qT (fun A=>putA A (-1)) (List.replicate k WI) G[k] (G.drop (k+1));rw[qzi]at this;unfold sy tP;rw[e,this,List.replicate_succ',qxx];simp[putA,WI]
end
def putC(ps:List (Int×Bool))(slots:Nat)(k s:Int):Int:=
 if k<0\/(ps.length:Int)<=k\/s<0\/(slots:Int)<=s then 10 else if atOf ps s=none\/atOf ps s=some k.toNat then 0 else 15
def putL(ps:List (Int×Bool))(slots:Nat)(k s:Int)(d:Bool):List (Int×Bool):=if putC ps slots k s=0 then ps.set k.toNat (s,d)else ps
def uD(ps:List (Int×Bool))(slots:Nat)(k s:Int):Int×Bool:=if putC ps slots k s=0 then ps.getD k.toNat (-1,false)else(0,false)
theorem Upd.undrew{S:Nat->Prop}{w w':World}(h:Upd S w.drew w'):Upd S w w':=⟨h.os,h.tape,h.output,h.size,h.block⟩
theorem Sl.setAt{w:World}{e:TypeId}{m g off n cap:Nat}{xs:List Value}(h:Sl w e m (.slice (some ⟨g,off,none⟩) n cap) n xs)(i:Nat)(hi:i<n*m)(u:Value):
  Sl (w.setCell ⟨g,off+i,none⟩ u) e m (.slice (some ⟨g,off,none⟩) n cap) n (xs.set i u):=by
 obtain⟨hl,⟨h1,_⟩|⟨g',off',cap',cur,h1,hg,hn,hm,hs,hc⟩⟩:=h
 .cases h1
 .cases h1;have hle:n*m<=cap*m:=qYb m hn;refine⟨by simpa using hl,.inr ⟨g,off,cap,_,rfl,zi hg _ _,hn,hm,by simpa using hs,fun j x hj=>?_⟩⟩;by_cases hji:i=j
  .subst hji;rw[List.getElem?_set_self oM]at hj;cases hj;rw[Array.getElem?_setIfInBounds_self,if_pos oM]
  .rw [List.getElem?_set_ne hji]at hj;rw[qxg oM];exact hc j x hj
theorem ZF(s:Int)(d:Bool):∀(ps:List (Int×Bool)) (k:Nat),((plC ps).set (k*2) (.int .i64 s)).set (k*2+1) (.bool d)=plC (ps.set k (s,d))
 |[],k=>by simp[plC]
 |p::ps,0=>by simp[plC]
 |p::ps,k+1=>by
  have:=ZF s d ps k;simp only[plC,qyg,qXk,qya,qzz]at this⊢;rw[show(k+1)*2=k*2+1+1 by omega];simp only[qXk];rw[this]
theorem Sl.putPlace{w:World}{g off cap:Nat}{ps:List (Int×Bool)}(h:Sl w 95 2 (.slice (some ⟨g,off,none⟩) ps.length cap) ps.length (plC ps))(k:Nat)(hk:k<ps.length)(s:Int)(d:Bool):
  Sl ((w.setCell ⟨g,off+k*2,none⟩ (.int .i64 s)).setCell ⟨g,off+k*2+1,none⟩ (.bool d)) 95 2 (.slice (some ⟨g,off,none⟩) ps.length cap) (ps.set k (s,d)).length (plC (ps.set k (s,d))):=by
 rw[<-ZF,qzj,qXr off];exact(h.setAt (k*2) oM _).setAt (k*2+1) oM _
theorem AI{w:World}{b mb N:Nat}{v:Value}{ps:List (Int×Bool)}{slots:Nat}(h:IndexAt w b v mb N ps slots)(k:Nat)(s:Int)(d:Bool)(hk:k<ps.length)(h0:0<=s)(h1:s<slots)(hm:mayPut ps k s)(hN:N<maxLen):
  Calls prog 203 #[.pointer (some ⟨b,0,none⟩),.int .i64 k,zM s d] w fun e w'=>e=.returned (.tuple #[zM ps[k].1 ps[k].2,.int .i64 0])/\
   IndexAt w' b v mb (N+1) (ps.set k (s,d)) slots/\Upd (ixS v mb) w w':=by
 have hu:Upd (fun _=>False) w ((w.alloc (.cells #[.int .i64 s,.bool d] 95)).alloc (.cells #[.int .i64 0,.bool false] 95)):=((uur _ _).alloc _).alloc _;have H:=qqh h;have hbl:=h.blt;have hle:=h.le;have hsl:=h.sl1;have G0:=za h.str 0;have G1:=za h.str 1;have G2:=za h.str 2;simp at G0 G1 G2;obtain⟨g,off,cap,rfl,hg,P0,P1⟩:=h.at hk;have g0:=(hu.cellAt (o:=0) hbl (fun h=>h)).trans G0;have g1:=(hu.cellAt (o:=1) hbl (fun h=>h)).trans G1;have g2:=(hu.cellAt (o:=2) hbl (fun h=>h)).trans G2;have x1:¬(k:Int)<0:=oM;clear h;go_enter func203,ntmps203
 go_wp2
 go_quiet(fail)
 clear g0 g1 g2;generalize hw3:(((w.alloc (.cells #[.int .i64 s,.bool d] 95)).alloc (.cells #[.int .i64 0,.bool false] 95)).drewN nq)=w3;have hu3:Upd (fun _=>False) w w3:=by rw[<-hw3];exact hu.drewN nq
 have hbx:w3.heap[w.heap.size]?=some (.cells #[.int .i64 s,.bool d] 95):=by
  rw[<-hw3];exact((Upd.alloc (uur (fun _=>False) _) (.cells #[.int .i64 0,.bool false] 95)).block w.heap.size oe (fun h=>h)).trans (zc w _ rfl)
 have hrx:w3.heap[w.heap.size+1]?=some (.cells #[.int .i64 0,.bool false] 95):=by
  rw[<-hw3];exact zc _ _ oe
 have hz3:w3.heap.size=w.heap.size+2:=by rw[<-hw3];simp[World.drewN]
 clear hw3 hu;have g0:=(hu3.cellAt (o:=0) hbl (fun h=>h)).trans G0;have g1:=(hu3.cellAt (o:=1) hbl (fun h=>h)).trans G1;have p0:=(hu3.cellAt hg (fun h=>h)).trans P0;have p1:=(hu3.cellAt hg (fun h=>h)).trans P1;have b0:=za hbx 0;have b1:=za hbx 1;simp at b0 b1;have hI3:=qqh (H.o.keep hu3 (fun h=>h) (fun _ _ h=>h));have HB:=qqh hbx;have HR:=qqh hrx;clear hbx hrx P0 P1 G2;have hl:=(show MapAt w3.drew mb N (atOf ps)from hI3.out.map).look (x:=s) oM oM;obtain⟨o,c,hl',hoc⟩:∃(o:Bool) (c:Nat),(Instr.lookup 116 (.map (some mb)) (.int .i64 s) true).run prog w3.drew=.ok (.tuple #[.int .i64 (c:Int),.bool o]) w3.drew/\(o=false\/o=true/\c=k):=by
  refine⟨_,_,hl,?_⟩;rcases hm with e|e<;>rw[e]<;>simp
 clear hl;have HM:Hid (mayPut ps k s):=hm;clear hm;have hoc':o=false\/o=true/\k=c:=hoc.imp id (fun h=>⟨h.1,h.2.symm⟩);clear hoc;rcases hoc' with rfl|⟨rfl,rfl⟩
 all_goals
  go_wp2
  go_region
  clear hl';go_wp2
  clear b0 b1 p0 p1 g0 g1;generalize hw4:(w3.alloc (.cells #[.int .i64 ps[k].1,.bool ps[k].2] 95)).drew=w4;have hu34:Upd (fun _=>False) w3 w4:=by rw[<-hw4];exact((uur _ _).alloc _).drew
  have hwx:w4.heap[w.heap.size+2]?=some (.cells #[.int .i64 ps[k].1,.bool ps[k].2] 95):=by rw[<-hw4,<-hz3];exact zc w3 _ rfl
  have hz4:w4.heap.size=w.heap.size+3:=by rw[<-hw4];show(w3.alloc _).heap.size=_;simp[hz3]
  clear hw4;have hI4:=hI3.out.keep hu34 (fun h=>h) (fun _ _ h=>h);have HB4:=(hu34.block _ oM (fun h=>h)).trans HB.o;have HR4:=(hu34.block _ oM (fun h=>h)).trans HR.o;have hr:=hI4.good.each k hk;obtain⟨w5,hdel,hM5,hu45',hz5⟩:=(show MapAt w4.drew mb N (atOf ps)from hI4.map).drop (x:=ps[k].1) je je 0;have hu45:=hu45'.undrew;have hz5':w5.heap.size=w.heap.size+3:=hz5.trans hz4;clear hu45' hz5;have hbm:b≠mb:=fun e=>hI4.nm e.symm;have hgm:g≠mb:=fun e=>hI4.nv jt;have hgb:g≠b:=fun e=>hI4.ne jt;have hmlt:=H.o.map.lt;have W5:Hid (w5.heap[w.heap.size+2]?=some (.cells #[.int .i64 ps[k].1,.bool ps[k].2] 95)/\w5.heap[w.heap.size+1]?=some (.cells #[.int .i64 0,.bool false] 95)/\w5.heap[w.heap.size]?=some (.cells #[.int .i64 s,.bool d] 95)):=
   ⟨(hu45.block _ oM oM).trans hwx,(hu45.block _ oM oM).trans HR4,(hu45.block _ oM oM).trans HB4⟩
  have hS5:=qqh (hI4.sl.keep hu45 (fun g' hg' e=>by simp[Value.ownBlock]at hg';omega));have u0:=za hwx 0;have m1:=za hI4.str 1;simp at u0 m1;have hM5':=qqh hM5;have T5:=qqh ((hu45.block _ hI4.blt hbm).trans hI4.str);have U5:=qqh (((hu3.trans hu34).mono (S':=fun j=>j=mb) (fun _ _ h=>h.elim)).trans hu45);clear hu34 HB4 HR4 hwx hM5 hr;go_wp2
  go_region
  clear hdel u0 m1 hu45 hI4 hz4;obtain⟨g',off',cap',cur,hve,hg5,hcs,hcc⟩:=hS5.out.at oM;cases hve;have e0:=(za hg5 (off+k*2)).trans (hcc _ _ (xL hk).1);have e1:=(za hg5 (off+k*2+1)).trans (hcc (k*2+1) _ (xL hk).2);have f0:=zg hg5 (off+k*2);have f1:=zg hg5 (off+k*2+1);have t0:=za T5.out 0;have y0:=za W5.out.2.2 0;have y1:=za W5.out.2.2 1;simp at t0 y0 y1;clear hcs hcc hg5;go_wp2
  go_region
  clear t0 y0 y1 e0 e1 f0 f1;generalize hw6:((w5.setCell ⟨g,off+k*2,none⟩ (.int .i64 s)).setCell ⟨g,off+k*2+1,none⟩ (.bool d)).drew=w6;have hu56:Upd (fun j=>j=g) w5 w6:=by rw[<-hw6];exact((zj w5 g (off+k*2) _).trans (zj _ g (off+k*2+1) _)).drew
  have hS6:Sl w6 95 2 (.slice (some ⟨g,off,none⟩) ps.length cap) (ps.set k (s,d)).length (plC (ps.set k (s,d))):=by
   rw[<-hw6];exact(hS5.out.putPlace k hk s d).keep ((uur (fun _=>False) _).drew) (fun _ _ h=>h)
  have hz6:w6.heap.size=w.heap.size+3:=by rw[<-hw6];simp[World.drew,hz5']
  clear hw6;have hM6:=hM5'.out.keep hu56 (fun e=>hgm e.symm);have T6:=(hu56.block _ oM (fun e=>hgb e.symm)).trans T5.out;have R6:=(hu56.block _ oM oM).trans W5.out.1;have R6':=(hu56.block _ oM oM).trans W5.out.2.1;have B6:=(hu56.block _ oM oM).trans W5.out.2.2;obtain⟨w7,hst,hM7,hu67',hz7⟩:=(show MapAt w6.drew mb N (upd1 (atOf ps) ps[k].1 none)from hM6).store (x:=s) oM oM k oM hN;have hu67:=hu67'.undrew;have t1:=za T6 1;have y0:=za B6 0;simp at t1 y0;clear hu67';go_wp2
  go_region
  clear hst t1 y0;have X7:=(hu67.block _ oM oM).trans R6;have R7:=(hu67.block _ oM oM).trans R6';have T7:=(hu67.block _ oM hbm).trans T6;have S7:=hS6.keep hu67 (fun g' hg' e=>by simp[Value.ownBlock]at hg';omega);have hG:=hI3.out.good;have hI7:IndexAt w7 b (.slice (some ⟨g,off,none⟩) ps.length cap) mb (N+1) (ps.set k (s,d)) slots:=
   {str:=T7,sl:=by simpa using S7,map:=by rw[hG.atOf_put hk d h0 h1 HM.o];exact hM7,good:=hG.put hk d h0 h1 HM.o,ne:=H.o.ne,nm:=H.o.nm,nv:=H.o.nv,le:=by simpa using hle,sl1:=hsl}
  have hz7':w7.heap.size=w.heap.size+3:=hz7.trans hz6;have U7:Upd (ixS (.slice (some ⟨g,off,none⟩) ps.length cap) mb) w w7:=
   ((U5.out.mono (fun j _ e=> .inr e)).trans (hu56.mono (fun j _ e=> .inl jt))).trans (hu67.mono (fun j _ e=> .inr e))
  have HI:=qqh hI7;have HU:=qqh U7;have HR7:=qqh R7;have r0:=za R7 0;have r1:=za R7 1;have q0:=zg R7 0;have q1:=zg R7 1;have x0:=za X7 0;have x1':=za X7 1;simp at r0 r1 x0 x1';clear X7 R7 T7 S7 hG hI7 U7 R6 R6' B6 T6 hM6 hM7 hu56 hu67 hS6 hz7;go_wp2
  have HA3:=zi (zi HR7.o 0 (.int .i64 ps[k].1)) 1 (.bool ps[k].2);have y0:=za HA3 0;have y1:=za HA3 1;simp at y0 y1;have hue:Upd (fun j=>j=w.heap.size+1) w7 ((w7.setCell ⟨w.heap.size+1,0,none⟩ (.int .i64 ps[k].1)).setCell ⟨w.heap.size+1,1,none⟩ (.bool ps[k].2)):=(zj w7 (w.heap.size+1) 0 _).trans (zj _ _ 1 _);refine qYw (v:=.tuple #[zM ps[k].1 ps[k].2,.int .i64 0]) ?_ rfl ⟨rfl,?_,?_⟩
  .simp [results,results203,go_sem,y0,y1]
  .exact HI.o.keep hue oM (fun j hj e=>by have:=H.o.slt j hj;omega)
  .exact HU.o.new (hue.mono (fun _ _ h=>h)) (fun j hj e=>oM)
theorem qU(w:World)(a:Nat)(h:w.heap[a]?=some (.cells #[.int .i64 0,.bool false] 95)):w.cell? ⟨a,0,none⟩=some (.int .i64 0)/\w.cell? ⟨a,1,none⟩=some (.bool false)/\w.frozen? ⟨a,0,none⟩=false/\w.frozen? ⟨a,1,none⟩=false:=
 ⟨za h 0,za h 1,zg h 0,zg h 1⟩
theorem qV(w:World)(a:Nat)(h:w.heap[a]?=some (.cells #[.int .i64 0,.bool false] 95)):
  (((w.setCell ⟨a,0,none⟩ (.int .i64 0)).setCell ⟨a,1,none⟩ (.bool false)).cell? ⟨a,0,none⟩=some (.int .i64 0)/\((w.setCell ⟨a,0,none⟩ (.int .i64 0)).setCell ⟨a,1,none⟩ (.bool false)).cell? ⟨a,1,none⟩=some (.bool false)):=by
 have h3:=zi (zi h 0 (.int .i64 0)) 1 (.bool false);have y0:=za h3 0;have y1:=za h3 1;simp at y0 y1;exact⟨y0,y1⟩
theorem tk{B:Nat}{a w:World}(h:Below B a w)(x:Nat)(hx:B<=x)(u u':Value):Below B a ((w.setCell ⟨x,0,none⟩ u).setCell ⟨x,1,none⟩ u'):=
 (h.setCell (p:=⟨x,0,none⟩) hx _).setCell (p:=⟨x,1,none⟩) hx _
theorem Tg{w:World}{b mb N:Nat}{v:Value}{ps:List (Int×Bool)}{slots:Nat}(h:IndexAt w b v mb N ps slots)(k:Nat)(s:Int)(d:Bool)(hk:k<ps.length)(h0:0<=s)(h1:s<slots)(hm:¬mayPut ps k s):
  Calls prog 203 #[.pointer (some ⟨b,0,none⟩),.int .i64 k,zM s d] w fun e w'=>e=.returned (.tuple #[zM 0 false,.int .i64 15])/\Below w.heap.size w w':=by
 have hu:Upd (fun _=>False) w ((w.alloc (.cells #[.int .i64 s,.bool d] 95)).alloc (.cells #[.int .i64 0,.bool false] 95)):=((uur _ _).alloc _).alloc _;have H:=qqh h;have hbl:=h.blt;have hle:=h.le;have hsl:=h.sl1;have G1:=za h.str 1;have g0:=(hu.cellAt (o:=0) hbl id).trans (za h.str 0);have g2:=(hu.cellAt (o:=2) hbl id).trans (za h.str 2);simp at g0 G1 g2;obtain⟨ao,c,rfl⟩:=h.sl.rd.j7;have x1:¬(k:Int)<0:=oM;obtain⟨o,ho,hok⟩:∃o:Nat,atOf ps s=some o/\o≠k:=by
  cases e:atOf ps s with
  |none=>exact absurd (.inl e) hm
  |some o=>exact⟨o,rfl,fun e2=>hm (.inr (by rw[e,e2]))⟩
 have hoi:((o:Int)==(k:Int))=false:=by simp;omega
 clear h hm;go_enter func203,ntmps203
 go_wp2
 go_quiet(fail)
 clear g0 g2;generalize hw3:(((w.alloc (.cells #[.int .i64 s,.bool d] 95)).alloc (.cells #[.int .i64 0,.bool false] 95)).drewN nq)=w3;have hb3:Below w.heap.size w w3:=by rw[<-hw3];exact zR (((qxl _ _).alloc (qXv _) _).alloc oe _) _
 have hu3:Upd (fun _=>False) w w3:=by rw[<-hw3];exact hu.drewN nq
 have hrx:w3.heap[w.heap.size+1]?=some (.cells #[.int .i64 0,.bool false] 95):=by rw[<-hw3];exact zc _ _ oe
 have hbx:w3.heap[w.heap.size]?=some (.cells #[.int .i64 s,.bool d] 95):=by
  rw[<-hw3];exact((Upd.alloc (uur (fun _=>False) _) (.cells #[.int .i64 0,.bool false] 95)).block w.heap.size oe id).trans (zc w _ rfl)
 clear hw3 hu;obtain⟨r0,r1,f0,f1⟩:=qU _ _ hrx;have Y:=qqh (qV _ _ hrx);have b0:=za hbx 0;simp at b0;have g1:=(hu3.cellAt hbl id).trans G1;have hl:=(show MapAt w3.drew mb N (atOf ps)from(MapAt.keep (w':=w3) H.o.map (S:=fun _=>False) hu3 id)).look (x:=s) oM oM;rw[ho]at hl;simp only[Option.getD_some,Option.isSome_some]at hl;clear hrx hbx hu3 G1 ho hok;go_wp2
 go_region
 clear hl;go_wp2
 refine qYw (v:=.tuple #[zM 0 false,.int .i64 15]) ?_ rfl ⟨rfl,tk (w:=w3.drew) hb3.drew _ oM _ _⟩;simp[results,results203,go_sem,Y.out.1,Y.out.2]
theorem QX(n:Nat):madeCells #[Value.map none] (n*1)=Array.replicate n (Value.map none):=by
 apply Array.ext
 .simp [size_madeCells]
 .intro i h1 h2;have:i%1=0:=Nat.mod_one i;simp[madeCells,this]
theorem JH:(prog.info? 331).map (fun i=>(i.zero,i.size,i.bytes))=some (some (.map none),1,8):=kR
structure LgTo(W w:World)(g n k:Nat)(M:List (Nat×(Int->Bool))):Prop where
 sl:Sl w 331 1 (.slice (some ⟨g,0,none⟩) n n) n (LgC M++List.replicate (n-k) (.map none))
 len:M.length=k
 sets:∀p∈M,SetAt w p.1 4097 p.2/\p.2=fun _=>false
 nd:(M.map (·.1)).Nodup
 lo:∀p∈M,W.heap.size+2<=p.1
theorem JI{S:Nat->Prop}(n bl:Nat)(w:World)(hn:∀j,w.heap.size<=j->S j)(h1:1<=n)(h2:n<=1024)(h3:1<=bl)(h4:bl<=4096):
  Calls prog 134 #[.int .i64 (n:Int),.int .i64 (bl:Int)] w fun e w'=>∃b,e=.returned (.tuple #[.pointer (some ⟨b,0,none⟩),.int .i64 0])/\
   Lg S w' b bl (List.replicate n (fun _=>false))/\Below w.heap.size w w'/\w.heap.size<=b:=by
 obtain⟨i0,hi,hz0,hz1,hz2⟩:=qZa JH;have hmm:= @run_makeMap prog;have hmk:∀w:World,(Instr.makeSlice 328 (.int .i64 n) (.int .i64 n)).run prog w=.ok (.slice (some ⟨w.heap.size,0,none⟩) n n) (w.alloc (.cells (Array.replicate n (Value.map none)) 331)):=by
  intro w;have:=run_make (P:=prog) w 328 331 i0 (.map none) underlying328 hi hz0 .i64 .i64 n n oM oM jH oM;rw[this];simp only[qxu,hz1,Value.cells];rw[QX]
 have q1:decide ((n:Int)<1)=false:=by simp;omega
 have q2:decide (1024<(n:Int))=false:=by simp;omega
 have q3:decide ((bl:Int)<1)=false:=by simp;omega
 have q4:decide (4096<(bl:Int))=false:=by simp;omega
 clear hi hz0 hz1 hz2;go_enter func134,ntmps134
 go_wp2
 have ha:((w.alloc (.cells (Array.replicate n (Value.map none)) 331)).alloc (.cells #[.int .i64 (bl:Int),.slice (some ⟨w.heap.size,0,none⟩) n n] 330)).heap[w.heap.size]?=some (.cells (Array.replicate n (Value.map none)) 331):=by
  rw[qxk _ _ _ oe];exact zc w _ rfl
 have hb:=zc (w.alloc (.cells (Array.replicate n (Value.map none)) 331)) (.cells #[.int .i64 (bl:Int),.slice (some ⟨w.heap.size,0,none⟩) n n] 330) (n:=w.heap.size+1) oe;have hB:=((qxl w.heap.size w).alloc (qXv _) (.cells (Array.replicate n (Value.map none)) 331)).alloc oe (.cells #[.int .i64 (bl:Int),.slice (some ⟨w.heap.size,0,none⟩) n n] 330);have hsz:((w.alloc (.cells (Array.replicate n (Value.map none)) 331)).alloc (.cells #[.int .i64 (bl:Int),.slice (some ⟨w.heap.size,0,none⟩) n n] 330)).heap.size=w.heap.size+2:=oe;have hsl:Sl ((w.alloc (.cells (Array.replicate n (Value.map none)) 331)).alloc (.cells #[.int .i64 (bl:Int),.slice (some ⟨w.heap.size,0,none⟩) n n] 330)) 331 1 (.slice (some ⟨w.heap.size,0,none⟩) n n) n (List.replicate n (Value.map none)):=
  ⟨oe,.inr ⟨w.heap.size,0,n,_,rfl,ha,qXv _,by unfold maxLen;omega,oe,fun j u hj=>by rw[qYe,<-List.toArray_replicate,qyv];exact hj⟩⟩
 generalize (w.alloc (.cells (Array.replicate n (Value.map none)) 331)).alloc (.cells #[.int .i64 (bl:Int),.slice (some ⟨w.heap.size,0,none⟩) n n] 330)=w2 at*;have HB:=Y5 hb hB hsz hsl hn;clear ha hb hB hsz hsl hn hmk;go_loopw[32] (fun s32 wr=>∃k:Nat,k<=n/\s32=.int .i64 k/\(∃M,LgTo w wr w.heap.size n k M)/\Upd (fun j=>j=w.heap.size) w2 wr) (fun s32 _=>n-(intOf s32).toNat)
 case atStart=>exact⟨0,oM,rfl,⟨[],by simpa using HB.o.2.2.2.1,rfl,oe,oe,oe⟩,uur _ _⟩
 case round=>
  obtain⟨k,hk,rfl,⟨M,hM⟩,hu⟩:=hrel;have hstr:=(hu.block _ (zf HB.o.1) oM).trans HB.o.1;have c1:=za hstr 1;simp at c1;have hge:=hu.size;have hs2:=HB.o.2.2.1;by_cases hlt:k<n
  .have b1:(0:Int)<=(k:Int):=oM;have b2:(k:Int)<(n:Int):=oM;obtain⟨g',off',cap',cur,he,hg,hoc,hcc⟩:=hM.sl.at oM;cases he;have HM:=Y4 hM hu hstr hk;have hc:(wr.alloc (.map #[] 0)).cell? ⟨w.heap.size,k,none⟩=some (.map none):=by
    rw[za ((qxk _ _ _ (zf hg)).trans hg)];have hl:(LgC M).length=k:=by simp[LgC,hM.len]
    have:=hcc k (.map none) (by rw[qyj oM,hl,Nat.sub_self,qys,if_pos oM]);simpa using this
   have hf:(wr.alloc (.map #[] 0)).frozen? ⟨w.heap.size,k,none⟩=false:=zg ((qxk _ _ _ (zf hg)).trans hg) k;clear hM hu hstr hg hoc hcc hk;have HX:=Y2 hs2 hge;clear hs2 hge;go_wp2
   go_roundw
   case rel=>
    obtain⟨hM,hu,hstr,hk⟩:=HM.o;obtain⟨hs2,hge⟩:=HX.o;have hal:Upd (fun _=>False) wr (wr.alloc (.map #[] 0)):=(uur _ wr).alloc _;have hsc:Upd (fun j=>j=w.heap.size) (wr.alloc (.map #[] 0)) ((wr.alloc (.map #[] 0)).setCell ⟨w.heap.size,k,none⟩ (.map (some wr.heap.size))):=zj _ _ _ _;refine⟨k+1,oM,by go_num,⟨M++[(wr.heap.size,fun _=>false)],?_,by simp[hM.len],?_,?_,?_⟩,(hu.trans (hal.mono fE)).trans hsc⟩
    .have h3:=(hM.sl.keep hal (fun _ _ h=>h)).setAt k oM (.map (some wr.heap.size));rw[qYe]at h3;have e:(LgC M++List.replicate (n-k) (Value.map none)).set k (.map (some wr.heap.size))=LgC (M++[(wr.heap.size,fun _=>false)])++List.replicate (n-(k+1)) (.map none):=by
      have:n-k=(n-(k+1))+1:=oM;rw[this,List.replicate_succ,qXj _ _ (by simp[hM.len])];simp[hM.len,LgC]
     rw[e]at h3;exact h3
    .intro p hp;rcases qzq.1 hp with hp|hp
     .refine ⟨((hM.sets p hp).1.keep hal id).keep hsc (fun e=>?_),(hM.sets p hp).2⟩;have:=hM.lo p hp;omega
     .simp at hp;subst hp;exact⟨((SetAt.made wr).mono oM).keep hsc (fun e=>by have e':wr.heap.size=w.heap.size:=e;omega),rfl⟩
    .rw [qzl,qXa];refine⟨hM.nd,oe,?_⟩;intro x hx y hy e;simp at hy;subst hy;obtain⟨p,hp,rfl⟩:=qzv.1 hx;have:=(hM.sets p hp).1.lt;omega
    .intro p hp;rcases qzq.1 hp with hp|hp
     .exact hM.lo p hp
     .simp at hp;subst hp;show _<=wr.heap.size;omega
   case measure=>simp[intOf];omega
  .obtain rfl:k=n:=oM;have HM:=Y3 hM hu hstr;clear hM hu hstr hk hge hs2;go_wp2
   go_ret2
   obtain⟨hM,hu,hstr⟩:=HM.o;obtain⟨hb,hB,hsz,-,hn⟩:=HB.o;have hMM:∀p∈M,p.1<wr.heap.size:=fun p hp=>(hM.sets p hp).1.lt;refine⟨w.heap.size+1,rfl,⟨.slice (some ⟨w.heap.size,0,none⟩) k k,M,⟨hstr,by have:=hM.sl;rw[hM.len];simpa using this,fun p hp=>(hM.sets p hp).1,hM.nd,fun p hp=>⟨?_,?_⟩,by simp[Value.ownBlock],by rw[hM.len];exact h2,⟨h3,h4⟩,fun p hp s hs=>?_⟩,?_,?_⟩,zk hB hu oM (fun j e=>oM),oM⟩
   .have:=hM.lo p hp;omega
   .have:=hM.lo p hp;simp[Value.ownBlock];omega
   .rw [(hM.sets p hp).2]at hs;simp at hs
   .apply qye (by simp[hM.len]);intro i h1 h2;simp only[qyy,List.getElem_replicate];exact(hM.sets _ (qyz _)).2
   .rintro j (rfl|hj|hj)
    .exact hn _ oM
    .simp [Value.ownBlock]at hj;exact hn _ oM
    .obtain ⟨p,hp,rfl⟩:=qzv.1 hj;exact hn _ (by have:=hM.lo p hp;omega)
abbrev zcl:=Nat×((Nat->Prop)->World->Prop)
structure Mk(own0:Nat->Nat)(w0:World)(own:Nat->Nat)(w:World)(c:Nat)(cs:List Value)(bs bl:Nat)(us ul:Array Value)(L:List zcl):Prop where
 str:w.heap[c]?=some (.cells cs.toArray 172 (0,0))
 oc:own c=1
 cn:w0.heap.size<=c
 all:∀q∈L,Thing q.2/\q.1≠1/\q.2 (fun j=>own j=q.1) w
 far:∀j,w.heap.size<=j->own j=0
 nib:Nib w
 tur:Tur w
 on:own 0=0
 ot:own 1=0
 sb:w.heap[bs]?=some (.cells us 40 (0,0))
 lb:w.heap[bl]?=some (.cells ul 43 (0,0))
 bsc:bs≠c
 blc:bl≠c
 bel:Below w0.heap.size w0 w
 old:∀j,j<w0.heap.size->own j=own0 j
 new:∀j,w0.heap.size<=j->own j<16
section
variable{own0 own:Nat->Nat}{w0 w w':World}{c bs bl:Nat}{cs:List Value}{us ul:Array Value}{L:List zcl}
theorem Mk.add(h:Mk own0 w0 own w c cs bs bl us ul L)(t:Nat)(ht:t≠1/\t<16/\∀q∈L,q.1≠t){R:(Nat->Prop)->World->Prop}(hR:Thing R)(hb:Below w.heap.size w w')(hr:R (fun j=>w.heap.size<=j) w'):
  Mk own0 w0 (grow own t w.heap.size w'.heap.size) w' c cs bs bl us ul ((t,R)::L):=by
 have hu:=qqb hb;have hcl:=zf h.str;have ho:∀j,own j=t->j<w.heap.size\/t=0:=fun j hj=>by
  by_cases hl:j<w.heap.size
  .exact .inl hl
  .exact .inr (by rw[<-hj,h.far j oM])
 exact{
  str:=hu.j6 h.str
  oc:=(zy hcl).trans h.oc
  cn:=h.cn
  all:=fun q hq=>by
   rcases qzr.1 hq with rfl|hq
   .exact ⟨hR,ht.1,hR.out hr (fun j hj hs=>YX hs hj)⟩
   .obtain ⟨a1,a2,a3⟩:=h.all q hq;exact⟨a1,a2,a1.other a3 (ht.2.2 q hq) (hu.mono fE)⟩
  far:=fun j hj=>by
   have:=hu.size;unfold grow;rw[if_neg oM];exact h.far j oM
  nib:=h.nib.keep hu id
  tur:=h.tur.keep hu id
  on:=(zy h.nib.lt).trans h.on
  ot:=(zy h.tur.lt).trans h.ot
  sb:=hu.j6 h.sb
  lb:=hu.j6 h.lb
  bsc:=h.bsc
  blc:=h.blc
  bel:=zk h.bel hu (qXv _) (fun _ h=>h.elim)
  old:=fun j hj=>(zy (qXy hj h.bel.size)).trans (h.old j hj)
  new:=fun j hj=>by
   unfold grow;split
   .exact ht.2.1
   .exact h.new j hj}
theorem Mk.set(h:Mk own0 w0 own w c cs bs bl us ul L)(i:Nat)(v:Value):Mk own0 w0 own (w.setCell ⟨c,i,none⟩ v) c (cs.set i v) bs bl us ul L:=by
 have hu:=zj w c i v;have hne:∀(k j:Nat),k≠1->own j=k->¬j=c:=fun k j hk hj e=>hk (by rw[<-hj,e,h.oc]);exact{
  str:=by have:=zi h.str i v;simpa using this
  oc:=h.oc
  cn:=h.cn
  all:=fun q hq=>by
   obtain⟨a1,a2,a3⟩:=h.all q hq;exact⟨a1,a2,a1.keep a3 hu (fun j hj=>hne _ j a2 hj)⟩
  far:=fun j hj=>h.far j ow
  nib:=h.nib.keep hu (hne _ _ de h.on)
  tur:=h.tur.keep hu (hne _ _ de h.ot)
  on:=h.on
  ot:=h.ot
  sb:=(hu.block _ (zf h.sb) h.bsc).trans h.sb
  lb:=(hu.block _ (zf h.lb) h.blc).trans h.lb
  bsc:=h.bsc
  blc:=h.blc
  bel:=zk h.bel hu (qXv _) (fun j e=>e▸h.cn)
  old:=h.old
  new:=h.new}
theorem Mk.cell(h:Mk own0 w0 own w c cs bs bl us ul L)(i:Nat):w.cell? ⟨c,i,none⟩=cs[i]?:=by rw[za h.str];simp
theorem Mk.part(h:Mk own0 w0 own w c cs bs bl us ul L){t:Nat}{R:(Nat->Prop)->World->Prop}(hq:(t,R)∈L):R (fun j=>own j=t) w:=(h.all _ hq).2.2
end
theorem Mk.start{own0:Nat->Nat}{w0 w4:World}{bs bl ssd back:Nat}{us ul:Array Value}{dF bF:List Bk}{dO bO:List (Nat×Bk)}{dP bP:List Int}(cs:List Value)(hU:Upd (fun _=>False) w0 w4)
  (h2:Dv (fun j=>own0 j=2) w0 ssd dF dO dP) (h3:Dv (fun j=>own0 j=3) w0 back bF bO bP) (far:∀j,w0.heap.size<=j->own0 j=0) (nib:Nib w0) (tur:Tur w0) (on:own0 0=0) (ot:own0 1=0)
  (sb:w4.heap[bs]?=some (.cells us 40 (0,0))) (lb:w4.heap[bl]?=some (.cells ul 43 (0,0))):
  ∃own,Mk own0 w0 own ((w4.alloc (.map #[] 0)).alloc (.cells cs.toArray 172)) (w4.heap.size+1) cs bs bl us ul
   [(9,fun S w=>Mp S w w4.heap.size 0 (fun _=>none)),(3,fun S w=>Dv S w back bF bO bP),(2,fun S w=>Dv S w ssd dF dO dP)]:=by
 obtain⟨w5,hw5⟩:=qqe ((w4.alloc (.map #[] 0)).alloc (.cells cs.toArray 172));have hu1:Upd (fun _=>False) w4 (w4.alloc (.map #[] 0)):=(uur _ w4).alloc _;have hu2:Upd (fun _=>False) (w4.alloc (.map #[] 0)) w5:=by rw[hw5];exact(uur _ _).alloc _
 have hu:=hu1.trans hu2;have hz:w5.heap.size=w4.heap.size+2:=by rw[hw5];simp
 have hs:=hU.size;have hl:=zf sb;have hl2:=zf lb;have hnl:=nib.lt;have htl:=tur.lt;have hout:∀(k:Nat),k≠0->∀(R:(Nat->Prop)->World->Prop),Thing R->R (fun j=>own0 j=k) w0->R (fun j=>(if j=w4.heap.size then 9 else if j=w4.heap.size+1 then 1 else own0 j)=k) w5:=fun k hk R hR h=>by
  have h1:R (fun j=>own0 j=k/\j<w0.heap.size) w0:=hR.out h (fun j hj hs=>⟨hs,hj⟩);exact hR.out (hR.new h1 (hU.trans hu)) (fun j hj ⟨a,b⟩=>by rw[if_neg oM,if_neg oM];exact a)
 rw[<-hw5];refine⟨fun j=>if j=w4.heap.size then 9 else if j=w4.heap.size+1 then 1 else own0 j,?_⟩;exact{
  str:=by rw[hw5];exact zc _ _ oe
  oc:=by rw[if_neg oM,if_pos rfl]
  cn:=oM
  all:=fun q hq=>by
   simp only[qzr,qXd,qZb]at hq;rcases hq with rfl|rfl|rfl
   .exact ⟨Mp.kU _ _ _,(by show(9:Nat)≠1;decide),(MapAt.made w4).keep hu2 id,oe⟩
   .exact ⟨Dv.kU _ _ _ _,(by show(3:Nat)≠1;decide),hout 3 de _ (Dv.kU _ _ _ _) h3⟩
   .exact ⟨Dv.kU _ _ _ _,(by show(2:Nat)≠1;decide),hout 2 de _ (Dv.kU _ _ _ _) h2⟩
  far:=fun j hj=>by rw[if_neg oM,if_neg oM];exact far j oM
  nib:=nib.keep (hU.trans hu) id
  tur:=tur.keep (hU.trans hu) id
  on:=by rw[if_neg oM,if_neg oM];exact on
  ot:=by rw[if_neg oM,if_neg oM];exact ot
  sb:=hu.j6 sb
  lb:=hu.j6 lb
  bsc:=oM
  blc:=oM
  bel:=Upd.below (hU.trans hu)
  old:=fun j hj=>by rw[if_neg oM,if_neg oM]
  new:=fun j hj=>by
   split
   .decide
   .split
    .decide
    .rw [far j hj];decide}
theorem JJ(n s:Nat)(w:World)(h1:1<=n)(h2:n<=4096)(h3:1<=s)(h4:s<=1024):
  Calls prog 132 #[.int .i64 n,.int .i64 s] w fun e w'=>∃b,e=.returned (.tuple #[ptr b,.int .i64 0])/\Ix (fun j=>w.heap.size<=j) w' b 0 (List.replicate n (-1,false)) s/\Below w.heap.size w w':=
 (JF n s w h1 h2 h3 h4).mono fun _ _ ⟨b,v,mb,he,hi,hb,hm,hf,hw⟩=>⟨b,he,⟨v,mb,hi,hb,fun j hj=>by rcases hj with hj|hj;exact hf j hj;exact hj▸hm⟩,hw⟩
theorem JK(n:Nat)(w:World)(h1:1<=n)(h2:n<=1024):
  Calls prog 133 #[.int .i64 n] w fun e w'=>∃b,e=.returned (.tuple #[ptr b,.int .i64 0])/\Ss (fun j=>w.heap.size<=j) w' b (List.replicate n 0)/\Below w.heap.size w w':=
 (Jf n w h1 h2).mono fun _ _ ⟨he,hs,hw,_⟩=>⟨_,he,⟨_,hs,by show _<=_;omega,fun j hj=>by simp[Value.ownBlock]at hj;show _<=_;omega⟩,hw⟩
end Go.Proofs.YtfhfbpmlnjdfoaaGreatDoor
