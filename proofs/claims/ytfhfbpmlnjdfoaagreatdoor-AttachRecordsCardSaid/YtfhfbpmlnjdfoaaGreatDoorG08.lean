/- What becomes of a cache where one of its thing -/
import Derived.Test.YtfhfbpmlnjdfoaaGreatDoorG07
set_option maxRecDepth 100000
set_option maxHeartbeats 1000000
namespace Go.Proofs.YtfhfbpmlnjdfoaaGreatDoor
open Go Go.RowKit
section
variable{own:Nat->Nat}{w w':World}{c:Nat}{n:CaN}{p:CaP}{a:CaS}
theorem CaAt.turn2(h:CaAt own w c n p a){F:List Bk}{O:List (Nat×Bk)}{P:List Int}(hu:Upd (fun j=>own j=2\/w.heap.size<=j) w w')(hd:Dv (fun j=>own j=2\/w.heap.size<=j) w' p.ssd F O P)(hl:F.length=a.dF.length):
  CaAt (grow own 2 w.heap.size w'.heap.size) w' c n p {a with dF:=F,dO:=O,dP:=P}:=
 {h with
  str:=(hu.block c h.clt (fun hs=>by rcases hs with hs|hs;rw[h.oc]at hs;exact absurd hs (by decide);exact absurd h.clt (by omega))).trans h.str
  oc:=(zx h.clt).trans h.oc
  ssd:=(Dv.thing _ _ _ _).mine hu.size hd
  back:=(Dv.thing _ _ _ _).other h.back (by decide) hu
  jr:=(Jn.thing _ _ _ _ _ _ _).other h.jr (by decide) hu
  ix:=(Ix.thing _ _ _ _).other h.ix (by decide) hu
  ss:=(Ss.thing _ _).other h.ss (by decide) hu
  lg:=(Lg.thing _ _ _).other h.lg (by decide) hu
  ck:=(Ck.thing _ _ _ _ _ _ _).other h.ck (by decide) hu
  sm:=(Mp.thing _ _ _).other h.sm (by decide) hu
  far:=(Did.step h.far (t:=2) (by decide) (by decide) hu).far
  nib:=h.nib.keep hu (fun hs=>by rcases hs with hs|hs;rw[h.on]at hs;exact absurd hs (by decide);exact absurd h.nib.lt (by omega))
  tur:=h.tur.keep hu (fun hs=>by rcases hs with hs|hs;rw[h.ot]at hs;exact absurd hs (by decide);exact absurd h.tur.lt (by omega))
  on:=(zx h.nib.lt).trans h.on
  ot:=(zx h.tur.lt).trans h.ot
  fl:=hl.trans h.fl
 }
theorem CaAt.did2(h:CaAt own w c n p a)(hu:Upd (fun j=>own j=2\/w.heap.size<=j) w w'):Did own (grow own 2 w.heap.size w'.heap.size) w w':=Did.step h.far (by decide) (by decide) hu
theorem CaAt.open2(h:CaAt own w c n p a):Dv (fun j=>own j=2\/w.heap.size<=j) w p.ssd a.dF a.dO a.dP:=(Dv.thing _ _ _ _).open h.ssd
theorem CaAt.turn3(h:CaAt own w c n p a){F:List Bk}{O:List (Nat×Bk)}{P:List Int}(hu:Upd (fun j=>own j=3\/w.heap.size<=j) w w')(hd:Dv (fun j=>own j=3\/w.heap.size<=j) w' p.back F O P)(hl:F.length=a.bF.length):
  CaAt (grow own 3 w.heap.size w'.heap.size) w' c n p {a with bF:=F,bO:=O,bP:=P}:=
 {h with
  str:=(hu.block c h.clt (fun hs=>by rcases hs with hs|hs;rw[h.oc]at hs;exact absurd hs (by decide);exact absurd h.clt (by omega))).trans h.str
  oc:=(zx h.clt).trans h.oc
  ssd:=(Dv.thing _ _ _ _).other h.ssd (by decide) hu
  back:=(Dv.thing _ _ _ _).mine hu.size hd
  jr:=(Jn.thing _ _ _ _ _ _ _).other h.jr (by decide) hu
  ix:=(Ix.thing _ _ _ _).other h.ix (by decide) hu
  ss:=(Ss.thing _ _).other h.ss (by decide) hu
  lg:=(Lg.thing _ _ _).other h.lg (by decide) hu
  ck:=(Ck.thing _ _ _ _ _ _ _).other h.ck (by decide) hu
  sm:=(Mp.thing _ _ _).other h.sm (by decide) hu
  far:=(Did.step h.far (t:=3) (by decide) (by decide) hu).far
  nib:=h.nib.keep hu (fun hs=>by rcases hs with hs|hs;rw[h.on]at hs;exact absurd hs (by decide);exact absurd h.nib.lt (by omega))
  tur:=h.tur.keep hu (fun hs=>by rcases hs with hs|hs;rw[h.ot]at hs;exact absurd hs (by decide);exact absurd h.tur.lt (by omega))
  on:=(zx h.nib.lt).trans h.on
  ot:=(zx h.tur.lt).trans h.ot
  gl:=hl.trans h.gl
 }
theorem CaAt.did3(h:CaAt own w c n p a)(hu:Upd (fun j=>own j=3\/w.heap.size<=j) w w'):Did own (grow own 3 w.heap.size w'.heap.size) w w':=Did.step h.far (by decide) (by decide) hu
theorem CaAt.open3(h:CaAt own w c n p a):Dv (fun j=>own j=3\/w.heap.size<=j) w p.back a.bF a.bO a.bP:=(Dv.thing _ _ _ _).open h.back
theorem CaAt.turn4(h:CaAt own w c n p a){cov next:Nat}{W:List (Nat×Bk)}(hu:Upd (fun j=>own j=4\/w.heap.size<=j) w w')(hd:Jn (fun j=>own j=4\/w.heap.size<=j) w' p.jr p.ssd (1+2*n.pa) n.jo cov next W):
  CaAt (grow own 4 w.heap.size w'.heap.size) w' c n p {a with cov:=cov,next:=next,W:=W}:=
 {h with
  str:=(hu.block c h.clt (fun hs=>by rcases hs with hs|hs;rw[h.oc]at hs;exact absurd hs (by decide);exact absurd h.clt (by omega))).trans h.str
  oc:=(zx h.clt).trans h.oc
  ssd:=(Dv.thing _ _ _ _).other h.ssd (by decide) hu
  back:=(Dv.thing _ _ _ _).other h.back (by decide) hu
  jr:=(Jn.thing _ _ _ _ _ _ _).mine hu.size hd
  ix:=(Ix.thing _ _ _ _).other h.ix (by decide) hu
  ss:=(Ss.thing _ _).other h.ss (by decide) hu
  lg:=(Lg.thing _ _ _).other h.lg (by decide) hu
  ck:=(Ck.thing _ _ _ _ _ _ _).other h.ck (by decide) hu
  sm:=(Mp.thing _ _ _).other h.sm (by decide) hu
  far:=(Did.step h.far (t:=4) (by decide) (by decide) hu).far
  nib:=h.nib.keep hu (fun hs=>by rcases hs with hs|hs;rw[h.on]at hs;exact absurd hs (by decide);exact absurd h.nib.lt (by omega))
  tur:=h.tur.keep hu (fun hs=>by rcases hs with hs|hs;rw[h.ot]at hs;exact absurd hs (by decide);exact absurd h.tur.lt (by omega))
  on:=(zx h.nib.lt).trans h.on
  ot:=(zx h.tur.lt).trans h.ot
 }
theorem CaAt.did4(h:CaAt own w c n p a)(hu:Upd (fun j=>own j=4\/w.heap.size<=j) w w'):Did own (grow own 4 w.heap.size w'.heap.size) w w':=Did.step h.far (by decide) (by decide) hu
theorem CaAt.open4(h:CaAt own w c n p a):Jn (fun j=>own j=4\/w.heap.size<=j) w p.jr p.ssd (1+2*n.pa) n.jo a.cov a.next a.W:=(Jn.thing _ _ _ _ _ _ _).open h.jr
theorem CaAt.turn5(h:CaAt own w c n p a){N:Nat}{ps:List (Int×Bool)}(hu:Upd (fun j=>own j=5\/w.heap.size<=j) w w')(hd:Ix (fun j=>own j=5\/w.heap.size<=j) w' p.ix N ps n.sl)(hl:ps.length=a.ps.length):
  CaAt (grow own 5 w.heap.size w'.heap.size) w' c n p {a with iN:=N,ps:=ps}:=
 {h with
  str:=(hu.block c h.clt (fun hs=>by rcases hs with hs|hs;rw[h.oc]at hs;exact absurd hs (by decide);exact absurd h.clt (by omega))).trans h.str
  oc:=(zx h.clt).trans h.oc
  ssd:=(Dv.thing _ _ _ _).other h.ssd (by decide) hu
  back:=(Dv.thing _ _ _ _).other h.back (by decide) hu
  jr:=(Jn.thing _ _ _ _ _ _ _).other h.jr (by decide) hu
  ix:=(Ix.thing _ _ _ _).mine hu.size hd
  ss:=(Ss.thing _ _).other h.ss (by decide) hu
  lg:=(Lg.thing _ _ _).other h.lg (by decide) hu
  ck:=(Ck.thing _ _ _ _ _ _ _).other h.ck (by decide) hu
  sm:=(Mp.thing _ _ _).other h.sm (by decide) hu
  far:=(Did.step h.far (t:=5) (by decide) (by decide) hu).far
  nib:=h.nib.keep hu (fun hs=>by rcases hs with hs|hs;rw[h.on]at hs;exact absurd hs (by decide);exact absurd h.nib.lt (by omega))
  tur:=h.tur.keep hu (fun hs=>by rcases hs with hs|hs;rw[h.ot]at hs;exact absurd hs (by decide);exact absurd h.tur.lt (by omega))
  on:=(zx h.nib.lt).trans h.on
  ot:=(zx h.tur.lt).trans h.ot
  pl:=hl.trans h.pl
 }
theorem CaAt.did5(h:CaAt own w c n p a)(hu:Upd (fun j=>own j=5\/w.heap.size<=j) w w'):Did own (grow own 5 w.heap.size w'.heap.size) w w':=Did.step h.far (by decide) (by decide) hu
theorem CaAt.open5(h:CaAt own w c n p a):Ix (fun j=>own j=5\/w.heap.size<=j) w p.ix a.iN a.ps n.sl:=(Ix.thing _ _ _ _).open h.ix
theorem CaAt.turn6(h:CaAt own w c n p a){l:List Int}(hu:Upd (fun j=>own j=6\/w.heap.size<=j) w w')(hd:Ss (fun j=>own j=6\/w.heap.size<=j) w' p.ss l)(hl:l.length=a.st.length):
  CaAt (grow own 6 w.heap.size w'.heap.size) w' c n p {a with st:=l}:=
 {h with
  str:=(hu.block c h.clt (fun hs=>by rcases hs with hs|hs;rw[h.oc]at hs;exact absurd hs (by decide);exact absurd h.clt (by omega))).trans h.str
  oc:=(zx h.clt).trans h.oc
  ssd:=(Dv.thing _ _ _ _).other h.ssd (by decide) hu
  back:=(Dv.thing _ _ _ _).other h.back (by decide) hu
  jr:=(Jn.thing _ _ _ _ _ _ _).other h.jr (by decide) hu
  ix:=(Ix.thing _ _ _ _).other h.ix (by decide) hu
  ss:=(Ss.thing _ _).mine hu.size hd
  lg:=(Lg.thing _ _ _).other h.lg (by decide) hu
  ck:=(Ck.thing _ _ _ _ _ _ _).other h.ck (by decide) hu
  sm:=(Mp.thing _ _ _).other h.sm (by decide) hu
  far:=(Did.step h.far (t:=6) (by decide) (by decide) hu).far
  nib:=h.nib.keep hu (fun hs=>by rcases hs with hs|hs;rw[h.on]at hs;exact absurd hs (by decide);exact absurd h.nib.lt (by omega))
  tur:=h.tur.keep hu (fun hs=>by rcases hs with hs|hs;rw[h.ot]at hs;exact absurd hs (by decide);exact absurd h.tur.lt (by omega))
  on:=(zx h.nib.lt).trans h.on
  ot:=(zx h.tur.lt).trans h.ot
  sl:=hl.trans h.sl
 }
theorem CaAt.did6(h:CaAt own w c n p a)(hu:Upd (fun j=>own j=6\/w.heap.size<=j) w w'):Did own (grow own 6 w.heap.size w'.heap.size) w w':=Did.step h.far (by decide) (by decide) hu
theorem CaAt.open6(h:CaAt own w c n p a):Ss (fun j=>own j=6\/w.heap.size<=j) w p.ss a.st:=(Ss.thing _ _).open h.ss
theorem CaAt.turn7(h:CaAt own w c n p a){G:List (Int->Bool)}(hu:Upd (fun j=>own j=7\/w.heap.size<=j) w w')(hd:Lg (fun j=>own j=7\/w.heap.size<=j) w' p.lg n.bl G)(hl:G.length=a.G.length):
  CaAt (grow own 7 w.heap.size w'.heap.size) w' c n p {a with G:=G}:=
 {h with
  str:=(hu.block c h.clt (fun hs=>by rcases hs with hs|hs;rw[h.oc]at hs;exact absurd hs (by decide);exact absurd h.clt (by omega))).trans h.str
  oc:=(zx h.clt).trans h.oc
  ssd:=(Dv.thing _ _ _ _).other h.ssd (by decide) hu
  back:=(Dv.thing _ _ _ _).other h.back (by decide) hu
  jr:=(Jn.thing _ _ _ _ _ _ _).other h.jr (by decide) hu
  ix:=(Ix.thing _ _ _ _).other h.ix (by decide) hu
  ss:=(Ss.thing _ _).other h.ss (by decide) hu
  lg:=(Lg.thing _ _ _).mine hu.size hd
  ck:=(Ck.thing _ _ _ _ _ _ _).other h.ck (by decide) hu
  sm:=(Mp.thing _ _ _).other h.sm (by decide) hu
  far:=(Did.step h.far (t:=7) (by decide) (by decide) hu).far
  nib:=h.nib.keep hu (fun hs=>by rcases hs with hs|hs;rw[h.on]at hs;exact absurd hs (by decide);exact absurd h.nib.lt (by omega))
  tur:=h.tur.keep hu (fun hs=>by rcases hs with hs|hs;rw[h.ot]at hs;exact absurd hs (by decide);exact absurd h.tur.lt (by omega))
  on:=(zx h.nib.lt).trans h.on
  ot:=(zx h.tur.lt).trans h.ot
  Gl:=hl.trans h.Gl
 }
theorem CaAt.did7(h:CaAt own w c n p a)(hu:Upd (fun j=>own j=7\/w.heap.size<=j) w w'):Did own (grow own 7 w.heap.size w'.heap.size) w w':=Did.step h.far (by decide) (by decide) hu
theorem CaAt.open7(h:CaAt own w c n p a):Lg (fun j=>own j=7\/w.heap.size<=j) w p.lg n.bl a.G:=(Lg.thing _ _ _).open h.lg
theorem CaAt.turn8(h:CaAt own w c n p a){N:Nat}{K H:List Int}{A:Int->Bool}(hu:Upd (fun j=>own j=8\/w.heap.size<=j) w w')(hd:Ck (fun j=>own j=8\/w.heap.size<=j) w' p.ck N n.sl n.sl K A H):
  CaAt (grow own 8 w.heap.size w'.heap.size) w' c n p {a with kN:=N,K:=K,A:=A,H:=H}:=
 {h with
  str:=(hu.block c h.clt (fun hs=>by rcases hs with hs|hs;rw[h.oc]at hs;exact absurd hs (by decide);exact absurd h.clt (by omega))).trans h.str
  oc:=(zx h.clt).trans h.oc
  ssd:=(Dv.thing _ _ _ _).other h.ssd (by decide) hu
  back:=(Dv.thing _ _ _ _).other h.back (by decide) hu
  jr:=(Jn.thing _ _ _ _ _ _ _).other h.jr (by decide) hu
  ix:=(Ix.thing _ _ _ _).other h.ix (by decide) hu
  ss:=(Ss.thing _ _).other h.ss (by decide) hu
  lg:=(Lg.thing _ _ _).other h.lg (by decide) hu
  ck:=(Ck.thing _ _ _ _ _ _ _).mine hu.size hd
  sm:=(Mp.thing _ _ _).other h.sm (by decide) hu
  far:=(Did.step h.far (t:=8) (by decide) (by decide) hu).far
  nib:=h.nib.keep hu (fun hs=>by rcases hs with hs|hs;rw[h.on]at hs;exact absurd hs (by decide);exact absurd h.nib.lt (by omega))
  tur:=h.tur.keep hu (fun hs=>by rcases hs with hs|hs;rw[h.ot]at hs;exact absurd hs (by decide);exact absurd h.tur.lt (by omega))
  on:=(zx h.nib.lt).trans h.on
  ot:=(zx h.tur.lt).trans h.ot
 }
theorem CaAt.did8(h:CaAt own w c n p a)(hu:Upd (fun j=>own j=8\/w.heap.size<=j) w w'):Did own (grow own 8 w.heap.size w'.heap.size) w w':=Did.step h.far (by decide) (by decide) hu
theorem CaAt.open8(h:CaAt own w c n p a):Ck (fun j=>own j=8\/w.heap.size<=j) w p.ck a.kN n.sl n.sl a.K a.A a.H:=(Ck.thing _ _ _ _ _ _ _).open h.ck
theorem CaAt.turn9(h:CaAt own w c n p a){N:Nat}{f:Int->Option Nat}(hu:Upd (fun j=>own j=9\/w.heap.size<=j) w w')(hd:Mp (fun j=>own j=9\/w.heap.size<=j) w' p.sm N f):
  CaAt (grow own 9 w.heap.size w'.heap.size) w' c n p {a with mN:=N,sums:=f}:=
 {h with
  str:=(hu.block c h.clt (fun hs=>by rcases hs with hs|hs;rw[h.oc]at hs;exact absurd hs (by decide);exact absurd h.clt (by omega))).trans h.str
  oc:=(zx h.clt).trans h.oc
  ssd:=(Dv.thing _ _ _ _).other h.ssd (by decide) hu
  back:=(Dv.thing _ _ _ _).other h.back (by decide) hu
  jr:=(Jn.thing _ _ _ _ _ _ _).other h.jr (by decide) hu
  ix:=(Ix.thing _ _ _ _).other h.ix (by decide) hu
  ss:=(Ss.thing _ _).other h.ss (by decide) hu
  lg:=(Lg.thing _ _ _).other h.lg (by decide) hu
  ck:=(Ck.thing _ _ _ _ _ _ _).other h.ck (by decide) hu
  sm:=(Mp.thing _ _ _).mine hu.size hd
  far:=(Did.step h.far (t:=9) (by decide) (by decide) hu).far
  nib:=h.nib.keep hu (fun hs=>by rcases hs with hs|hs;rw[h.on]at hs;exact absurd hs (by decide);exact absurd h.nib.lt (by omega))
  tur:=h.tur.keep hu (fun hs=>by rcases hs with hs|hs;rw[h.ot]at hs;exact absurd hs (by decide);exact absurd h.tur.lt (by omega))
  on:=(zx h.nib.lt).trans h.on
  ot:=(zx h.tur.lt).trans h.ot
 }
theorem CaAt.did9(h:CaAt own w c n p a)(hu:Upd (fun j=>own j=9\/w.heap.size<=j) w w'):Did own (grow own 9 w.heap.size w'.heap.size) w w':=Did.step h.far (by decide) (by decide) hu
theorem CaAt.turn1(h:CaAt own w c n p a)(x:Nat)(hx:x<=1):CaAt own (w.setCell ⟨c,16,none⟩ (.int .i64 (x:Int))) c n p {a with which:=x}:=by
 have hu:Upd (fun j=>j=c) w (w.setCell ⟨c,16,none⟩ (.int .i64 (x:Int))):=zi w c 16 _;have hne:∀(k j:Nat),k≠1->own j=k->¬j=c:=fun k j hk hj e=>hk (by rw[<-hj,e,h.oc]);exact{h with
  str:=zh h.str 16 _
  ssd:=h.ssd.keep hu (fun j hj=>hne _ j (by decide) hj)
  back:=h.back.keep hu (fun j hj=>hne _ j (by decide) hj)
  jr:=(Jn.thing _ _ _ _ _ _ _).keep h.jr hu (fun j hj=>hne _ j (by decide) hj)
  ix:=(Ix.thing _ _ _ _).keep h.ix hu (fun j hj=>hne _ j (by decide) hj)
  ss:=(Ss.thing _ _).keep h.ss hu (fun j hj=>hne _ j (by decide) hj)
  lg:=(Lg.thing _ _ _).keep h.lg hu (fun j hj=>hne _ j (by decide) hj)
  ck:=h.ck.keep hu (fun j hj=>hne _ j (by decide) hj)
  sm:=(Mp.thing _ _ _).keep h.sm hu (fun j hj=>hne _ j (by decide) hj)
  far:=fun j hj=>h.far j (by simpa using hj)
  nib:=h.nib.keep hu (hne _ _ (by decide) h.on)
  tur:=h.tur.keep hu (hne _ _ (by decide) h.ot)
  wh:=hx}
theorem CaAt.did1(h:CaAt own w c n p a)(x:Value):Did own own w (w.setCell ⟨c,16,none⟩ x):=(Did.refl h.far).setCell ⟨c,16,none⟩ (fun _=>by rw[show own c=1 from h.oc];exact⟨by decide,by decide⟩) x
theorem CaAt.didNew(h:CaAt own w c n p a)(hu:Upd (fun _=>False) w w'):Did own own w w':=⟨hu.mono (fun _ _ h=>h.elim),fun _ _=>rfl,fun j hj=>by rw[h.far j hj];decide,fun j hj=>h.far j (qXx hu.size hj)⟩
end
def zu(own:Nat->Nat)(w:World)(c:Nat)(n:CaN)(p:CaP)(a:CaS)(v:Value)(e:Ending)(w':World):Prop:=
 e=.returned v/\∃own',CaAt own' w' c n p a/\Did own own' w w'
section
variable{own:Nat->Nat}{w w':World}{c:Nat}{n:CaN}{p:CaP}{a:CaS}
theorem CaAt.cells(h:CaAt own w c n p a):w.cell? ⟨c,14,none⟩=some (ptr p.ssd)/\w.cell? ⟨c,15,none⟩=some (ptr p.back)/\w.cell? ⟨c,16,none⟩=some (.int .i64 (a.which:Int))/\
  w.cell? ⟨c,17,none⟩=some (ptr p.jr)/\w.cell? ⟨c,18,none⟩=some (ptr p.ix)/\w.cell? ⟨c,19,none⟩=some (ptr p.ss)/\w.cell? ⟨c,20,none⟩=some (ptr p.lg)/\w.cell? ⟨c,21,none⟩=some (ptr p.ck)/\w.cell? ⟨c,22,none⟩=some (.map (some p.sm)):=by
 have hc:=za h.str;exact⟨hc 14,hc 15,hc 16,hc 17,hc 18,hc 19,hc 20,hc 21,hc 22⟩
theorem CaAt.sup(h:CaAt own w c n p a):w.cell? ⟨c,0,none⟩=some (.int .i64 (n.id:Int))/\w.cell? ⟨c,1,none⟩=some (.int .i64 (n.bl:Int))/\w.cell? ⟨c,2,none⟩=some (.int .i64 (n.sl:Int))/\
  w.cell? ⟨c,3,none⟩=some (.int .i64 (n.jo:Int))/\w.cell? ⟨c,4,none⟩=some (.int .i64 (n.pa:Int))/\w.cell? ⟨c,5,none⟩=some (.int .i64 (n.lo:Int))/\w.cell? ⟨c,6,none⟩=some (.int .i64 (n.ba:Int)):=by
 have hc:=za h.str;exact⟨hc 0,hc 1,hc 2,hc 3,hc 4,hc 5,hc 6⟩
theorem CaAt.lay(h:CaAt own w c n p a):w.cell? ⟨c,7,none⟩=some (.int .i64 1)/\w.cell? ⟨c,8,none⟩=some (.int .i64 (1+2*(n.pa:Int)))/\w.cell? ⟨c,13,none⟩=some (.int .i64 (1+2*(n.pa:Int)+(n.jo:Int)+(n.lo:Int)+(n.lo:Int)+(n.lo:Int)+(n.sl:Int)))/\
  w.cell? ⟨c,12,none⟩=some (.int .i64 (1+2*(n.pa:Int)+(n.jo:Int)+(n.lo:Int)+(n.lo:Int)+(n.lo:Int))):=by
 have hc:=za h.str;exact⟨hc 7,hc 8,hc 13,hc 12⟩
theorem CaAt.fz(h:CaAt own w c n p a)(i:Nat):w.frozen? ⟨c,i,none⟩=false:=zf h.str i
theorem sJ(h:CaAt own w c n p a):Calls Tryz.prog 46 #[ptr p.ssd] w (zu own w c n p {a with dF:=(flushR a.dF a.dO a.dP).F,dO:=(flushR a.dF a.dO a.dP).O,dP:=(flushR a.dF a.dO a.dP).P} (.int .i64 (flushR a.dF a.dO a.dP).cd)):=
 (xF h.open2 (fun _ h=> .inr h)).mono fun _ _ ⟨he,hd,hu⟩=>⟨he,_,h.turn2 hu hd (by simp only[flushR];(repeat' split)<;>simp[zH]),h.did2 hu⟩
theorem xJ(h:CaAt own w c n p a):Calls Tryz.prog 46 #[ptr p.back] w (zu own w c n p {a with bF:=(flushR a.bF a.bO a.bP).F,bO:=(flushR a.bF a.bO a.bP).O,bP:=(flushR a.bF a.bO a.bP).P} (.int .i64 (flushR a.bF a.bO a.bP).cd)):=
 (xF h.open3 (fun _ h=> .inr h)).mono fun _ _ ⟨he,hd,hu⟩=>⟨he,_,h.turn3 hu hd (by simp only[flushR];(repeat' split)<;>simp[zH]),h.did3 hu⟩
theorem ca_jnext(h:CaAt own w c n p a):Calls Tryz.prog 154 #[ptr p.jr] w fun e w'=>e=.returned (.int .i64 (a.next:Int))/\w=w':=Vj h.jr
end
theorem JC:(Tryz.prog.info? 289).map (fun i=>(i.zero.map (fun z=>(z.cells.size,z.cells.all (·.oneCell'))),i.size))=some (some (65,true),65):=by kernel_rfl
theorem sK:∃i z,Tryz.prog.info? 289=some i/\i.zero=some z/\z.cells.size=65/\z.cells.all (·.oneCell')=true/\i.size=65:=by
 obtain⟨i,hi,h⟩:=qYi.1 JC;simp only[qYk]at h;obtain⟨h1,h2⟩:=h;obtain⟨z,hz,hs⟩:=qYi.1 h1;simp only[qYk]at hs;exact⟨i,z,hi,hz,hs.1,hs.2,h2⟩
theorem sM{w:World}{g off n cap:Nat}{cur:Array Value}(hg:w.heap[g]?=some (.cells cur 289 (0,0)))(hs:off+n*65<=cur.size)(hn:0<n):
  ∃w',(∀ty,(Builtin.clear_ #[274] ty #[.slice (some ⟨g,off,none⟩) n cap]).run Tryz.prog w=.ok (.tuple #[]) w')/\Upd (fun j=>j=g) w w'/\
   ∃cur',w'.heap[g]?=some (.cells cur' 289 (0,0))/\cur'.size=cur.size:=by
 obtain⟨i,z,hi,hz,hzs,hz1,hsz⟩:=sK;have hlen:(Builtin.zeroCells z.cells n).toList.length=n*65:=by simp[Builtin.zeroCells,hzs]
 have h1:∀v∈(Builtin.zeroCells z.cells n).toList,v.oneCell'=true:=by
  intro v hv;simp only[Builtin.zeroCells,Array.toList_map,qzv]at hv;obtain⟨k,hk,rfl⟩:=hv;have:k%z.cells.size<z.cells.size:=qYa _ (by omega);rw[getElem!_pos z.cells (k%z.cells.size) this];exact Array.all_eq_true.1 hz1 _ this
 have hst:=run_storeCells_cells (P:=Tryz.prog) g off (Builtin.zeroCells z.cells n).toList 0 w
  (fun j hj=>by rw[hlen]at hj;rw[za hg,qXs,qxe (by omega)];rfl) (fun j hj=>zf hg _) h1
 simp only[qXs]at hst;obtain⟨cur',h2,h3,-⟩:=zG (Builtin.zeroCells z.cells n).toList off w g cur _ _ hg;have hzr:∀w,(zeroValue 289).run Tryz.prog w=.ok z w:=fun w=>by simp[zeroValue,typeInfo,hi,hz]
 refine⟨_,fun ty=>?_,yv _ w g off _ rfl,cur',h2,h3⟩;obtain⟨m,rfl⟩:∃m,n=m+1:=⟨n-1,by omega⟩
 simp[Builtin.clear_,run_underlying Tryz.underlying274,hzr,hst]
abbrev Ax(q:Nat):Value:=.func (.func 219) #[] #[.pointer (some ⟨q,0,none⟩)]
theorem zar{w:World}{next:Nat}{vw:Value}{W:List (Nat×Bk)}(h:WtAt w vw next W)(q:Nat)(s:Int)(hq:w.cell? ⟨q,0,none⟩=some (.int .i64 s))(hs:s=(next:Int)-1):
  Calls Tryz.prog 285 #[vw,Ax q] w fun e w'=>e=.returned (.int .i64 (if W=[]then-1 else 0))/\Below w.heap.size w w':=by
 by_cases h0:W=[]
 .subst h0;rw[if_pos rfl];obtain⟨ao,c,rfl⟩:=h.ws.rd.nil_iff;clear h;go_enter Tryz.func285,Tryz.ntmps285
  go_wp2
  go_loop [8] (fun i=>i=.int .i64 0) (fun _=>0)
  case atStart=>rfl
  case round=>
   subst hrel;go_wp2
   go_ret
   exact⟨rfl,qxl _ _⟩
 .rw [if_neg h0];have hl:0<W.length:=by cases W with|nil=>exact absurd rfl h0|cons a l=>simp
  obtain⟨g,off,cap,rfl,hgl,hcap,hr⟩:=h.range hl;have hlt:=h.lt W[0] (qyz hl);have h64:=h.w64 W[0] (qyz hl);have hwl:=h.wl;have hmx:=h.mx;rw[qYg,qXs]at hr;have b1:(0:Int)<(W.length:Int):=by omega
  have hc:=Jj w q s hq W[0].1 W[0].2 (by omega);generalize W[0].1=x at*;generalize W[0].2=y at*;have HC:=qqh hc;clear h h0 hc hs hq hlt;generalize W.length=m at*;go_enter Tryz.func285,Tryz.ntmps285
  go_wp2
  go_loop [8] (fun i=>i=.int .i64 0) (fun _=>0)
  case atStart=>rfl
  case round=>
   subst hrel;go_wp2_with (first
    |refine qZg rfl _ _ rfl _ _ rfl _ _ hr Tryz.underlying289 rfl (vm _ _ h64) ?_
    |fail)
   refine HC.o.mono ?_;rintro e w' ⟨rfl,hb⟩;go_wp2
   go_ret
   exact⟨rfl,hb⟩
def RG(w:World)(vw:Value)(e:Ending)(w':World):Prop:=∃v',e=.returned v'/\Sl w' 289 65 v' 0 []/\v'.ownBlock=vw.ownBlock/\Upd (fun k=>vw.ownBlock=some k) w w'
theorem zas{w:World}{next:Nat}{vw:Value}{W:List (Nat×Bk)}(h:WtAt w vw next W)(q:Nat)(s:Int)(hq:w.cell? ⟨q,0,none⟩=some (.int .i64 s))(hqn:vw.ownBlock≠some q)(hs:s=(next:Int)-1):
  Calls Tryz.prog 218 #[vw,Ax q] w (RG w vw):=by
 have HI:=qqh (zar h q s hq hs);by_cases h0:W=[]
 .subst h0;rw[if_pos rfl]at HI;have HH:=qqh h;clear h hq hs hqn;go_enter Tryz.func218,Tryz.ntmps218
  go_wp2_with fail
  refine HI.o.mono ?_;rintro e w' ⟨rfl,hb⟩;go_wp2
  go_ret
  exact⟨vw,rfl,(HH.o.new (uuo hb)).ws,rfl,(uuo hb)⟩
 .rw [if_neg h0]at HI;have hl:0<W.length:=by cases W with|nil=>exact absurd rfl h0|cons a l=>simp
  obtain⟨-,⟨_,h2⟩|⟨g,off,cap,cur,rfl,hg,hcap,hcm,hsz,-⟩⟩:=h.ws
  .omega
  unfold maxLen at hcm;have hwl:=h.wl;have hmx:=h.mx;have HH:=Y6 h hq hs hg hsz hqn;clear h hq hs h0 hg hsz hqn;go_enter Tryz.func218,Tryz.ntmps218
  go_wp2_with fail
  refine HI.o.mono ?_;rintro e w1 ⟨rfl,hb⟩;have hu1:=qqb hb;clear hb;go_wp2
  go_loopw[5,6] (fun s5 s6 wr=>∃k:Nat,1<=k/\k<=W.length/\s5=.int .i64 0/\s6=.int .i64 k/\Upd (fun _=>False) w wr) (fun _ s6 _=>W.length-(intOf s6).toNat)
  case atStart=>exact⟨1,by omega,by omega,rfl,rfl,hu1⟩
  case round=>
   obtain⟨k,hk1,hk,rfl,rfl,hu⟩:=hrel;by_cases hlt:k<W.length
   .obtain ⟨h,hq,hs,hg,hsz,hqn⟩:=HH.o;obtain⟨g',off',cap',e1,hgl,hcap',hr⟩:=(h.new hu).range hlt;cases e1;have hlw:=h.lt W[k] (qyz hlt);have h64:=h.w64 W[k] (qyz hlt);have b1:(0:Int)<=(k:Int):=by omega
    have b2:(k:Int)<(W.length:Int):=by omega
    have hqw:wr.cell? ⟨q,0,none⟩=some (.int .i64 s):=hu.cellv hq (fun h=>h);have hu2:Upd (fun _=>False) w (wr.alloc (.cells (wrC (W[k].1:Int) W[k].2).toArray 289)):=hu.alloc _;have hr2:=zg (zc wr (.cells (wrC (W[k].1:Int) W[k].2).toArray 289) rfl);have hc:=Jj (wr.alloc (.cells (wrC (W[k].1:Int) W[k].2).toArray 289)) q s (zm hqw _) W[k].1 W[k].2 (by omega);generalize W[k].1=x at*;generalize W[k].2=y at*;have HC:=Y2 hc hu2;clear h hc hs hq hlw hu hg hsz hqn hqw hu2;go_wp2_with (first
     |refine qZg rfl _ _ rfl _ _ rfl _ _ hr Tryz.underlying289 rfl (vm _ _ h64) ?_
     |refine qZg rfl _ _ rfl _ _ rfl _ _ hr2 Tryz.underlying289 rfl (vm _ _ h64) ?_
     |(refine zk rfl _ _ _ rfl _ _ _ rfl rfl (by rw[tw,wrC_len,h64]) (vm _ _ h64) (vF _ _) ?_)
     |fail)
    refine HC.o.1.mono ?_;rintro e w3 ⟨rfl,hb3⟩;have hu3:Upd (fun _=>False) w w3:=HC.o.2.trans (uuo hb3);clear hb3;go_wp2
    go_roundw
    case rel=>exact⟨k+1,by omega,by omega,rfl,by go_num,hu3⟩
    case measure=>simp[intOf];omega
   .obtain rfl:k=W.length:=by omega
    obtain⟨h,hq,hs,hg,hsz,hqn⟩:=HH.o;have hg2:=(hu.block _ (zd hg) (fun h=>h)).trans hg;have hle:=qYb 65 hcap;obtain⟨w3,hrun,hu3,cur3,hg3,hz3⟩:=sM (off:=off) (n:=W.length) (cap:=cap) hg2 (by omega) hl;have HF:=Y5 hu hu3 hg3 hz3 hsz;clear h hq hs hg hsz hqn hu hu3 hg3 hg2 hz3 hle;go_wp2
    go_ret
    refine⟨_,rfl,⟨by simp,.inr ⟨g,off,cap,cur3,rfl,HF.o.2.2.1,by omega,by unfold maxLen;omega,by rw[HF.o.2.2.2.1];exact HF.o.2.2.2.2,by simp⟩⟩,rfl,(HF.o.1.mono (fun _ _ h=>h.elim)).trans (HF.o.2.1.mono (fun k _ e=>by simp[Value.ownBlock,e]))⟩
def RH(S:Nat->Prop)(w:World)(j d base n next:Nat)(e:Ending)(w':World):Prop:=e=.returned (.int .i64 0)/\Jn S w' j d base n (next-1) next []/\Upd S w w'
theorem JD{S:Nat->Prop}{w:World}{j d base n cov next:Nat}{W:List (Nat×Bk)}(h:Jn S w j d base n cov next W)(s:Int)(hs:s=(next:Int)-1):
  Calls Tryz.prog 155 #[.pointer (some ⟨j,0,none⟩),.int .i64 s] w (RH S w j d base n next):=by
 obtain⟨vw,h,hS⟩:=h;have hu1:Upd (fun _=>False) w (w.alloc (.cells #[.int .i64 s] 3)):=(uur _ w).alloc _;have hq:(w.alloc (.cells #[.int .i64 s] 3)).cell? ⟨w.heap.size,0,none⟩=some (.int .i64 s):=za (zc w _ rfl) 0;have hd1:=h.new hu1;have hjl:=zd h.str;have hwl:=h.good.wl;have hmx:=h.good.mx;have hmf:=qqf;have q1:decide (s<(cov:Int))=false:=by simp;omega
 have q2:decide ((next:Int)<=s)=false:=by simp;omega
 have hqn:vw.ownBlock≠some w.heap.size:=fun e=>by have:=h.ws.lt e;omega
 have HA:=Y5 h hu1 hqn hs hS;clear h hqn hs hS;go_enter Tryz.func155,Tryz.ntmps155
 go_wp2_with fail
 have HD:=Y2 hd1 hq;generalize hW1:w.alloc (.cells #[.int .i64 s] 3)=w1 at*;have hm:w.heap.size<w1.heap.size:=by rw[<-hW1];simp
 clear hW1;obtain⟨c0,c1,c2,c3,c4,c5⟩:=hd1.c;clear hd1 hu1
 go_quiet(fail)
 have hu2:Upd (fun _=>False) w1 (w1.drewN nq):=(uur _ _).drewN nq;generalize w1.drewN nq=w2 at*;obtain⟨h,hu1,hqn,hs,hS⟩:=HA.o;have hd2:=HD.o.1.new hu2;have hq2:w2.cell? ⟨w.heap.size,0,none⟩=some (.int .i64 s):=hu2.cellv HD.o.2 (fun h=>h);clear c0 c1 c2 c3 c4 c5;obtain⟨c0,c1,c2,c3,c4,c5⟩:=hd2.c;have f3:=hd2.fz 3;have hs3:=zh hd2.str 3 (.int .i64 s);have hu3:=zi w2 j 3 (.int .i64 s);have hq3:(w2.setCell ⟨j,3,none⟩ (.int .i64 s)).cell? ⟨w.heap.size,0,none⟩=some (.int .i64 s):=(hu3.cellv hq2 (by omega))
 have hne:vw.ownBlock≠some j:=hd2.wb;have hw3:=hd2.wt.keep hu3 (fun k hk e=>hne (by rw[hk,e]));have HB:=qqh (zas hw3 w.heap.size s hq3 hqn hs);have HC:=Y8 hd2 hu2 hs3 hu3 hu1 hS hs hqn;have c0':=c0;have c5':(w2.setCell ⟨j,3,none⟩ (.int .i64 s)).cell? ⟨j,5,none⟩=some vw:=by rw[za hs3];rfl
 obtain⟨ao,c,hv⟩:=hd2.ws.rd.nil_iff;clear hd2 hu2 hs3 hu3 hu1 hS hs hqn hw3 hne hq3 h c1 c2 c4 c0';subst hv;generalize hW3:w2.setCell ⟨j,3,none⟩ (.int .i64 s)=w3 at*;go_wp2_with fail
 refine HB.o.mono ?_;rintro e w4 ⟨v4,rfl,hs4,ho4,hu4⟩;obtain⟨ao4,c4,rfl⟩:=hs4.rd.nil_iff;obtain⟨hd2,hu2,hs3,hu3,hu1,hS,hs,hqn⟩:=HC.o;have hs4':=(hu4.block _ (zd hs3) hd2.wb).trans hs3;have d0:w4.cell? ⟨j,5,none⟩=some (.slice ao W.length c):=by rw[za hs4'];rfl
 have d1:=zf hs4' 5;have HE:=Y4 hs4 ho4 hu4 hs4';clear hs4 ho4 hu4 hs4' hd2 hu2 hs3 hu3 hu1 hS hs hqn c0 c3 c5 c5' f3 hq2;go_wp2
 go_ret
 obtain⟨hd2,hu2,hs3,hu3,hu1,hS,hs,hqn⟩:=HC.o;obtain⟨hs4,ho4,hu4,hs4'⟩:=HE.o;have hu5:=zi w4 j 5 (.slice ao4 0 c4);have h5:=zh hs4' 5 (.slice ao4 0 c4);have hnb:(Value.slice ao4 0 c4).ownBlock≠some j:=by rw[ho4];exact hd2.wb
 have hgd:=hd2.good;have hss:s=((next-1:Nat):Int):=by have:=hgd.wl;omega
 refine⟨rfl,⟨.slice ao4 0 c4,⟨?_,hs4.keep_ne hu5 hnb,hnb,⟨by simp,by simp,hgd.n1,by simp;have:=hgd.wl;omega,by have:=hgd.n1;omega,hgd.mx,hgd.bs⟩⟩,?_⟩,?_⟩
 .rw [h5,<-hss];rfl
 .rintro k (rfl|hk)
  .exact hS _ (.inl rfl)
  .rw [ho4]at hk;exact hS _ (.inr hk)
 .have a1:Upd S w w2:=(hu1.trans hu2).mono (fun _ _ h=>h.elim);have a2:Upd S w2 w3:=hu3.mono (fun k _ e=>e▸hS j (.inl rfl));have a3:Upd S w3 w4:=hu4.mono (fun k _ e=>hS k (.inr e));have a4:Upd S w4 (w4.setCell ⟨j,5,none⟩ (.slice ao4 0 c4)):=hu5.mono (fun k _ e=>e▸hS j (.inl rfl));exact((a1.trans a2).trans a3).trans a4
section
variable{own:Nat->Nat}{w w':World}{c:Nat}{n:CaN}{p:CaP}{a:CaS}
theorem Ta(G:List (Int->Bool))(k:Nat)(x:Int):(sF G k x).length=G.length:=by simp[sF]
theorem Wq(h:CaAt own w c n p a)(k:Nat)(hk:k<n.sl)(x:Int)(hx:x= -1\/(0<=x/\x<(n.bl:Int))):
  Calls Tryz.prog 202 #[ptr p.lg,.int .i64 (k:Int),.int .i64 x] w (zu own w c n p {a with G:=sF a.G k x} (.int .i64 0)):=
 (zap h.open7 k (by rw[h.Gl];exact hk) x hx).mono fun _ _ ⟨he,hd,hu⟩=>⟨he,_,h.turn7 hu hd (Ta _ _ _),h.did7 hu⟩
theorem Tb(h:CaAt own w c n p a)(s:Int)(hs:s=(a.next:Int)-1):
  Calls Tryz.prog 155 #[ptr p.jr,.int .i64 s] w (zu own w c n p {a with cov:=a.next-1,W:=[]} (.int .i64 0)):=
 (JD h.open4 s hs).mono fun _ _ ⟨he,hd,hu⟩=>⟨he,_,h.turn4 hu hd,h.did4 hu⟩
def Vs:Int->Bool:=updB (fun _=>false) (-1) true
def uW(G:List (Int->Bool))(k:Nat):List (Int->Bool):=List.replicate k Vs++G.drop k
theorem Xg(G:List (Int->Bool)):uW G 0=G:=by simp[uW]
theorem Vt(G:List (Int->Bool)):uW G G.length=List.replicate G.length Vs:=by simp[uW]
theorem tS{α:Type}(f:α->α):∀(l:List α) (x:α) (r:List α),(l++x::r).modify l.length f=l++f x::r
 |[],_,_=>by simp
 |y::l,x,r=>by simpa using tS f l x r
theorem Xh{G:List (Int->Bool)}{k:Nat}(h:k<G.length):sF (uW G k) k (-1)=uW G (k+1):=by
 have e:G.drop k=G[k]::G.drop (k+1):=qyb h;have:=tS (fun A=>putA A (-1)) (List.replicate k Vs) G[k] (G.drop (k+1));rw[qzi]at this;unfold sF uW;rw[e,this,List.replicate_succ',qxx];simp[putA,Vs]
def RI(own:Nat->Nat)(w:World)(c:Nat)(n:CaN)(p:CaP)(a:CaS)(e:Ending)(w':World):Prop:=zu own w c n p {a with G:=List.replicate n.sl Vs} (.int .i64 0) e w'
end
theorem RJ:(Tryz.prog.info? 289).map (fun i=>(i.zero.map (·.cells.size),i.size,i.bytes))=some (some 65,65,72):=by kernel_rfl
theorem Vu:(match Tryz.prog.underlying 289 with|some (.struct fs)=>fs.toList.mapM (fun f=>(Tryz.prog.info? f.type).map fun i=>(f.offset,i.size))|_=>none)=some [(0,1),(1,64)]:=by kernel_rfl
theorem xK:∃i z,Tryz.prog.info? 289=some i/\i.zero=some z/\z.cells.size=65/\i.size=65/\i.bytes=72:=by
 obtain⟨i,hi,h⟩:=qYi.1 RJ;simp only[qYk]at h;obtain⟨h1,h2,h3⟩:=h;obtain⟨z,hz,hs⟩:=qYi.1 h1;exact⟨i,z,hi,hz,hs,h2,h3⟩
theorem wX(p q:Value)(hp:p.cells.size=1)(hq:q.cells.size=64)(w:World):(Instr.build 289 #[(0,p),(1,q)]).run Tryz.prog w=.ok (.agg (p.cells.toList++q.cells.toList).toArray) w:=by
 refine run_build w _ _ _ ?_;obtain⟨i,z,hi,hz,hs,_,_⟩:=xK;have hpl:=Vu;have hu:=Tryz.underlying289;unfold Program.built;rw[hu]at hpl;rw[hi,hu];simp only[hz];simp only at hpl;rw[hpl];exact ZE p q hp hq z.cells hs _ rfl rfl
theorem uX(v:Value)(hv:v.cells.size=65)(w:World):(Instr.buildSlice 274 1 #[(0,v)]).run Tryz.prog w=.ok (.slice (some ⟨w.heap.size,0,none⟩) 1 1) (w.alloc (.cells v.cells 289)):=by
 obtain⟨i,z,hi,hz,hs,hsz,_⟩:=xK;refine run_buildSlice w _ _ 1 _ _ i z Tryz.underlying274 hi hz (by rw[hsz];decide) (by rw[hsz];decide) ?_;obtain⟨a1,a2⟩:=yO 0 v.cells ((Array.range (1*i.size)).map (z.cells[·%z.cells.size]!));rw[show(#[(0,v)]:Array (Nat×Value)).toList=[(0,v)]from rfl];rw[xk _ _ 0 0 65 v _ (by simp[hsz]) hv (by simp[hsz])];show some _=_
 congr 1
 apply qxd
 intro k;rw[a2 k];by_cases hk:k<65
 .rw [if_pos ⟨by omega,by omega,by simp[hsz];omega⟩];rfl
 .rw [if_neg (by omega),qxf (by simp[hsz];omega),qxf (by omega)]
theorem sO(dst:Option Tmp)(ty:TypeId)(pos:String)(after:Array Edge)(p q:Operand)(a:Act)(w:World)(K:Act->World->Prop)(Q:Exit->Act->World->Prop)(hp:(a.eval p).cells.size=1)(hq:(a.eval q).cells.size=64):
  Oper.wp Tryz.prog {dst:=dst,op:=.build 289 #[(0,p),(1,q)],type:=ty,pos:=pos,after:=after,guard:=none} a w K Q=K (a.put dst (.agg ((a.eval p).cells.toList++(a.eval q).cells.toList).toArray)) w:=by
 unfold Oper.wp execOp;have:=wX (a.eval p) (a.eval q) hp hq w;simp only[qzp,qzm,qzo,qYm,this,qYl];rfl
theorem Xi(dst:Option Tmp)(ty:TypeId)(pos:String)(after:Array Edge)(p:Operand)(a:Act)(w:World)(K:Act->World->Prop)(Q:Exit->Act->World->Prop)(hp:(a.eval p).cells.size=65):
  Oper.wp Tryz.prog {dst:=dst,op:=.buildSlice 274 1 #[(0,p)],type:=ty,pos:=pos,after:=after,guard:=none} a w K Q=K (a.put dst (.slice (some ⟨w.heap.size,0,none⟩) 1 1)) (w.alloc (.cells (a.eval p).cells 289)):=by
 unfold Oper.wp execOp;have:=uX (a.eval p) hp w;simp only[qzp,qzm,qzo,qYm,this,qYl];rfl
theorem tT(a:Act)(p q:Operand)(w:World)(hp:(a.eval p).cells.size=1)(hq:(a.eval q).cells.size=64):
  (Instr.build 289 ((#[(0,p),(1,q)]:Array (Nat×Operand)).map fun(i,x)=>(i,a.eval x))).run Tryz.prog w=.ok (.agg ((a.eval p).cells.toList++(a.eval q).cells.toList).toArray) w:=by
 have:=wX (a.eval p) (a.eval q) hp hq w;simp only[qzp,qzm,qzo];exact this
theorem sP(a:Act)(p:Operand)(w:World)(hp:(a.eval p).cells.size=65):
  (Instr.buildSlice 274 1 ((#[(0,p)]:Array (Nat×Operand)).map fun(i,x)=>(i,a.eval x))).run Tryz.prog w=.ok (.slice (some ⟨w.heap.size,0,none⟩) 1 1) (w.alloc (.cells (a.eval p).cells 289)):=by
 have:=uX (a.eval p) hp w;simp only[qzp,qzm,qzo];exact this
theorem Vv(s:Int)(x:Bk)(hx:x.length=64):List.foldl (fun(cs:Array Value) (x:Value×Nat)=>cs.setIfInBounds (1+x.2) x.1) (Tryz.zeroCells289.setIfInBounds 0 (.int .i64 s)) (bkC x).zipIdx=(wrC s x).toArray:=by
 have hb:(bkC x).length=64:=by rw[zo,hx]
 have hz1:(Tryz.zeroCells289.setIfInBounds 0 (.int .i64 s)).size=65:=by rw[Array.size_setIfInBounds,tw]
 obtain⟨_,f2⟩:=Go.Great.foldl_set 1 (bkC x) 0 (Tryz.zeroCells289.setIfInBounds 0 (.int .i64 s));apply qxd
 intro k;rw[f2 k,hz1];by_cases hk:k<65
 .by_cases hk0:k=0
  .subst hk0;rw[if_neg (by omega),Array.getElem?_setIfInBounds_self_of_lt (by rw[tw];omega)];simp
  .rw [if_pos ⟨by omega,by omega,hk⟩];obtain⟨m,rfl⟩:∃m,k=m+1:=⟨k-1,by omega⟩
   simp
 .rw [if_neg (by omega),qxf (by omega),qxf (by simp[hb];omega)]
end Go.Proofs.YtfhfbpmlnjdfoaaGreatDoor
