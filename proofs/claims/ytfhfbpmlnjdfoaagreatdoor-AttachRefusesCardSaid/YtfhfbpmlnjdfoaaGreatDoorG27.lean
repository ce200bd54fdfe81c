/- A block of one -/
import Derived.Test.YtfhfbpmlnjdfoaaGreatDoorG26
set_option maxRecDepth 100000
set_option maxHeartbeats 2000000
namespace Go.Proofs.YtfhfbpmlnjdfoaaGreatDoor
open Go Go.RowKit Tryz
def fillB(v:Nat):Bk:=List.replicate 64 (UInt8.ofNat v)
def xS(v i:Nat):Bk:=List.replicate i (UInt8.ofNat v)++List.replicate (64-i) 0
theorem Vc{v i:Nat}(h:i<=64):(xS v i).length=64:=by simp[xS];omega
theorem Vd{v i:Nat}(h:i<64):(xS v i).set i (UInt8.ofNat v)=xS v (i+1):=by
 unfold xS;rw[qXj _ _ oe,qzi,Nat.sub_self];obtain⟨k,hk⟩:∃k,64-i=k+1:=⟨63-i,oM⟩
 rw[hk,List.replicate_succ,qXl,show 64-(i+1)=k by omega,List.replicate_succ',qxx];rfl
theorem vF(v:Nat):(fillB v).length=64:=by simp[fillB]
theorem Ve(v:Nat):xS v 64=fillB v:=by simp[xS,fillB]
theorem XI:xS 0 0=fillB 0:=rfl
theorem Sg(l:Bk)(i:Nat)(v:Nat)(hv:v<=255):(bkC l).toArray.setIfInBounds i (.int .u8 (v:Int))=(bkC (l.set i (UInt8.ofNat v))).toArray:=by
 have:Go.Extern.Stop.cell (UInt8.ofNat v)=.int .u8 (v:Int):=by
  simp only[Go.Extern.Stop.cell]
  congr 1
  simp[UInt8.toNat_ofNat'];omega
 rw[<-this];apply Array.toList_inj.1;simp[bkC,List.map_set]
theorem XJ(v:Nat)(hv:v<=255)(w:World):Calls prog 86 #[.int .i64 (v:Int)] w fun e w'=>e=.returned (.agg (bkC (fillB v)).toArray)/\Below w.heap.size w w':=by
 obtain⟨Z,hZ⟩:=qqe (zB);have hZl:Z.length=64:=by rw[hZ];rfl
 have HZ:=Y2 hZ (wk Z hZ);clear hZ;obtain⟨w1,hw1⟩:=qqe ((w.alloc (.cells (bkC Z).toArray 54)).alloc (.cells (bkC Z).toArray 54));have g0:w1.heap[w.heap.size]?=some (.cells (bkC Z).toArray 54 (0,0)):=by rw[hw1];exact(qxk _ _ _ oe).trans (zc w _ rfl)
 have g1:w1.heap[w.heap.size+1]?=some (.cells (bkC Z).toArray 54 (0,0)):=by rw[hw1];exact zc _ _ oe
 have hb1:Below w.heap.size w w1:=by rw[hw1];exact((qxl _ w).alloc (qXv _) _).alloc oe _
 have H:=Y3 g0 g1 hb1;have HW:=qqh hw1;clear g0 g1 hb1 hw1;go_enter func86,ntmps86
 go_wp2_with (first
  |(refine zY rfl _ rfl _ HZ.o.2 ?_)
  |fail)
 rw[<-HW.o];have hlt:w.heap.size+1<w1.heap.size:=zf H.o.2.1;go_loopw[4] (fun i wr=>∃k:Nat,k<=64/\i=.int .i64 (k:Int)/\(v=0->k=0)/\wr.heap[w.heap.size+1]?=some (.cells (bkC (xS v k)).toArray 54 (0,0))/\Upd (fun j=>j=w.heap.size+1) w1 wr)
  (fun i _=>64-(intOf i).toNat)
 case atStart=>
  refine⟨0,oM,rfl,fun _=>rfl,?_,uur _ _⟩;rw[H.o.2.1,HZ.o.1];rfl
 case round=>
  obtain⟨k,hk,rfl,hk0,hg,hu⟩:=hrel;by_cases hlt2:k<64
  .by_cases hv0:v=0
   .have q0:((v:Int)==0)=true:=by simpa using hv0
    have q1:((v:Int) !=0)=false:=by simpa using hv0
    have hk1:=hk0 hv0;subst hk1;rw[hv0,XI]at hg;have hu2:Below w.heap.size w wr:=zk H.o.2.2 hu (qXv _) (fun k h=>oM);have g0:=(hu.block w.heap.size oM oM).trans H.o.1;have hth:=xh g0 jW;obtain⟨y,hy⟩:=qqe (fillB 0);rw[<-hy]at hg;have hyl:y.length=64:=by rw[hy];exact vF 0
    have r1:=zh hg;have HX:=Y2 (show y=fillB v by rw[hv0];exact hy) hu2;clear hy hg hu hu2 g0 hk0 hv0 hk;go_wp2_with (first
     |(refine qZg rfl _ _ rfl _ _ rfl _ _ r1 underlying54 rfl (zw y hyl) ?_)
     |(refine qZi rfl _ _ _ rfl _ _ (bkC y).toArray rfl rfl ja oH (qYu (zx _)) ?_)
     |fail)
    refine qYw (zI rfl _ _ w.heap.size 0 (bkC y) _ rfl (qYr _ _ _ _ jn) underlying54 rfl (zw y hyl)) rfl ?_;rw[<-HX.o.1];exact⟨rfl,zk HX.o.2 (zq _ _ _ _) (qXv _) (fun k h=>oM)⟩
   .have q0:((v:Int)==0)=false:=by simpa using hv0
    have q1:((v:Int) !=0)=true:=by simpa using hv0
    have c1:=za hg k;have f1:=zg hg k;have hcs:∃u,(bkC (xS v k)).toArray[k]?=some u:=by
     rw[qxe (by rw[qXm,zo,Vc oM];exact hlt2)];exact⟨_,rfl⟩
    obtain⟨u,hu0⟩:=hcs;rw[hu0]at c1;have hS:=zi hg k (.int .u8 (v:Int));rw[Sg _ _ _ hv,Vd hlt2]at hS;have hU:=hu.trans (zj wr (w.heap.size+1) k (.int .u8 (v:Int)));have HS:=Y2 hS hU;have k0:(0:Int)<=(k:Int):=oM;have k1:(k:Int)<64:=oM;have v1:(v:Int)<256:=oM;have hv1:=qqh hv0;clear hS hU hg hu hu0 hk0 hv0;go_wp2
    go_roundw
    case rel=>exact⟨k+1,oM,by go_num,fun e=>absurd e hv1.out,HS.o.1,HS.o.2⟩
    case measure=>simp[intOf];omega
  .obtain rfl:k=64:=oM;have hu2:Below w.heap.size w wr:=zk H.o.2.2 hu (qXv _) (fun k h=>oM);have g0:=(hu.block w.heap.size oM oM).trans H.o.1;have hth:=xh g0 jW;rw[Ve]at hg;obtain⟨y,hy⟩:=qqe (fillB v);rw[<-hy]at hg;have hyl:y.length=64:=by rw[hy];exact vF v
   have r1:=zh hg;have HX:=Y2 hy hu2;clear hy hg hu hu2 g0 hk0 hk;go_wp2_with (first
    |(refine qZg rfl _ _ rfl _ _ rfl _ _ r1 underlying54 rfl (zw y hyl) ?_)
    |(refine qZi rfl _ _ _ rfl _ _ (bkC y).toArray rfl rfl ja oH (qYu (zx _)) ?_)
    |fail)
   refine qYw (zI rfl _ _ w.heap.size 0 (bkC y) _ rfl (qYr _ _ _ _ jn) underlying54 rfl (zw y hyl)) rfl ?_;rw[<-HX.o.1];exact⟨rfl,zk HX.o.2 (zq _ _ _ _) (qXv _) (fun k h=>oM)⟩
def smN(bl sl jo:Nat):CaN:=⟨7,bl,sl,jo,(sl-1)/4+1,2,3⟩
theorem Zh(bl sl jo:Nat)(hs1:1<=sl)(hs2:sl<=100)(w:World):Calls prog 29 #[.int .i64 (bl:Int),.int .i64 (sl:Int),.int .i64 (jo:Int)] w fun e w'=>e=.returned (.agg (smN bl sl jo).C.toArray)/\Below w.heap.size w w':=by
 obtain⟨pa,hpa⟩:=qqe ((sl-1)/4+1);have HN:Hid (∀w,Calls prog 54 #[.int .i64 (sl:Int)] w fun e w'=>e=.returned (.int .i64 (pa:Int))/\w=w'):=by
  intro w;rw[hpa];exact need_any sl hs1 oM w
 have HC:Hid ((smN bl sl jo).C=superC 7 (bl:Int) (sl:Int) (jo:Int) (pa:Int) 2 3):=by
  show _=_;unfold smN CaN.C;rw[<-hpa];rfl
 rw[HC.o];clear hpa;obtain⟨L,hL⟩:=qqe (superC 7 (bl:Int) (sl:Int) (jo:Int) (pa:Int) 2 3);have h1:∀v∈L,v.oneCell'=true:=by rw[hL];exact WG _ _ _ _ _ _ _
 have h7:L.length=7:=by rw[hL];rfl
 have hi:(prog.info? 40).map (·.size)=some L.length:=by rw[h7];exact xf
 have HI:=Y3 h7 hi h1;clear h7 hi h1;replace hL:=qqh hL;have hA:max (1:Int) (min (sl:Int) 100)=(sl:Int):=oM;rcases(show sl=1\/2<=sl by omega)with rfl|h2
 all_goals
  (try simp only[Int.natCast_one]at*)
  go_enter func29,ntmps29
  go_wp2_with (first
   |(go_at_call 54;refine(HN.o _).mono ?_;rintro e w' ⟨rfl,rfl⟩)
   |(refine zl rfl _ _ _ rfl _ _ L rfl (by rw[hL.out];rfl) (by rw[HI.o.1];rfl) HI.o.2.1 HI.o.2.2 ?_)
   |fail)
  exact qYw (zI rfl _ _ w.heap.size 0 L _ rfl (zh (zc w _ rfl)) underlying40 rfl HI.o.2.1) rfl ⟨by rw[hL.out],(qxl _ w).alloc (qXv _) _⟩
def CaS.back14f(n:CaN)(b:CaS)(k:Int):CaS×Int:=if(flushR b.bF b.bO b.bP).cd≠0 then(b.fb,(flushR b.bF b.bO b.bP).cd)else b.fb.kx n k
def CaS.kO(n:CaN)(b:CaS)(k:Int)(x:Bk):CaS×Int:=
 if(writeR b.bF b.bO b.bP k.toNat x).cd≠0 then(b.kz (writeR b.bF b.bO b.bP k.toNat x),(writeR b.bF b.bO b.bP k.toNat x).cd)else(b.kz (writeR b.bF b.bO b.bP k.toNat x)).back14f n k
def CaS.ky(n:CaN)(a:CaS)(k:Int):CaS×Int:=
 if(getV a.ps k).2=false then(a,0)else if(a.kt n k).2.2≠0 then((a.kt n k).1,(a.kt n k).2.2)else(a.kt n k).1.kO n k (a.kt n k).2.1
def CaS.plan14(a:CaS)(md:Int)(nv:Nat):CaS:=if md=0 then{a with dP:=a.dP++[((nv%2:Nat):Int)]}else{a with bP:=a.bP++[((nv%2:Nat):Int)]}
def CaS.does14(n:CaN)(a:CaS)(dd blk:Int)(nv:Nat)(md:Int):CaS×Int:=
 if dd=0 then a.kF n blk (fillB nv) md else if dd=1 then a.gone n blk else if dd=2 then((a.kt n blk).1,(a.kt n blk).2.2)else if dd=3 then a.kh n else if dd=4 then a.ckpt n
 else if dd=5 then((CaS.kq n (nv%4) 0 a).1,(CaS.kq n (nv%4) 0 a).2.2)else if dd=6 then a.ky n blk else if dd=7 then(a.plan14 md nv,0)else(a,0)
structure CaS.Dn(a b:CaS):Prop where
 d:b.dP<:+a.dP
 b:b.bP<:+a.bP
section
variable{n:CaN}{a b c:CaS}
theorem CaS.Dn.refl(a:CaS):CaS.Dn a a:=⟨qXn _,qXn _⟩
theorem CaS.Dn.trans(h:CaS.Dn a b)(g:CaS.Dn b c):CaS.Dn a c:=⟨g.d.trans h.d,g.b.trans h.b⟩
theorem Sh(F:List Bk)(O:List (Nat×Bk))(P:List Int):(flushR F O P).P=P.tail:=by unfold flushR;split;rfl;split<;>rfl
theorem Si(F:List Bk)(O:List (Nat×Bk))(P:List Int)(s:Nat)(y:Bk):(writeR F O P s y).P=P.tail:=by unfold writeR;split;rfl;split<;>rfl
theorem yY(F:List Bk)(O:List (Nat×Bk))(P:List Int):(flushR F O P).P<:+P:=by rw[Sh];exact List.tail_suffix P
theorem yG(F:List Bk)(O:List (Nat×Bk))(P:List Int)(s:Nat)(y:Bk):(writeR F O P s y).P<:+P:=by rw[Si];exact List.tail_suffix P
theorem rI(F:List Bk):∀(L O:List (Nat×Bk)) (P:List Int),(wrsR F L O P).P<:+P
 |[],_,P=>qXn P
 |(s,y)::L,O,P=>by
  rw[wrsR];split
  .exact (rI F L _ _).trans (yG F O P s y)
  .exact yG F O P s y
theorem TK(F:List Bk)(O:List (Nat×Bk))(P:List Int)(L:List (Nat×Bk)):(saveR F O P L).P<:+P:=by
 unfold saveR;split
 .exact (yY _ _ _).trans (rI F L O P)
 .exact rI F L O P
theorem XK(base n:Nat)(F:List Bk):∀(W O:List (Nat×Bk)) (P:List Int),(comW base n F W O P).P<:+P
 |[],_,P=>qXn P
 |(s,y)::W,O,P=>by
  rw[comW];split
  .exact (XK base n F W _ _).trans (yG F O P _ y)
  .exact yG F O P _ y
theorem Sj(base n:Nat)(F:List Bk)(O:List (Nat×Bk))(P:List Int)(W:List (Nat×Bk)):(comR base n F O P W).1.P<:+P:=by
 have h1:=yY F O P;have h2:=(XK base n (flushR F O P).F W (flushR F O P).O (flushR F O P).P).trans h1;unfold comR
 repeat' split
 .exact h1
 .exact h2
 .exact (yY _ _ _).trans h2
 .exact (yY _ _ _).trans h2
theorem CaS.dn_fb(a:CaS):CaS.Dn a a.fb:=⟨qXn _,yY _ _ _⟩
theorem CaS.dn_fd(a:CaS):CaS.Dn a a.fd:=⟨yY _ _ _,qXn _⟩
theorem CaS.dn_bw(a:CaS)(k:Nat)(x:Bk):CaS.Dn a (a.kz (writeR a.bF a.bO a.bP k x)):=⟨qXn _,yG _ _ _ _ _⟩
theorem CaS.dn_ckpt(n:CaN)(a:CaS):CaS.Dn a (a.ckpt n).1:=by
 have h1:=a.dn_fb;have h2:=h1.trans a.fb.dn_fd;have h3:CaS.Dn a (a.fb.fd.dev (a.fb.fd.svR n)):=h2.trans ⟨TK _ _ _ _,qXn _⟩;unfold CaS.ckpt
 repeat' split
 .exact h1
 .exact h2
 .exact h3
 .exact ⟨h3.d,h3.b⟩
theorem CaS.dn_roomed(n:CaN)(a:CaS):CaS.Dn a (a.j8 n).1:=by
 unfold CaS.j8;split
 .exact CaS.Dn.refl a
 .exact a.dn_ckpt n
theorem CaS.dn_committed(n:CaN)(a:CaS):CaS.Dn a (a.kh n).1:=by
 have h1:=a.dn_fb;have h2:CaS.Dn a (a.fb.cm n):=h1.trans ⟨Sj _ _ _ _ _ _,qXn _⟩;unfold CaS.kh
 repeat' split
 .exact h1
 .exact h2
 .exact ⟨h2.d,h2.b⟩
theorem CaS.dn_evicts(n:CaN):∀(m g:Nat) (a:CaS),CaS.Dn a (CaS.kq n m g a).1
 |0,_,a=>CaS.Dn.refl a
 |m+1,g,a=>by
  have h1:=a.dn_roomed n;have h2:CaS.Dn a (((a.j8 n).1.ev n).left n ((a.j8 n).1.evK n)):=⟨h1.d,h1.b⟩
  simp only[CaS.kq]
  repeat' split
  .exact CaS.Dn.refl a
  .exact h1
  .exact ⟨h1.d,h1.b⟩
  .exact h2
  .exact h2.trans (CaS.dn_evicts n m (g+1) _)
theorem CaS.dn_takeR(n:CaN)(a:CaS)(s:Int):CaS.Dn a (a.kE n s).1:=by
 have h1:=a.dn_roomed n;unfold CaS.kE;split
 .exact h1
 .exact ⟨h1.d,h1.b⟩
theorem CaS.dn_al(a:CaS):CaS.Dn a a.al:=⟨qXn _,qXn _⟩
theorem CaS.dn_take2(n:CaN)(a:CaS):CaS.Dn a (a.kG n).1:=by
 have h1:=a.dn_committed n;unfold CaS.kG CaS.take3
 repeat' split
 .exact CaS.Dn.refl a
 .exact h1
 .exact h1.trans (CaS.dn_al _)
 .exact (h1.trans (CaS.dn_al _)).trans (CaS.dn_takeR n _ _)
theorem CaS.dn_takes(n:CaN)(a:CaS):CaS.Dn a (a.kj n).1:=by
 have h1:=CaS.dn_evicts n 1 0 a.al;unfold CaS.kj CaS.take1
 repeat' split
 .exact a.dn_al.trans (CaS.dn_takeR n _ _)
 .exact a.dn_al.trans h1
 .exact (a.dn_al.trans h1).trans (CaS.dn_take2 n _)
 .exact a.dn_al.trans (CaS.dn_take2 n _)
theorem CaS.dn_filled(n:CaN)(a:CaS)(s:Nat)(blk:Int)(x:Bk):CaS.Dn a (a.kp n s blk x).1:=by
 unfold CaS.kp;split
 .exact ⟨yG _ _ _ _ _,qXn _⟩
 .exact ⟨yG _ _ _ _ _,qXn _⟩
theorem CaS.dn_putted(n:CaN)(a:CaS)(k:Int)(s sum:Nat)(d:Bool):CaS.Dn a (a.kw n k s sum d).1:=by
 unfold CaS.kw;split
 .exact ⟨qXn _,qXn _⟩
 .exact ⟨qXn _,qXn _⟩
theorem CaS.dn_byp(n:CaN)(a:CaS)(k:Nat):CaS.Dn a (a.byp n k):=by
 unfold CaS.byp;split
 .exact ⟨qXn _,qXn _⟩
 .exact CaS.Dn.refl a
theorem CaS.kK(n:CaN)(a:CaS)(k:Nat)(x:Bk):CaS.Dn a (a.ko n k x).1:=by
 have h1:=a.dn_roomed n;have h2:=h1.trans (CaS.dn_bw (a.j8 n).1 k x);unfold CaS.ko
 repeat' split
 .exact h1
 .exact h2
 .exact h2.trans (CaS.dn_byp n _ k)
theorem CaS.dn_backed(n:CaN)(a:CaS)(k:Nat)(x:Bk):CaS.Dn a (a.kD n k x).1:=by
 have h1:=a.dn_takes n;have h2:=h1.trans (CaS.dn_filled n (a.kj n).1 (a.kj n).2.1.toNat k x);unfold CaS.kD CaS.backS
 repeat' split
 .exact h1
 .exact h1.trans (CaS.kK n _ k x)
 .exact h2
 .exact h2.trans (CaS.dn_putted n _ _ _ _ _)
theorem CaS.dn_thru(n:CaN)(a:CaS)(k:Nat)(x:Bk):CaS.Dn a (a.thru n k x).1:=by
 have h1:=a.dn_takes n;have h2:=h1.trans (CaS.dn_bw (a.kj n).1 k x);have h3:=h2.trans (CaS.dn_filled n ((a.kj n).1.kz (writeR (a.kj n).1.bF (a.kj n).1.bO (a.kj n).1.bP k x)) (a.kj n).2.1.toNat k x);unfold CaS.thru CaS.thruS CaS.thruF
 repeat' split
 .exact h1
 .exact h1.trans (CaS.kK n _ k x)
 .exact ⟨h2.d,h2.b⟩
 .exact h3.trans (CaS.dn_byp n _ k)
 .exact h3.trans (CaS.dn_putted n _ _ _ _ _)
theorem CaS.dn_wrote(n:CaN)(a:CaS)(k:Int)(x:Bk)(md:Int):CaS.Dn a (a.kF n k x md).1:=by
 unfold CaS.kF
 repeat' split
 .exact CaS.Dn.refl a
 .exact CaS.Dn.refl a
 .exact a.dn_backed n _ x
 .exact a.dn_thru n _ x
 .exact a.kK n _ x
theorem CaS.dn_gone(n:CaN)(a:CaS)(k:Int):CaS.Dn a (a.gone n k).1:=by
 unfold CaS.gone;split
 .exact CaS.Dn.refl a
 .exact a.kK n _ _
theorem CaS.dn_cleaned(n:CaN)(a:CaS)(k:Int):CaS.Dn a (a.kx n k).1:=by
 have h1:=a.dn_roomed n;unfold CaS.kx
 repeat' split
 .exact CaS.Dn.refl a
 .exact h1
 .exact ⟨h1.d,h1.b⟩
theorem CaS.readB_eq(n:CaN)(a:CaS)(k:Int):(a.kt n k).1=a\/(a.kt n k).1={a with bP:=a.bP.tail}\/(a.kt n k).1={a with dP:=a.dP.tail}:=by
 unfold CaS.kt CaS.readS;split
 .exact .inr (.inl rfl)
 split
 .exact .inl rfl
 split
 .exact .inr (.inr rfl)
 split
 .exact .inr (.inr rfl)
 .exact .inr (.inr rfl)
theorem CaS.dn_readB(n:CaN)(a:CaS)(k:Int):CaS.Dn a (a.kt n k).1:=by
 rcases a.readB_eq n k with h|h|h<;>rw[h]
 .exact CaS.Dn.refl a
 .exact ⟨qXn _,List.tail_suffix _⟩
 .exact ⟨List.tail_suffix _,qXn _⟩
theorem CaS.dn_back14(n:CaN)(a:CaS)(k:Int):CaS.Dn a (a.ky n k).1:=by
 have h1:=a.dn_readB n k;have h2:=h1.trans (CaS.dn_bw (a.kt n k).1 k.toNat (a.kt n k).2.1);have h3:=h2.trans (CaS.dn_fb _);unfold CaS.ky CaS.kO CaS.back14f
 repeat' split
 .exact CaS.Dn.refl a
 .exact h1
 .exact h2
 .exact h3
 .exact h3.trans (CaS.dn_cleaned n _ k)
end
structure CaS.Gd(n:CaN)(a:CaS)(N:Nat):Prop where
 tie:a.Tie n none
 fit:a.Fit N
 pd:a.dP.length<=N
 pb:a.bP.length<=N
section
variable{n:CaN}{a b:CaS}{N:Nat}
theorem CaS.Gd.mono(h:a.Gd n N){M:Nat}(hM:N<=M):a.Gd n M:=⟨h.tie,h.fit.mono hM,qXx h.pd hM,qXx h.pb hM⟩
theorem CaS.Gd.to(h:a.Gd n N){M:Nat}(hM:N<=M)(d:CaS.Dn a b)(ht:b.Tie n none)(hf:b.Fit M):b.Gd n M:=⟨ht,hf,qXx d.d.length_le (qXx h.pd hM),qXx d.b.length_le (qXx h.pb hM)⟩
theorem CaS.Gd.kt(h:a.Gd n N)(k:Int):(a.kt n k).1.Gd n N:=by
 refine h.to (qXv _) (a.dn_readB n k) ?_ ?_
 .rcases a.readB_eq n k with e|e|e<;>rw[e]
  .exact h.tie
  .exact {h.tie with}
  .exact {h.tie with}
 .rcases a.readB_eq n k with e|e|e<;>rw[e]
  .exact h.fit
  .exact {h.fit with}
  .exact {h.fit with}
theorem CaS.Tie.ky(h:a.Gd n N)(k:Int):(a.ky n k).1.Tie n none:=by
 have h1:=(h.kt k).tie;have h2:CaS.Tie n ((a.kt n k).1.kz (writeR (a.kt n k).1.bF (a.kt n k).1.bO (a.kt n k).1.bP k.toNat (a.kt n k).2.1)).fb none:=h1;unfold CaS.ky CaS.kO CaS.back14f
 repeat' split
 .exact h.tie
 .exact h1
 .exact {h1 with}
 .exact {h1 with}
 .exact CaS.Tie.kx h2 k
theorem CaS.Fit.ky(h:a.Gd n N)(h1:1<=a.next)(k:Int):(a.ky n k).1.Fit (N+n.pa+2):=by
 have f1:=(h.kt k).fit;have f2:=f1.bw k.toNat (a.kt n k).2.1;have f3:=f2.fb;have hn:(a.kt n k).1.next=a.next:=by rcases a.readB_eq n k with e|e|e<;>rw[e]
 unfold CaS.ky CaS.kO CaS.back14f
 repeat' split
 .exact h.fit.mono oM
 .exact f1.mono oM
 .exact f2.mono oM
 .exact f3.mono oM
 .exact (f3.kx (n:=n) (by show 1<=(a.kt n k).1.next;rw[hn];exact h1) k).mono oM
theorem CaS.Gd.does14(h:a.Gd n N)(hg:a.Jg n)(h1:1<=a.next)(hj:4<=n.jo)(dd blk:Int)(nv:Nat)(md:Int):(a.does14 n dd blk nv md).1.Gd n (N+3*n.pa+n.jo+6):=by
 have hmm:nv%4*(n.pa+1)<=3*(n.pa+1):=qYb _ oM;unfold CaS.does14
 repeat' split
 .exact h.to oM (a.dn_wrote n _ _ _) (h.tie.kF h1 hj _ _ _) (h.fit.kF hg h1 hj _ _ _)
 .exact h.to oM (a.dn_gone n _) (h.tie.gone _) ((h.fit.gone h1 _).mono oM)
 .exact (h.kt blk).mono oM
 .exact h.to oM (a.dn_committed n) h.tie.kh ((h.fit.kh hg.len).mono oM)
 .exact h.to oM (a.dn_ckpt n) h.tie.ckpt (h.fit.ckpt.mono oM)
 .exact h.to oM (CaS.dn_evicts n _ _ a) (CaS.Tie.kq _ 0 h.tie) ((CaS.Fit.kq _ 0 h.fit h1).mono oM)
 .exact h.to oM (a.dn_back14 n _) (CaS.Tie.ky h _) ((CaS.Fit.ky h h1 _).mono oM)
 .have hp:=h.pd;have hb:=h.pb;unfold CaS.plan14;split
  .exact ⟨{h.tie with},{h.fit.mono (show N<=N+3*n.pa+n.jo+6 by omega)with},by show(a.dP++_).length<=_;rw[qzd];simp;omega,by show a.bP.length<=_;omega⟩
  .exact ⟨{h.tie with},{h.fit.mono (show N<=N+3*n.pa+n.jo+6 by omega)with},by show a.dP.length<=_;omega,by show(a.bP++_).length<=_;rw[qzd];simp;omega⟩
 .exact h.mono oM
end
section
variable{own:Nat->Nat}{w w':World}{c:Nat}{n:CaN}{p:CaP}{a:CaS}{N:Nat}
theorem TL{ps:List (Int×Bool)}{k:Int}(h:(getV ps k).2=true):∃m:Nat,m<ps.length/\k=(m:Int)/\(plc ps m).2=true/\plc ps m≠(-1,false):=by
 by_cases hc:getC ps k=0
 .obtain ⟨m,h1,rfl,h3⟩:=zX.1 hc;rw[xq h1 h3]at h;exact⟨m,h1,rfl,h,h3⟩
 .rw [rh hc]at h;cases h
theorem TM(h:CaAt own w c n p a)(k:Int)(hd:(getV a.ps k).2=false):Calls prog 90 #[ptr c,.int .i64 k] w (zv own w c n p a (.int .i64 0)):=by
 have HP:=qqh (XH h k);obtain⟨s,hs⟩:=qqe ((getV a.ps k).1);obtain⟨b,hb⟩:=qqe ((getC a.ps k==0));rw[<-hs,hd,<-hb]at HP;clear h hd hs hb;go_enter func90,ntmps90
 go_wp2_with fail
 refine HP.o.mono ?_;rintro e w2 ⟨rfl,own2,h2,d2⟩;obtain⟨w3,hw3⟩:=qqe (w2.alloc (.cells #[.int .i64 s,.bool false] 95));have hu3:=qqu hw3;have g3:=qqg hw3;have c1:=za g3 1;have H3:=Y3 (h2.new hu3) (d2.trans (h2.ki hu3)) hw3;rw[hw3]at c1;clear h2 d2 hw3 hu3 g3 HP;cases b
 .go_wp2
  go_ret
  rw[<-H3.o.2.2];exact⟨rfl,own2,H3.o.1,H3.o.2.1⟩
 .go_wp2
  go_ret
  rw[<-H3.o.2.2];exact⟨rfl,own2,H3.o.1,H3.o.2.1⟩
theorem TN(h:CaAt own w c n p a)(hg:a.Gd n N)(hN:N+2<=50000)(k:Int):Calls prog 90 #[ptr c,.int .i64 k] w (zv own w c n p (a.ky n k).1 (.int .i64 (a.ky n k).2)):=by
 cases hd:(getV a.ps k).2
 case' false=>
  have e:a.ky n k=(a,0):=by unfold CaS.ky;rw[if_pos hd]
  rw[e];exact TM h k hd
 obtain⟨m,hm,rfl,h1,h2⟩:=TL hd;have hgc:getC a.ps (m:Int)=0:=zX.2 ⟨m,hm,rfl,h2⟩;have HPl:=qqh (XH h (m:Int));obtain⟨s,hs⟩:=qqe ((getV a.ps (m:Int)).1);rw[<-hs,hd,hgc]at HPl;replace HPl:Hid (Calls prog 37 #[ptr c,.int .i64 (m:Int)] w (zv own w c n p a (.tuple #[zM s true,.bool true]))):=HPl;have hb:=hg.kt (m:Int);have hmb:m<n.bl:=by rw[<-h.pl];exact hm
 have E:a.ky n (m:Int)=if(a.kt n (m:Int)).2.2≠0 then((a.kt n (m:Int)).1,(a.kt n (m:Int)).2.2)else(a.kt n (m:Int)).1.kO n (m:Int) (a.kt n (m:Int)).2.1:=by
  conv=>lhs;unfold CaS.ky
  rw[if_neg (by rw[hd];decide)]
 rw[E];have HRd:∀{own1:Nat->Nat} {w1:World},CaAt own1 w1 c n p a->Calls prog 45 #[ptr c,.int .i64 (m:Int)] w1 (ZR own1 w1 c n p (a.kt n (m:Int)).1 (a.kt n (m:Int)).2.1 (a.kt n (m:Int)).2.2):=fun h1=>Um h1 (m:Int);obtain⟨r,hr⟩:=qqe (a.kt n (m:Int));rw[<-hr]at HRd hb⊢;obtain⟨b,x,c0⟩:=r;dsimp only at HRd hb⊢;unfold CaS.kO;rw[qxu];obtain⟨r1,hr1⟩:=qqe (writeR b.bF b.bO b.bP m x);have HW:∀{own1:Nat->Nat} {w1:World},CaAt own1 w1 c n p b->x.length=64->Calls prog 18 #[ptr p.back,.int .i64 (m:Int),.agg (bkC x).toArray] w1 (zv own1 w1 c n p (b.kz r1) (.int .i64 r1.cd)):=fun h1 hl=>by
  rw[hr1];exact xO h1 m (by rw[h1.gl];exact hmb) x hl (by have:=hb.fit.bO;omega)
 have f1:(b.kz r1).Fit (N+1):=by rw[hr1];exact hb.fit.bw m x
 have t1:(b.kz r1).Tie n none:={hb.tie with}
 rw[<-hr1];obtain⟨b1,hb1⟩:=qqe (b.kz r1);rw[<-hb1]at HW f1 t1⊢;have f2:=f1.fb;have t2:b1.fb.Tie n none:={t1 with}
 have HF:∀{own1:Nat->Nat} {w1:World},CaAt own1 w1 c n p b1->Calls prog 46 #[ptr p.back] w1 (zv own1 w1 c n p b1.fb (.int .i64 (flushR b1.bF b1.bO b1.bP).cd)):=fun h1=>xM h1;have HC:∀{own1:Nat->Nat} {w1:World},CaAt own1 w1 c n p b1.fb->Calls prog 168 #[ptr c,.int .i64 (m:Int)] w1 (zv own1 w1 c n p (b1.fb.kx n (m:Int)).1 (.int .i64 (b1.fb.kx n (m:Int)).2)):=fun h1=>Ey h1 f2 oM t2 (m:Int);unfold CaS.back14f;obtain⟨c2,hc2⟩:=qqe ((flushR b1.bF b1.bO b1.bP).cd);rw[<-hc2]at HF⊢;obtain⟨b2,hb2⟩:=qqe (b1.fb);rw[<-hb2]at HF HC⊢;obtain⟨⟨b3,c3⟩,hb3⟩:∃q,q=b2.kx n (m:Int):=⟨_,rfl⟩
 rw[<-hb3]at HC⊢;obtain⟨c1,hc1⟩:=qqe (r1.cd);rw[<-hc1]at HW⊢;dsimp only at HC⊢;have HH:=qqh (And.intro @HRd (And.intro @HW (And.intro @HF @HC)));obtain⟨R,hRR⟩:=qqe ((if c0≠0 then(b,c0)else if c1≠0 then(b1,c1)else if c2≠0 then(b2,c2)else(b3,c3)));rw[<-hRR];have HR:=qqh hRR;clear hRR h hg hN hm h1 h2 hgc hs hd hb hmb E HRd HW HF HC hr hr1 f1 t1 hb1 f2 t2 hc2 hb2 hb3 hc1;go_enter func90,ntmps90
 go_wp2_with fail
 refine HPl.out.mono ?_;rintro e w2 ⟨rfl,own2,h2,d2⟩;obtain⟨w3,hw3⟩:=qqe (w2.alloc (.cells #[.int .i64 s,.bool true] 95));have hu3:=qqu hw3;have g3:=qqg hw3;have c1':=za g3 1;have H3:=Y3 (h2.new hu3) (d2.trans (h2.ki hu3)) hw3;have HD:=qqh (Af H3.o.1);rw[hw3]at c1';clear h2 d2 hw3 hu3 g3 HPl;go_wp2_with fail
 rw[<-H3.o.2.2];refine HD.o.mono ?_;rintro e w4 ⟨rfl,hu4⟩;have H4:=Y2 (H3.o.1.new hu4) (H3.o.2.1.trans (H3.o.1.ki hu4));have HRd:=qqh (HH.o.1 H4.o.1);clear hu4 c1' HD;go_wp2_with fail
 refine HRd.out.mono ?_;rintro e w5 ⟨y',cd,hy',hcd,hyl,rfl,own5,h5,d5⟩;subst hcd;obtain⟨w6,hw6⟩:=qqe (w5.alloc (.cells (bkC y').toArray 54));have hu6:=qqu hw6;have g6:=qqg hw6;have r6:=zh g6;have hsi:=zw y' hyl;have H6:=Y3 (h5.new hu6) ((H4.o.2.trans d5).trans (h5.ki hu6)) hw6;have hwr:=HH.o.2.1 H6.o.1 (by rw[<-hy'];exact hyl);rw[<-hy']at hwr;have HW:=qqh hwr;rw[hw6]at r6;clear h5 d5 hw6 hu6 g6 hwr HRd hy';by_cases hc0:cd=0
 case' neg=>
  have q0:(cd==0)=false:=by simpa using hc0
  have hr:R=(b,cd):=by rw[HR.o,if_pos hc0]
  have HK:=Y2 hr HW;clear hc0 HW hr;go_wp2_with (first
   |(refine zl rfl _ _ _ rfl _ _ (bkC y') rfl rfl jO hsi (zx y') ?_)
   |fail)
  go_ret
  rw[<-H6.o.2.2,HK.o.1];exact⟨rfl,_,H6.o.1,H6.o.2.1⟩
 subst hc0;go_wp2_with (first
  |(refine zl rfl _ _ _ rfl _ _ (bkC y') rfl rfl jO hsi (zx y') ?_)
  |(refine qZg rfl _ _ rfl _ _ rfl _ _ r6 underlying54 rfl hsi ?_)
  |fail)
 rw[<-H6.o.2.2];refine HW.o.mono ?_;rintro e w7 ⟨rfl,own7,h7,d7⟩;have H7:=Y2 h7 (H6.o.2.1.trans d7);have HF:=qqh (HH.o.2.2.1 h7);clear h7 d7 HW r6;by_cases hc1:c1=0
 case' neg=>
  have q0:(c1==0)=false:=by simpa using hc1
  have hr:R=(b1,c1):=by rw[HR.o,if_neg (fun h=>h rfl),if_pos hc1]
  have HK:=qqh hr;clear hc1 hr;go_wp2
  go_ret
  rw[HK.o];exact⟨rfl,own7,H7.o.1,H7.o.2⟩
 subst hc1;go_wp2_with fail
 refine HF.o.mono ?_;rintro e w8 ⟨rfl,own8,h8,d8⟩;have H8:=Y2 h8 (H7.o.2.trans d8);have HC:=qqh (HH.o.2.2.2 h8);clear h8 d8 HF;by_cases hc2:c2=0
 case' neg=>
  have q0:(c2==0)=false:=by simpa using hc2
  have hr:R=(b2,c2):=by rw[HR.o,if_neg (fun h=>h rfl),if_neg (fun h=>h rfl),if_pos hc2]
  have HK:=qqh hr;clear hc2 hr;go_wp2
  go_ret
  rw[HK.o];exact⟨rfl,own8,H8.o.1,H8.o.2⟩
 subst hc2;have hr:R=(b3,c3):=by rw[HR.o,if_neg (fun h=>h rfl),if_neg (fun h=>h rfl),if_neg (fun h=>h rfl)]
 have HK:=qqh hr;clear hr;go_wp2_with fail
 refine HC.o.mono ?_;rintro e w9 ⟨rfl,own9,h9,d9⟩;have H9:=Y2 h9 (H8.o.2.trans d9);clear h9 d9 HC;go_wp2
 go_ret
 rw[HK.o];exact⟨rfl,own9,H9.o.1,H9.o.2⟩
end
def PsEl(w:World)(M:Nat)(v:Value):Prop:=∃L:List Int,1<=L.length/\L.length<=M/\(∀x∈L,0<=x/\x<=255)/\Sl w 3 1 v L.length (ints L)
theorem PsEl.keep{w w':World}{M:Nat}{v:Value}(h:PsEl w M v){S:Nat->Prop}(hu:Upd S w w')(hs:∀g,v.ownBlock=some g->¬S g):PsEl w' M v:=by
 obtain⟨L,h1,h2,h0,h3⟩:=h;exact⟨L,h1,h2,h0,h3.keep hu hs⟩
structure Pst(B:Nat->Prop)(w:World)(p N M:Nat)(vo:Value)(xs:List Value):Prop where
 str:w.heap[p]?=some (.cells #[vo] 177 (0,0))
 o:Sl w 87 1 vo N xs
 els:∀x∈xs,PsEl w M x
 bp:B p
 bo:∀g,vo.ownBlock=some g->B g/\g≠p
 bx:∀x∈xs,∀g,x.ownBlock=some g->B g/\g≠p/\vo.ownBlock≠some g
 dis:xs.Pairwise Dis
theorem Pst.keep{B S:Nat->Prop}{w w':World}{p N M:Nat}{vo:Value}{xs:List Value}(h:Pst B w p N M vo xs)(hu:Upd S w w')(hS:∀j,B j->¬S j):Pst B w' p N M vo xs:=
 {h with str:=(hu.block p (zf h.str) (hS _ h.bp)).trans h.str,o:=h.o.keep hu (fun g hg=>hS g (h.bo g hg).1),els:=fun x hx=>(h.els x hx).keep hu (fun g hg=>hS g (h.bx x hx g hg).1)}
theorem Pst.len{B:Nat->Prop}{w:World}{p N M:Nat}{vo:Value}{xs:List Value}(h:Pst B w p N M vo xs):xs.length=N:=by have:=h.o.len;omega
theorem zaE:(prog.info? 87).map (fun i=>(i.zero,i.size,i.bytes))=some (some (.slice none 0 0),1,24):=kR
theorem Sk:(prog.info? 3).map (fun i=>(i.zero,i.size,i.bytes))=some (some (.int .i64 0),1,8):=kR
theorem Un(w:World)(x:Int)(hx:0<=x/\x<=255)(M:Nat)(hM:1<=M):PsEl (w.alloc (.cells #[.int .i64 x] 3)) M (.slice (some ⟨w.heap.size,0,none⟩) 1 1):=
 ⟨[x],qXv _,hM,fun y hy=>by rw[qzy.1 hy];exact hx,rfl,.inr ⟨w.heap.size,0,1,#[.int .i64 x],rfl,zc w _ rfl,qXv _,by unfold maxLen;omega,oe,fun j u h=>by rw[qYe];simpa[ints]using h⟩⟩
theorem XL{ops:Array Oper}{rest:List Oper}{op:Oper}{a:Act}{w:World}{Q:Exit->Act->World->Prop}(hgd:op.guard=none)(s x:Operand)(t:TypeId)(hop:op.op=Op.call {callee:=Callee.builtin Builtin.append,args:= #[s,x],argTypes:= #[t,t]})(v x':Value)(hs:a.eval s=v)(hx:a.eval x=x')(v':Value)(w':World)
  (hrun:(Builtin.append_ #[t,t] op.type #[v,x']).run prog w=.ok v' w') (h:wpList prog ops Q rest (a.put op.dst v') w'):wpList prog ops Q (op::rest) a w:=by
 refine qZh hgd fun K hK'=>?_;unfold Oper.wp;simp[execOp,hop,resolve,invoke,builtin,hs,hx,hrun,Result.andThen];exact hK' _ _ h
theorem Sm(k:Nat)(hk:k<=100)(w:World):Calls prog 31 #[.int .i64 (k:Int)] w fun e w'=>∃p vo xs,e=.returned (.pointer (some ⟨p,0,none⟩))/\Pst (fun j=>w.heap.size<=j) w' p k 1 vo xs/\Below w.heap.size w w':=by
 go_enter func31,ntmps31
 go_wp2_with fail
 go_loopg[4] k (fun gk s4 wr=>∃(i:Nat) (vo:Value) (xs:List Value),i+gk=k/\s4=.int .i64 (i:Int)/\Pst (fun j=>w.heap.size<=j) wr w.heap.size i 1 vo xs/\Below w.heap.size w wr)
 case atStart=>
  refine⟨0,.slice none 0 0,[],oM,rfl,⟨zc w _ rfl,Sl.nil _ _ _,fun x hx=>(by cases hx),qXv _,fun g hg=>(by cases hg),fun x hx=>(by cases hx),List.Pairwise.nil⟩,(qxl _ w).alloc (qXv _) _⟩
 case round=>
  obtain⟨i,vo,xs,hi,rfl,hP,hb⟩:=hrel;obtain⟨ao,cap,rfl⟩:=hP.o.rd.j7;have c0:=za hP.str 0;have f0:=zg hP.str 0;by_cases hlt:i<k
  .have k1:(i:Int)<(k:Int):=oM;obtain⟨w1,hw1⟩:=qqe (wr.alloc (.cells #[.int .i64 0] 3));obtain⟨x,hx⟩:∃x:Value,x=.slice (some ⟨wr.heap.size,0,none⟩) 1 1:=⟨_,rfl⟩
   have hx1:x.oneCell'=true:=by rw[hx];rfl
   obtain⟨w2,hw2⟩:=qqe (w1.alloc (.cells [x].toArray 87));have u1:=qqu hw1;have u2:=qqu hw2;have z1:w1.heap.size=wr.heap.size+1:=by rw[hw1];simp
   have z2:w2.heap.size=wr.heap.size+2:=by rw[hw2];simp[z1]
   have hP2:=hP.keep (u1.trans u2) (fun _ _ h=>h);have hel:PsEl w1 1 x:=by rw[hw1,hx];exact Un wr 0 de 1 (qXv _)
   have hrd:Rd w2 1 (.slice (some ⟨w1.heap.size,0,none⟩) 1 1) 1 [x]:=by rw[hw2];exact Rd.fresh w1 [x] 87 1 rfl og
   obtain⟨ii,hii,hz0,hz1,hz2⟩:=qZa zaE;obtain⟨v',w3,hrun,hs3,hu3,hbf⟩:=yl 175 175 ii (.slice none 0 0) 24 underlying175 hii hz0 hz1 hz2 rfl de hP2.o hrd (fun u hu=>by rw[qzy.1 hu];exact hx1) og oM;obtain⟨ao3,cap3,hv3⟩:=hs3.rd.j7;subst hv3;have sp:=zf hP.str;have g3:=(hu3.block w.heap.size (zf hP2.str) (fun h=>(hP.bo _ h).2 rfl)).trans hP2.str;have k3:=za g3 0;have f3:=zg g3 0;rw[z1]at hrun;rw[hw2,hw1,hx]at hrun;have H:=Y9 hP hb hs3 hu3 hbf hel (u1.trans u2) hP2 g3;have HX:=qqh hx;have H2:=qqh u2;clear hP hb hs3 hu3 hbf hel u1 u2 hP2 g3 hrd hii hz0 hz1 hz2 hw1 hw2 hx;go_wp2_with (first
    |(refine XL rfl _ _ 175 rfl _ _ rfl rfl _ _ hrun ?_)
    |fail)
   go_roundg (gk-1)
   case measure=>omega
   case rel=>
    obtain⟨hP,hb,hs3,hu3,hbf,hel,u12,hP2,g3⟩:=H.o;have hus:=zj w3 w.heap.size 0 (.slice ao3 (i+1) cap3);have hvo:∀g,(Value.slice ao3 (i+1) cap3).ownBlock=some g->((Value.slice ao i cap).ownBlock=some g/\w.heap.size<=g/\g≠w.heap.size/\g<wr.heap.size)\/w2.heap.size<=g:=fun g hg=>by
     rcases hbf with e|⟨g',e,hg'⟩
     .rw [e]at hg;exact .inl ⟨hg,(hP.bo g hg).1,(hP.bo g hg).2,hP.o.lt hg⟩
     .rw [hg]at e;cases e;exact .inr hg'
    have hxo:∀y∈xs,∀g,y.ownBlock=some g->g<wr.heap.size:=fun y hy g hg=>by
     obtain⟨L,-,-,-,hs⟩:=hP.els y hy;exact hs.lt hg
    have hxn:∀g,x.ownBlock=some g->g=wr.heap.size:=fun g hg=>by rw[HX.o]at hg;simp[Value.ownBlock]at hg;exact hg.symm
    refine⟨i+1,.slice ao3 (i+1) cap3,xs++[x],oM,by go_num,⟨?_,hs3.keep hus (fun g hg e=>?_),fun y hy=>?_,qXv _,fun g hg=>?_,fun y hy g hg=>?_,?_⟩,?_⟩
    .have:=zi g3 0 (.slice ao3 (i+1) cap3);simpa using this
    .rcases hvo g hg with h|h<;>omega
    .rcases qzq.1 hy with hy|hy
     .exact ((hP2.els y hy).keep hu3 (fun g hg e=>(hP.bx y hy g hg).2.2 e)).keep hus (fun g hg e=>(hP.bx y hy g hg).2.1 e)
     .rw [qzy.1 hy];refine((hel.keep H2.o (fun _ _ h=>h)).keep hu3 (fun g hg e=>?_)).keep hus (fun g hg e=>?_)
      .have:=hxn g hg;have:=hP.o.lt e;omega
      .have:=hxn g hg;omega
    .rcases hvo g hg with h|h
     .exact ⟨h.2.1,h.2.2.1⟩
     .exact ⟨by show w.heap.size<=g;omega,oM⟩
    .rcases qzq.1 hy with hy|hy
     .refine ⟨(hP.bx y hy g hg).1,(hP.bx y hy g hg).2.1,fun e=>?_⟩;rcases hvo g e with h|h
      .exact (hP.bx y hy g hg).2.2 h.1
      .have:=hxo y hy g hg;omega
     .rw [qzy.1 hy]at hg;have h1:=hxn g hg;refine⟨by show w.heap.size<=g;omega,oM,fun e=>?_⟩;rcases hvo g e with h|h<;>omega
    .refine List.pairwise_append.2 ⟨hP.dis,List.pairwise_singleton _ _,fun y hy y' hy' g h1 h2=>?_⟩;rw[qzy.1 hy']at h2;have:=hxn g h2;have:=hxo y hy g h1;omega
    .exact zk (zk (zk hb u12 (qXv _) (fun k h=>h.elim)) hu3 (qXv _) (fun k h=>(hP.bo k h).1)) hus (qXv _) (fun k h=>by rw[h];exact qXv _)
  .have k1:¬((i:Int)<(k:Int)):=oM;obtain rfl:i=k:=oM;have H:=Y2 hP hb;clear hP hb c0 f0;go_wp2
   go_ret
   exact⟨w.heap.size,rfl,⟨_,xs,H.o.1⟩,H.o.2⟩
theorem Pst.look{B:Nat->Prop}{w:World}{p N M:Nat}{vo:Value}{xs:List Value}(h:Pst B w p N M vo xs){i:Nat}(hi:i<N):
  ∃g off cap b o m c x,vo=.slice (some ⟨g,off,none⟩) N cap/\w.cell? ⟨g,off+i,none⟩=some (.slice (some ⟨b,o,none⟩) (m+1) c)/\w.cell? ⟨b,o+m,none⟩=some (.int .i64 x)/\(m+1<=M/\0<=x/\x<=255)/\xs[i]?=some (.slice (some ⟨b,o,none⟩) (m+1) c):=by
 obtain⟨g,off,cap,cur,rfl,hg,-,hc⟩:=h.o.at oM;have hx:i<xs.length:=by rw[h.len];exact hi
 obtain⟨L,h1,h2,hb0,hs⟩:=h.els _ (qyz hx);obtain⟨b,o,c,cur2,e2,hb,-,hc2⟩:=hs.at oM;obtain⟨m,hm⟩:∃m,L.length=m+1:=⟨L.length-1,oM⟩
 have hx2:xs[i]?=some (.slice (some ⟨b,o,none⟩) (m+1) c):=by rw[qyn hx,e2,hm]
 refine⟨g,off,cap,b,o,m,c,L[m]'oM,rfl,?_,?_,⟨oM,hb0 _ (qyz _)⟩,hx2⟩
 .rw [za hg];exact hc i _ hx2
 .rw [za hb];refine hc2 m _ ?_;simp[ints,List.getElem?_eq_getElem (show m<L.length by omega)]
theorem rJ{B:Nat->Prop}{w:World}{p N M:Nat}{vo:Value}{xs:List Value}(h:Pst B w p N M vo xs)(hM:M<=100000){i:Nat}(hi:i<N):Calls prog 88 #[.pointer (some ⟨p,0,none⟩),.int .i64 (i:Int)] w fun e w'=>∃x:Int,(0<=x/\x<=255)/\e=.returned (.int .i64 x)/\Upd (fun _=>False) w w':=by
 obtain⟨g,off,cap,b,o,m,c,x,rfl,c1,c2,⟨hm,hx⟩,-⟩:=h.look hi;have c0:=za h.str 0;have hNm:=h.o.le;simp only[qyv,qyl]at c0;have k1:(i:Int)<(N:Int):=oM;have i0:(0:Int)<=(i:Int):=oM;have hw:IntKind.i64.wrap (m:Int)=(m:Int):=qxv _ oM;clear h;go_enter func88,ntmps88
 go_wp2_with fail
 refine qZj (S:=fun W=>W.cell? ⟨p,0,none⟩=some (.slice (some ⟨g,off,none⟩) N cap)/\W.cell? ⟨g,off+i,none⟩=some (.slice (some ⟨b,o,none⟩) (m+1) c)/\W.cell? ⟨b,o+m,none⟩=some (.int .i64 x)) kR (⟨by rw[qYo];exact c0,by rw[qYo];exact c1,by rw[qYo];exact c2⟩) (fun hHeld=>?_);refine Wl.i [0,1,2,3,4,5,6,7,8,9,10,11,12,13,14] ?_;iterate 15 refine Wl.t hHeld ?_
 refine Wl.o ?_;refine qZf (i:=15) (v:=.int .i64 (m:Int)) rfl kR kR kR (fun _ _ _ h=>h) (Or.inl ⟨by rfl,?_⟩) hHeld ?_
 .intro W hSw;go_simp
 simp only[qzc,qyw,qyx,Act.put,qXi,qXl,qXk];have k2:(m:Int)<(m:Int)+1:=oM;have m0:(0:Int)<=(m:Int):=oM;refine Wl.i [16,17] ?_;iterate 2 refine Wl.t hHeld ?_
 refine Wl.o ?_;refine Wl.r 18 (fun K hK=>?_);go_simp
 refine hK.o _ _ hHeld (fun _=>?_);clear hK K;refine Wl.d ?_;go_wp2
 go_ret
 exact⟨x,hx,rfl,(uur _ w).drew⟩
theorem Pst.apart{B:Nat->Prop}{w:World}{p N M:Nat}{vo:Value}{xs:List Value}(h:Pst B w p N M vo xs){i j:Nat}(hi:i<xs.length)(hj:j<xs.length)(hne:i≠j):Dis xs[i] xs[j]:=by
 have hd:=qXe.1 h.dis;rcases Nat.lt_or_gt_of_ne hne with hlt|hlt
 .exact hd i j hi hj hlt
 .exact (hd j i hj hi hlt).symm
theorem Pst.put{B:Nat->Prop}{w w3:World}{p N M M' g off cap i:Nat}{xs:List Value}{v':Value}(h:Pst B w p N M (.slice (some ⟨g,off,none⟩) N cap) xs)(hi:i<xs.length)(hMM:M<=M')(hu:Upd (ownS xs[i]) w w3)(hel:PsEl w3 M' v')(hbf:blockFrom w xs[i] v'):
  Pst (fun j=>B j\/w.heap.size<=j) (w3.setCell ⟨g,off+i,none⟩ v') p N M' (.slice (some ⟨g,off,none⟩) N cap) (xs.set i v')/\Upd (fun j=>B j\/w.heap.size<=j) w (w3.setCell ⟨g,off+i,none⟩ v'):=by
 obtain⟨hl,⟨e,-⟩|⟨g',off',cap',cur,e,hg,hnc,hcm,hs,hc⟩⟩:=h.o
 .cases e
 cases e;have hiN:i<N:=by have:=h.len;omega
 have hxi:=qyz hi;have hus:=zj w3 g (off+i) v';have hgo:B g/\g≠p:=h.bo g rfl;have hgx:∀j (hj:j<xs.length),∀b,xs[j].ownBlock=some b->B b/\b≠p/\b≠g/\b<w.heap.size:=fun j hj b hb=>by
  obtain⟨h1,h2,h3⟩:=h.bx _ (qyz hj) b hb;obtain⟨L,-,-,-,hs⟩:=h.els _ (qyz hj);exact⟨h1,h2,fun e=>h3 jt,hs.lt hb⟩
 have hgl:=zf hg;have hpl:=zf h.str;have hv':∀b,v'.ownBlock=some b->(xs[i].ownBlock=some b/\B b/\b≠p/\b≠g)\/w.heap.size<=b:=fun b hb=>by
  rcases hbf with e|⟨g',e,hg'⟩
  .rw [e]at hb;obtain⟨h1,h2,h3,-⟩:=hgx i hi b hb;exact .inl ⟨hb,h1,h2,h3⟩
  .rw [hb]at e;cases e;exact .inr hg'
 have hg3:=(hu.block g hgl (fun e=>(hgx i hi g e).2.2.1 rfl)).trans hg;have h4:=zi hg3 (off+i) v';have hset:∀j (hj:j<(xs.set i v').length),(j=i/\(xs.set i v')[j]=v')\/(j≠i/\∃hj':j<xs.length,(xs.set i v')[j]=xs[j]):=fun j hj=>by
  have hj':j<xs.length:=by simpa using hj
  by_cases hji:j=i
  .subst hji;exact .inl ⟨rfl,oe⟩
  .exact .inr ⟨hji,hj',by rw[qzb,if_neg (fun e=>hji e.symm)]⟩
 refine⟨⟨?_,⟨by simpa using hl,.inr ⟨g,off,cap,cur.setIfInBounds (off+i) v',rfl,h4,hnc,hcm,by simpa using hs,fun j u hj=>?_⟩⟩,fun y hy=>?_,.inl h.bp,fun b hb=>?_,fun y hy b hb=>?_,?_⟩,?_⟩
 .exact (hus.block p (qXy hpl hu.size) (fun e=>hgo.2 e.symm)).trans ((hu.block p hpl (fun e=>(hgx i hi p e).2.1 rfl)).trans h.str)
 .rw [qyt]at hj;by_cases hji:i=j
  .subst hji;rw[if_pos rfl,if_pos hi]at hj;rw[Array.getElem?_setIfInBounds_self,if_pos oM];exact hj
  .rw [if_neg hji]at hj;rw[qxg oM];exact hc j u hj
 .obtain ⟨j,hj,rfl⟩:=qza hy;rcases hset j hj with⟨hji,e⟩|⟨hji,hj',e⟩
  .rw [e];refine hel.keep hus (fun b hb e=>?_);subst e;rcases hv' b hb with h1|h1
   .exact h1.2.2.2 rfl
   .omega
  .rw [e];obtain⟨L,l1,l2,l0,hsl⟩:=h.els _ (qyz hj');have hk:PsEl w M' xs[j]:=⟨L,l1,qXx l2 hMM,l0,hsl⟩
   exact(hk.keep hu (fun b hb e=>h.apart hj' hi hji b hb e)).keep hus (fun b hb e=>(hgx j hj' b hb).2.2.1 e)
 .cases hb;exact⟨.inl hgo.1,hgo.2⟩
 .obtain ⟨j,hj,rfl⟩:=qza hy;rcases hset j hj with⟨hji,e⟩|⟨hji,hj',e⟩
  .rw [e]at hb;rcases hv' b hb with h1|h1
   .exact ⟨.inl h1.2.1,h1.2.2.1,fun e=>h1.2.2.2 (by cases e;rfl)⟩
   .exact ⟨.inr h1,oM,fun e=>by have e2:some g=some b:=e;cases e2;omega⟩
  .rw [e]at hb;obtain⟨h1,h2,h3,-⟩:=hgx j hj' b hb;exact⟨.inl h1,h2,fun e=>h3 (by cases e;rfl)⟩
 .refine qXe.2 fun a c ha hc hac b h1 h2=>?_;rcases hset a ha with⟨ha1,e1⟩|⟨ha1,ha',e1⟩<;>rcases hset c hc with⟨hc1,e2⟩|⟨hc1,hc',e2⟩
  .omega
  .rw [e1]at h1;rw[e2]at h2;rcases hv' b h1 with h3|h3
   .exact h.apart hi hc' (fun e=>hc1 e.symm) b h3.1 h2
   .have:=(hgx c hc' b h2).2.2.2;omega
  .rw [e1]at h1;rw[e2]at h2;rcases hv' b h2 with h3|h3
   .exact h.apart hi ha' (fun e=>ha1 e.symm) b h3.1 h1
   .have:=(hgx a ha' b h1).2.2.2;omega
  .rw [e1]at h1;rw[e2]at h2;exact h.apart ha' hc' oM b h1 h2
 .refine (hu.mono (fun j hj e=> .inl (hgx i hi j e).1)).trans (hus.mono (fun j hj e=>?_));subst e;exact .inl hgo.1
def Sn(B:Nat->Prop)(w:World)(p N M:Nat)(v:Value)(e:Ending)(w':World):Prop:=
 e=.returned v/\∃vo xs,Pst (fun j=>B j\/w.heap.size<=j) w' p N M vo xs/\Upd (fun j=>B j\/w.heap.size<=j) w w'
theorem Pst.wide{B B':Nat->Prop}{w:World}{p N M:Nat}{vo:Value}{xs:List Value}(h:Pst B w p N M vo xs)(hB:∀j,B j->B' j):Pst B' w p N M vo xs:=
 {h with bp:=hB _ h.bp,bo:=fun g hg=>⟨hB g (h.bo g hg).1,(h.bo g hg).2⟩,bx:=fun x hx g hg=>⟨hB g (h.bx x hx g hg).1,(h.bx x hx g hg).2⟩}
theorem rK{B:Nat->Prop}{w:World}{p N M:Nat}{vo:Value}{xs:List Value}(h:Pst B w p N M vo xs)(hM:M<=100000){i:Nat}(hi:i<N)(f:Int)(hf:0<=f/\f<=255):
  Calls prog 92 #[.pointer (some ⟨p,0,none⟩),.int .i64 (i:Int),.int .i64 f] w (Sn B w p N (M+1) (.tuple #[])):=by
 obtain⟨g,off,cap,b,o,m,c,x,rfl,c1,c2,⟨hm,-⟩,hx⟩:=h.look hi;have c0:=za h.str 0;have hNm:=h.o.le;simp only[qyv,qyl]at c0;have k1:(i:Int)<(N:Int):=oM;have i0:(0:Int)<=(i:Int):=oM;have hix:i<xs.length:=by rw[h.len];exact hi
 obtain⟨w1,hw1⟩:=qqe (w.drew.alloc (.cells [Value.int .i64 f].toArray 3));have u1:Upd (fun _=>False) w w1:=by rw[hw1];exact((uur _ w).drew).alloc _
 have h1:=h.keep u1 (fun _ _ h=>h);obtain⟨L,l1,l2,l0,hs⟩:=h1.els _ (qyz hix);have hxe:xs[i]=.slice (some ⟨b,o,none⟩) (m+1) c:=by rw[qyn hix]at hx;exact qYj hx
 have hrd:Rd w1 1 (.slice (some ⟨w.drew.heap.size,0,none⟩) 1 1) 1 [Value.int .i64 f]:=by rw[hw1];exact Rd.fresh w.drew [Value.int .i64 f] 3 1 rfl og
 obtain⟨ii,hii,hz0,hz1,hz2⟩:=qZa Sk;obtain⟨v',w3,hrun,hs3,hu3,hbf⟩:=yl 87 87 ii (.int .i64 0) 8 underlying87 hii hz0 hz1 hz2 rfl de hs hrd (fun u hu=>by rw[qzy.1 hu];rfl) og oM;have hel:PsEl w3 (M+1) v':=by
  refine⟨L++[f],oe,by simp;omega,fun y hy=>by rcases qzq.1 hy with hy|hy;exact l0 y hy;rw[qzy.1 hy];exact hf,?_⟩;have e:(L++[f]).length=L.length+1:=oe;rw[e,show ints (L++[f])=ints L++[Value.int .i64 f] by simp[ints]];exact hs3
 obtain⟨hP,hU⟩:=h1.put hix (qXw M) hu3 hel hbf;have hLm:L.length=m+1:=by obtain⟨ao,cc,e⟩:=hs.rd.j7;rw[hxe]at e;injection e with _ e2 _;exact e2.symm
 obtain⟨ao3,cap3,hv3⟩:=hs3.rd.j7;have hpn:p≠g:=fun e=>(h.bo g rfl).2 e.symm;rw[hxe]at hrun hu3;have d0:w1.cell? ⟨p,0,none⟩=some (.slice (some ⟨g,off,none⟩) N cap):=u1.j4 c0 id;have d1:w1.cell? ⟨g,off+i,none⟩=some (.slice (some ⟨b,o,none⟩) (m+1) c):=u1.j4 c1 id;have e0:w3.cell? ⟨p,0,none⟩=some (.slice (some ⟨g,off,none⟩) N cap):=hu3.j4 d0 (fun e=>(h.bx _ (qyz hix) p jz).2.1 rfl);have e1:w3.cell? ⟨g,off+i,none⟩=some (.slice (some ⟨b,o,none⟩) (m+1) c):=hu3.j4 d1 (fun e=>(h.bx _ (qyz hix) g jz).2.2 rfl);have z1:w.drew.heap.size=w.heap.size:=rfl;have HR:=Y4 hP hU u1 hw1;have f0:(w3.setCell ⟨g,off+i,none⟩ v').cell? ⟨p,0,none⟩=some (.slice (some ⟨g,off,none⟩) N cap):=zu e0 (fun e=>hpn e.symm);have fz:=(show w3.frozen? ⟨g,off+i,none⟩=false by
  obtain⟨hl,⟨e,-⟩|⟨g',off',cap',cur,e,hg,-⟩⟩:=h1.o
  .cases e
  .cases e;exact zg ((hu3.block g (zf hg) (fun e=>(h.bx _ (qyz hix) g jz).2.2 rfl)).trans hg) _)
 subst hv3;rw[hLm]at f0 HR hrun;clear hP hU u1 h1 hs hs3 hu3 hbf hel hrd hii hz0 hz1 hz2 h hx hxe l1 l2 hm hpn hLm hw1;go_enter func92,ntmps92
 refine qZj (S:=fun W=>W.cell? ⟨p,0,none⟩=some (.slice (some ⟨g,off,none⟩) N cap)) kR oY (fun hHeld=>?_);refine Wl.i [0,1,2,3,4,5,6,7,8,9,10,12] ?_;iterate 12 refine Wl.t hHeld ?_
 refine Wl.o ?_;have c1d:w.drew.cell? ⟨g,off+i,none⟩=some (.slice (some ⟨b,o,none⟩) (m+1) c):=by rw[qYo];exact c1
 refine qZe (rs:=[11,13]) kR oe ?_;refine qxb rfl (fun K hK=>?_) (qxb rfl (fun K hK=>?_) qxc)
 .go_simp
  refine hK.o _ _ hHeld (fun _=>?_);clear hK K;refine Wl.r 13 (fun K hK=>?_);go_simp
  show K _ (w.drew.alloc (.cells [Value.int .i64 f].toArray 3));rw[<-HR.o.2.2.2];refine hK.o _ _ d0 (fun _=>?_);clear hK K;refine Wl.r 14 (fun K hK=>?_);refine zJ rfl _ _ _ rfl rfl rfl hrun ?_;refine hK.o _ _ e0 (fun _=>?_);clear hK K;refine Wl.i [15] (Wl.t e0 (Wl.o ?_));refine Wl.r 16 (fun K hK=>?_);go_simp
  refine hK.o _ _ f0 (fun _=>?_);clear hK K;refine Wl.d ?_;refine qYw (qZc rfl _ _ _) rfl ?_;obtain⟨hP,hU,u1,-⟩:=HR.o;have hw:∀j,(B j\/w1.heap.size<=j)->(B j\/w.heap.size<=j):=fun j hj=>hj.imp id (fun h=>qXx u1.size h);exact⟨rfl,_,_,hP.wide hw,(u1.mono fE).trans (hU.mono (fun j _ h=>hw j h))⟩
 .go_simp
  show K _ (w.drew.alloc (.cells [Value.int .i64 f].toArray 3));rw[<-HR.o.2.2.2];refine hK.o _ _ d0 (fun _=>?_);clear hK K;refine Wl.r 11 (fun K hK=>?_);go_simp
  refine hK.o _ _ d0 (fun _=>?_);clear hK K;refine Wl.r 14 (fun K hK=>?_);refine zJ rfl _ _ _ rfl rfl rfl hrun ?_;refine hK.o _ _ e0 (fun _=>?_);clear hK K;refine Wl.i [15] (Wl.t e0 (Wl.o ?_));refine Wl.r 16 (fun K hK=>?_);go_simp
  refine hK.o _ _ f0 (fun _=>?_);clear hK K;refine Wl.d ?_;refine qYw (qZc rfl _ _ _) rfl ?_;obtain⟨hP,hU,u1,-⟩:=HR.o;have hw:∀j,(B j\/w1.heap.size<=j)->(B j\/w.heap.size<=j):=fun j hj=>hj.imp id (fun h=>qXx u1.size h);exact⟨rfl,_,_,hP.wide hw,(u1.mono fE).trans (hU.mono (fun j _ h=>hw j h))⟩
end Go.Proofs.YtfhfbpmlnjdfoaaGreatDoor
