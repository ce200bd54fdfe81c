/- A block of one -/
import Derived.Test.YtpejdgiccaijfaaGreatDoorG22
set_option maxRecDepth 100000
set_option maxHeartbeats 4000000
namespace Go.Proofs.YtpejdgiccaijfaaGreatDoor
open Go Go.RowKit Tryz
theorem XD(l:Bk)(i:Nat)(v:Nat)(hv:v<=255):(bkC l).toArray.setIfInBounds i (.int .u8 (v:Int))=(bkC (l.set i (UInt8.ofNat v))).toArray:=by
 have:Go.Extern.Stop.cell (UInt8.ofNat v)=.int .u8 (v:Int):=by
  simp only[Go.Extern.Stop.cell]
  congr 1
  simp[UInt8.toNat_ofNat'];omega
 rw[<-this];apply Array.toList_inj.1;simp[bkC,List.map_set]
def smN(bl sl jo:Nat):CaN:=⟨7,bl,sl,jo,(sl-1)/4+1,2,3⟩
theorem TL(bl sl jo:Nat)(hs1:1<=sl)(hs2:sl<=100)(w:World):Calls prog 23 #[.int .i64 (bl:Int),.int .i64 (sl:Int),.int .i64 (jo:Int)] w fun e w'=>e=.returned (.agg (smN bl sl jo).C.toArray)/\Below w.heap.size w w':=by
 obtain⟨pa,hpa⟩:=qqe ((sl-1)/4+1);have HN:Hid (∀w,Calls prog 31 #[.int .i64 (sl:Int)] w fun e w'=>e=.returned (.int .i64 (pa:Int))/\w=w'):=by
  intro w;rw[hpa];exact need_any sl hs1 oM w
 have HC:Hid ((smN bl sl jo).C=superC 7 (bl:Int) (sl:Int) (jo:Int) (pa:Int) 2 3):=by
  show _=_;unfold smN CaN.C;rw[<-hpa];rfl
 rw[HC.o];clear hpa;obtain⟨L,hL⟩:=qqe (superC 7 (bl:Int) (sl:Int) (jo:Int) (pa:Int) 2 3);have h1:∀v∈L,v.oneCell'=true:=by rw[hL];exact Wh _ _ _ _ _ _ _
 have h7:L.length=7:=by rw[hL];rfl
 have hi:(prog.info? 44).map (·.size)=some L.length:=by rw[h7];exact xj
 have HI:=Y3 h7 hi h1;clear h7 hi h1;replace hL:=qqh hL;have hA:max (1:Int) (min (sl:Int) 100)=(sl:Int):=oM;rcases(show sl=1\/2<=sl by omega)with rfl|h2
 all_goals
  (try simp only[Int.natCast_one]at*)
  go_enter func23,ntmps23
  go_wp2_with (first
   |(go_at_call 31;refine(HN.o _).mono ?_;rintro e w' ⟨rfl,rfl⟩)
   |(refine zk rfl _ _ _ rfl _ _ L rfl (by rw[hL.out];rfl) (by rw[HI.o.1];rfl) HI.o.2.1 HI.o.2.2 ?_)
   |fail)
  exact qYp (zv rfl _ _ w.heap.size 0 L _ rfl (zg (zc w _ rfl)) underlying44 rfl HI.o.2.1) rfl ⟨by rw[hL.out],(qxl _ w).alloc (qXo _) _⟩
def yl(b f:Int):Bk:=if f=0 then zB else(List.range 64).map fun(i:Nat)=>UInt8.ofNat ((31*b+7*f+(i:Int))%256).toNat
theorem EE(b f:Int)(i:Nat):IntKind.u8.wrap (IntKind.i64.wrap (IntKind.i64.wrap (IntKind.i64.wrap (31*b)+IntKind.i64.wrap (7*f))+(i:Int)))=(31*b+7*f+(i:Int))%256:=by
 simp only[IntKind.wrap_i64,IntKind.wrap_u8];omega
theorem Si(b f:Int)(i:Nat):(if Int.tmod (31*Int.tmod b 256+7*Int.tmod f 256+(i:Int)) 256<0 then Int.tmod (31*Int.tmod b 256+7*Int.tmod f 256+(i:Int)) 256+256 else Int.tmod (31*Int.tmod b 256+7*Int.tmod f 256+(i:Int)) 256)=(31*b+7*f+(i:Int))%256:=by
 have h:∀x:Int,Int.tmod x 256=if 0<=x then x%256 else-((-x)%256):=fun x=>by
  split
  .exact Int.tmod_eq_emod_of_nonneg oM
  .rw [<-Int.neg_neg x,Int.neg_tmod,Int.tmod_eq_emod_of_nonneg oM,Int.neg_neg]
 rw[h b,h f,h];split<;>split<;>split<;>split<;>omega
theorem zX(b f:Int):(yl b f).length=64:=by
 unfold yl;split
 .rfl
 .simp
theorem TM(b f:Int)(hf:f≠0){i:Nat}(hi:i<64):((yl b f).getD i 0).toNat=((31*b+7*f+(i:Int))%256).toNat:=by
 unfold yl;rw[if_neg hf,qyf,qym,List.getElem?_range hi];show(UInt8.ofNat _).toNat=_;simp;omega
structure O21 where
 d:Int
 fr:Int
 n:Int
 fi:Int
 kp:Value
def putS(fr:Nat)(fi:Int):Nat->List Bk->List Bk
 |0,l=>l
 |k+1,l=>(putS fr fi k l).set (fr+k) (yl ((fr+k:Nat):Int) fi)
def xZ(bl:Nat)(l:List Bk)(o:O21):List Bk:=
 if o.fr<0\/o.n<1\/(bl:Int)<o.fr\/(bl:Int)-o.fr<o.n then l
 else if o.d=1\/o.d=2 then(if o.n<=64 then putS o.fr.toNat o.fi o.n.toNat l else l)
 else if o.d=3\/o.d=5 then putS o.fr.toNat 0 o.n.toNat l else l
def modelS(bl:Nat)(ops:List O21):List Bk:=ops.foldl (xZ bl) (List.replicate bl zB)
theorem wZ(fr:Nat)(fi:Int):∀(k:Nat) (l:List Bk),(putS fr fi k l).length=l.length
 |0,_=>rfl
 |k+1,l=>by rw[putS,qze];exact wZ fr fi k l
theorem TN(bl:Nat)(l:List Bk)(o:O21):(xZ bl l o).length=l.length:=by
 unfold xZ
 (repeat' split)<;>first|rfl|exact wZ _ _ _ _
theorem yC(bl:Nat)(ops:List O21):(modelS bl ops).length=bl:=by
 unfold modelS;have:∀(ops:List O21) (l:List Bk),(ops.foldl (xZ bl) l).length=l.length:=by
  intro ops
  induction ops with
  |nil=>intro l;rfl
  |cons o ops ih=>intro l;rw[List.foldl_cons,ih,TN]
 rw[this,qzd]
theorem XE(bl:Nat)(ops:List O21)(o:O21):modelS bl (ops++[o])=xZ bl (modelS bl ops) o:=by
 unfold modelS;rw[List.foldl_append];rfl
def fillV(b f:Int)(k:Nat):Nat:=((yl b f).getD k 0).toNat
theorem rm(b f:Int)(k:Nat):fillV b f k<=255:=by unfold fillV;have:=((yl b f).getD k 0).toNat_lt;omega
theorem sY(b f:Int)(hf:f≠0){k:Nat}(hk:k<64):(fillV b f k:Int)=(31*b+7*f+(k:Int))%256:=by unfold fillV;rw[TM b f hf hk];omega
theorem WO(b:Int)(k:Nat):fillV b 0 k=0:=by
 unfold fillV yl;rw[if_pos rfl,qyf];show((List.replicate 64 (0:UInt8))[k]?.getD 0).toNat=0;rw[qyn];split<;>rfl
def vc(b f:Int)(k:Nat):Bk:=(yl b f).take k++List.replicate (64-k) 0
theorem sZ{b f:Int}{k:Nat}(h:k<=64):(vc b f k).length=64:=by simp[vc,zX];omega
theorem Za{b f:Int}{k:Nat}(h:k<64):(vc b f k).set k (UInt8.ofNat (fillV b f k))=vc b f (k+1):=by
 have hl:=zX b f;unfold vc;rw[qXe _ _ (by rw[qzf,hl];omega),qzf,hl,Nat.min_eq_left oM,Nat.sub_self];obtain⟨j,hj⟩:∃j,64-k=j+1:=⟨63-k,oM⟩
 rw[hj,List.replicate_succ,qXg,show 64-(k+1)=j by omega,List.take_add_one,qxw,qyj oM];unfold fillV;rw[UInt8.ofNat_toNat,qyf,qyj oM];rfl
theorem Zb(b f:Int):vc b f 64=yl b f:=by
 unfold vc;rw[qXj (by rw[zX];omega)];simp
theorem rn(b:Int):yl b 0=zB:=if_pos rfl
def Uj(w:World)(b f:Int)(e:Ending)(w':World):Prop:=e=.returned (.agg (bkC (yl b f)).toArray)/\Below w.heap.size w w'
theorem ZV(b f:Int)(w:World):Calls prog 20 #[.int .i64 b,.int .i64 f] w (Uj w b f):=by
 obtain⟨Z,hZ⟩:=qqe (zB);have hZl:Z.length=64:=by rw[hZ];rfl
 have HZ:=Y3 hZ (wk Z hZ) hZl;obtain⟨w1,hw1⟩:=qqe ((w.alloc (.cells (bkC Z).toArray 60)).alloc (.cells (bkC Z).toArray 60));have g0:w1.heap[w.heap.size]?=some (.cells (bkC Z).toArray 60 (0,0)):=by rw[hw1];exact(qxk _ _ _ oe).trans (zc w _ rfl)
 have g1:w1.heap[w.heap.size+1]?=some (.cells (bkC Z).toArray 60 (0,0)):=by rw[hw1];exact zc _ _ oe
 have hb1:Below w.heap.size w w1:=by rw[hw1];exact((qxl _ w).alloc (qXo _) _).alloc oe _
 have H:=Y3 g0 g1 hb1;have HW:=qqh hw1;clear g0 hb1 hw1;by_cases hf:f=0
 .subst hf;have r1:=zg g1;have hth:=yK H.o.1 jz;clear g1 hZ;go_enter func20,ntmps20
  go_wp2_with (first
   |(refine zS rfl _ rfl _ HZ.o.2.1 ?_)
   |(rw[<-HW.o];refine qYy rfl _ _ rfl _ _ rfl _ _ r1 underlying60 rfl (zq Z hZl) ?_)
   |(refine qZa rfl _ _ _ rfl _ _ (bkC Z).toArray rfl rfl oI oL (qYn (zu _)) ?_)
   |fail)
  refine qYp (zv rfl _ _ w.heap.size 0 (bkC Z) _ rfl (qYk _ _ _ _ oS) underlying60 rfl (zq Z hZl)) rfl ?_;exact⟨by rw[rn,HZ.o.1],zj H.o.2.2 (zo _ _ _ _) (qXo _) (fun k h=>oM)⟩
 .have q0:(f==0)=false:=by simpa using hf
  have HF:=qqh hf;clear g1 hZ hf;go_enter func20,ntmps20
  go_wp2_with (first
   |(refine zS rfl _ rfl _ HZ.o.2.1 ?_)
   |fail)
  rw[<-HW.o];go_loopg[10] 64 (fun g i wr=>∃k:Nat,k+g=64/\i=.int .i64 (k:Int)/\wr.heap[w.heap.size+1]?=some (.cells (bkC (vc b f k)).toArray 60 (0,0))/\Upd (fun j=>j=w.heap.size+1) w1 wr)
  case atStart=>
   refine⟨0,oM,rfl,?_,uur _ _⟩;rw[H.o.2.1,HZ.o.1];rfl
  case round=>
   obtain⟨k,hk,rfl,hg,hu⟩:=hrel;by_cases hlt:k<64
   .have c1:=za hg k;have f1:=zf hg k;have hcs:∃u,(bkC (vc b f k)).toArray[k]?=some u:=by
     rw[qxe (by rw[qXh,zm,sZ oM];exact hlt)];exact⟨_,rfl⟩
    obtain⟨u,hu0⟩:=hcs;rw[hu0]at c1;obtain⟨x,hx⟩:=qqe (fillV b f k);have hS:=zh hg k (.int .u8 (x:Int));rw[XD _ _ _ (by rw[hx];exact rm b f k),hx,Za hlt,<-hx]at hS;have hU:=hu.trans (zi wr (w.heap.size+1) k (.int .u8 (x:Int)));have HS:=Y2 hS hU;have k0:(0:Int)<=(k:Int):=oM;have k1:(k:Int)<64:=oM;have qv:RowKit.wrap64 (RowKit.wrap64 (RowKit.wrap64 (31*b)+RowKit.wrap64 (7*f))+(k:Int))%256=(x:Int):=by
     have e:=EE b f k;simp only[IntWalk.i64_left,IntKind.wrap_u8]at e;rw[e,hx,sY b f HF.o hlt]
    clear hS hU hg hu hu0 hx;go_wp2
    go_roundg (gk-1)
    case rel=>exact⟨k+1,oM,by go_num,HS.o.1,HS.o.2⟩
    case measure=>omega
   .obtain rfl:k=64:=oM;have hu2:Below w.heap.size w wr:=zj H.o.2.2 hu (qXo _) (fun k h=>oM);have hlt1:w.heap.size+1<w1.heap.size:=zd H.o.2.1;have g0:=(hu.block w.heap.size oM oM).trans H.o.1;have hth:=yK g0 jz;rw[Zb]at hg;obtain⟨y,hy⟩:=qqe (yl b f);rw[<-hy]at hg;have hyl:y.length=64:=by rw[hy];exact zX b f
    have r1:=zg hg;have HX:=Y2 hy hu2;clear hy hg hu hu2 g0;go_wp2_with (first
     |(refine qYy rfl _ _ rfl _ _ rfl _ _ r1 underlying60 rfl (zq y hyl) ?_)
     |(refine qZa rfl _ _ _ rfl _ _ (bkC y).toArray rfl rfl oY oC (qYn (zu _)) ?_)
     |fail)
    refine qYp (zv rfl _ _ w.heap.size 0 (bkC y) _ rfl (qYk _ _ _ _ ji) underlying60 rfl (zq y hyl)) rfl ?_;exact⟨by rw[HX.o.1],zj HX.o.2 (zo _ _ _ _) (qXo _) (fun k h=>oM)⟩
theorem ZW(x:Int): -256<Int.tmod x 256/\Int.tmod x 256<256:=by
 have h1:=Int.tmod_lt_of_pos x (show(0:Int)<256 by decide);have h2:=Int.tmod_lt_of_pos (-x) (show(0:Int)<256 by decide);rw[Int.neg_tmod]at h2;omega
theorem Sj(b f:Int)(i:Nat)(hi:i<64)(w:World):Calls prog 30 #[.int .i64 b,.int .i64 f,.int .i64 (i:Int)] w fun e w'=>e=.returned (.int .u8 (fillV b f i:Int))/\w'=w:=by
 by_cases hf:f=0
 .subst hf;rw[WO];go_enter func30,ntmps30
  go_wp2
  go_ret
  exact⟨rfl,rfl⟩
 .have q0:(f==0)=false:=by simpa using hf
  have hr:=Si b f i;have hv:=sY b f hf hi;rw[<-hv]at hr;have hx:=rm b f i;have hb:=ZW b;have hc:=ZW f;generalize fillV b f i=x at*;obtain⟨p,hp⟩:∃p,Int.tmod b 256=p:=⟨_,rfl⟩
  obtain⟨r,hr2⟩:∃r,Int.tmod f 256=r:=⟨_,rfl⟩
  rw[hp,hr2]at hr;rw[hp]at hb;rw[hr2]at hc;have hm:=ZW (31*p+7*r+(i:Int));obtain⟨m,hm2⟩:∃m,Int.tmod (31*p+7*r+(i:Int)) 256=m:=⟨_,rfl⟩
  rw[hm2]at hr hm;have q1:IntKind.i64.wrap (31*p)=31*p:=qxu _ oM;have q2:IntKind.i64.wrap (7*r)=7*r:=qxu _ oM;have q3:IntKind.i64.wrap (31*p+7*r)=31*p+7*r:=qxu _ oM;have q4:IntKind.i64.wrap (31*p+7*r+(i:Int))=31*p+7*r+(i:Int):=qxu _ oM;clear hf hv hb hc;by_cases hn:m<0
  .rw [if_pos hn]at hr;have q5:IntKind.i64.wrap (m+256)=m+256:=qxu _ oM;have q6:IntKind.u8.wrap (m+256)=(x:Int):=by rw[IntKind.wrap_u8];omega
   clear hr hm hx;go_enter func30,ntmps30
   go_wp2
   go_ret
   exact⟨rfl,rfl⟩
  .rw [if_neg hn]at hr;have q6:IntKind.u8.wrap m=(x:Int):=by rw[IntKind.wrap_u8];omega
   clear hr hm hx;go_enter func30,ntmps30
   go_wp2
   go_ret
   exact⟨rfl,rfl⟩
theorem Sk(b f:Int)(w:World):Calls prog 21 #[.int .i64 b,.int .i64 f] w (Uj w b f):=by
 obtain⟨Z,hZ⟩:=qqe (zB);have hZl:Z.length=64:=by rw[hZ];rfl
 have HZ:=Y3 hZ (wk Z hZ) hZl;obtain⟨w1,hw1⟩:=qqe ((w.alloc (.cells (bkC Z).toArray 60)).alloc (.cells (bkC Z).toArray 60));have g0:w1.heap[w.heap.size]?=some (.cells (bkC Z).toArray 60 (0,0)):=by rw[hw1];exact(qxk _ _ _ oe).trans (zc w _ rfl)
 have g1:w1.heap[w.heap.size+1]?=some (.cells (bkC Z).toArray 60 (0,0)):=by rw[hw1];exact zc _ _ oe
 have hb1:Below w.heap.size w w1:=by rw[hw1];exact((qxl _ w).alloc (qXo _) _).alloc oe _
 have H:=Y3 g0 g1 hb1;have HW:=qqh hw1;clear g0 g1 hb1 hw1 hZ;go_enter func21,ntmps21
 go_wp2_with (first
  |(refine zS rfl _ rfl _ HZ.o.2.1 ?_)
  |fail)
 rw[<-HW.o];go_loopg[6] 64 (fun g i wr=>∃k:Nat,k+g=64/\i=.int .i64 (k:Int)/\wr.heap[w.heap.size+1]?=some (.cells (bkC (vc b f k)).toArray 60 (0,0))/\Upd (fun j=>j=w.heap.size+1) w1 wr)
 case atStart=>
  refine⟨0,oM,rfl,?_,uur _ _⟩;rw[H.o.2.1,HZ.o.1];rfl
 case round=>
  obtain⟨k,hk,rfl,hg,hu⟩:=hrel;by_cases hlt:k<64
  .have c1:=za hg k;have f1:=zf hg k;have hcs:∃u,(bkC (vc b f k)).toArray[k]?=some u:=by
    rw[qxe (by rw[qXh,zm,sZ oM];exact hlt)];exact⟨_,rfl⟩
   obtain⟨u,hu0⟩:=hcs;rw[hu0]at c1;have HB:=qqh (Sj b f k hlt wr);obtain⟨x,hx⟩:=qqe (fillV b f k);rw[<-hx]at HB;have hS:=zh hg k (.int .u8 (x:Int));rw[XD _ _ _ (by rw[hx];exact rm b f k),hx,Za hlt,<-hx]at hS;have hU:=hu.trans (zi wr (w.heap.size+1) k (.int .u8 (x:Int)));have HS:=Y2 hS hU;have k0:(0:Int)<=(k:Int):=oM;have k1:(k:Int)<64:=oM;clear hS hU hg hu hu0 hx;go_wp2_with fail
   refine HB.o.mono ?_;rintro e w3 ⟨rfl,rfl⟩;clear HB;go_wp2
   go_roundg (gk-1)
   case rel=>exact⟨k+1,oM,by go_num,HS.o.1,HS.o.2⟩
   case measure=>omega
  .obtain rfl:k=64:=oM;have hu2:Below w.heap.size w wr:=zj H.o.2.2 hu (qXo _) (fun k h=>oM);have hlt1:w.heap.size+1<w1.heap.size:=zd H.o.2.1;have g0:=(hu.block w.heap.size oM oM).trans H.o.1;have hth:=yK g0 jz;rw[Zb]at hg;obtain⟨y,hy⟩:=qqe (yl b f);rw[<-hy]at hg;have hyl:y.length=64:=by rw[hy];exact zX b f
   have r1:=zg hg;have HX:=Y2 hy hu2;clear hy hg hu hu2 g0;go_wp2_with (first
    |(refine qYy rfl _ _ rfl _ _ rfl _ _ r1 underlying60 rfl (zq y hyl) ?_)
    |(refine qZa rfl _ _ _ rfl _ _ (bkC y).toArray rfl rfl oY oC (qYn (zu _)) ?_)
    |fail)
   refine qYp (zv rfl _ _ w.heap.size 0 (bkC y) _ rfl (qYk _ _ _ _ ji) underlying60 rfl (zq y hyl)) rfl ?_;exact⟨by rw[HX.o.1],zj HX.o.2 (zo _ _ _ _) (qXo _) (fun k h=>oM)⟩
theorem Uk{w:World}{v:Value}{L:List Bk}(h:Rd w 64 v L.length (rowC L))(h64:All64 L){k:Nat}(hk:k<L.length):∃g o c,v=.slice (some ⟨g,o,none⟩) L.length c/\w.rangeAt g (o+k*64) (bkC L[k]):=by
 obtain⟨g,o,c,rfl,-,hc⟩:=h.at oM;refine⟨g,o,c,rfl,fun j u hj=>?_⟩;have hj':=(qyl.1 hj).1;rw[zm,h64 _ (qyu hk)]at hj';have:=hc (k*64+j) u (by rw[vh h64 hk hj'];exact hj)
 rwa[qXl]
def rt(o:O21):List Value:=[.int .i64 o.d,.int .i64 o.fr,.int .i64 o.n,.int .i64 o.fi,o.kp]
def Sm(l:List O21):List Value:=l.flatMap rt
def Ul(l:List O21):Prop:=∀o∈l,o.kp.oneCell'=true
theorem ru:(prog.info? 30).map (·.size)=some 5:=kR
theorem we(fr:Nat)(fi:Int):∀(k:Nat) {l:List Bk},All64 l->All64 (putS fr fi k l)
 |0,_,h=>h
 |k+1,_,h=>(we fr fi k h).set _ (zX _ _)
theorem all64_step(bl:Nat){l:List Bk}(h:All64 l)(o:O21):All64 (xZ bl l o):=by
 unfold xZ
 (repeat' split)<;>first|exact h|exact we _ _ _ h
theorem tj(bl:Nat):All64 (List.replicate bl zB):=fun y hy=>by rw[(List.mem_replicate.1 hy).2];exact zH
theorem xJ(bl:Nat)(l:List O21):All64 (modelS bl l):=by
 have:∀(ops:List O21) (l:List Bk),All64 l->All64 (ops.foldl (xZ bl) l):=by
  intro ops
  induction ops with
  |nil=>intro l h;exact h
  |cons o ops ih=>intro l h;exact ih _ (all64_step bl h o)
 exact this l _ (tj bl)
theorem EF(m:Nat)(hm:m<=4096):∃Z:Array Value,Z.size=m*64/\(∀(j:Nat) (u:Value),(rowC (List.replicate m zB))[j]?=some u->Z[j]?=some u)/\
  ∀w:World,(Instr.makeSlice 32 (.int .i64 (m:Int)) (.int .i64 (m:Int))).run prog w=.ok (.slice (some ⟨w.heap.size,0,none⟩) m m) (w.alloc (.cells Z 60)):=by
 obtain⟨i,hi,hz0,hz1,hz2⟩:=qYs Zh;refine⟨madeCells (bkV zB).cells (m*64),by rw[size_madeCells],fun j u hj=>?_,fun w=>?_⟩
 .have hj':=(qyl.1 hj).1;rw[xO (tj m),qzd]at hj';rw[Yn m zB zH j hj']at hj;have hcs:(bkV zB).cells=(bkC zB).toArray:=rfl;have hsz:(bkC zB).length=64:=by rw[zm,zH]
  simp only[madeCells,Array.getElem?_map,Array.getElem?_range,hj',if_true,Option.map_some,hcs,qXh,hsz];rw[getElem!_def];simp only[qyq,hj]
 .have hmk:=run_make (P:=prog) w 32 60 i (bkV zB) underlying32 hi hz0 .i64 .i64 m m oM (Int.le_refl _) jm oM;rw[qxt,hz1]at hmk;exact hmk
theorem WP{w:World}{m:Nat}(hm:m<=4096){Z:Array Value}(hZ:Z.size=m*64)(hc:∀(j:Nat) (u:Value),(rowC (List.replicate m zB))[j]?=some u->Z[j]?=some u):
  Sl (w.alloc (.cells Z 60)) 60 64 (.slice (some ⟨w.heap.size,0,none⟩) m m) m (rowC (List.replicate m zB)):=
 ⟨by rw[xO (tj m),qzd],.inr ⟨w.heap.size,0,m,Z,rfl,zc w _ rfl,qXo _,by unfold maxLen;omega,by rw[hZ];omega,fun j u hj=>by rw[qXx];exact hc j u hj⟩⟩
theorem ZX(n:Int)(w:World)(h1:1<=n)(h2:n<=64):Calls prog 24 #[.int .i64 n] w fun e w'=>e=.returned (.bool true)/\w'=w:=by
 go_enter func24,ntmps24
 go_wp2
 go_ret
 exact⟨rfl,rfl⟩
theorem zaZ(b f F:Int)(hF:F=f)(w:World):Calls prog 20 #[.int .i64 b,.int .i64 f] w fun e w'=>∃y,y=yl b F/\y.length=64/\e=.returned (.agg (bkC y).toArray)/\Below w.heap.size w w':=
 (ZV b f w).mono fun _ _ ⟨h1,h2⟩=>⟨_,by rw[hF],zX _ _,h1,h2⟩
def tk(w:World)(L:List Bk)(e:Ending)(w':World):Prop:=∃v,e=.returned v/\Sl w' 60 64 v L.length (rowC L)/\From w.heap.size v/\Below w.heap.size w w'
theorem XF{bl:Nat}{l:List Bk}{o:O21}(h:o.fr<0\/o.n<1\/(bl:Int)<o.fr\/(bl:Int)-o.fr<o.n):xZ bl l o=l:=if_pos h
theorem Zc{bl:Nat}{l:List Bk}{o:O21}(h:¬(o.fr<0\/o.n<1\/(bl:Int)<o.fr\/(bl:Int)-o.fr<o.n))(hb:bl<=64):
  xZ bl l o=if o.d=1\/o.d=2 then putS o.fr.toNat o.fi o.n.toNat l else if o.d=3\/o.d=5 then putS o.fr.toNat 0 o.n.toNat l else l:=by
 unfold xZ;rw[if_neg h,if_pos (show o.n<=64 by omega)]
theorem rv{l:List O21}{bl k:Nat}(h:k<l.length):modelS bl (l.take (k+1))=xZ bl (modelS bl (l.take k)) l[k]:=by
 rw[List.take_add_one,qyj h];exact XE bl _ _
theorem ZY{w:World}{g off cap bl i:Nat}{L:List Bk}{x:Bk}(h:Sl w 60 64 (.slice (some ⟨g,off,none⟩) bl cap) bl (rowC L))(h64:All64 L)(hL:L.length=bl)(hi:i<bl)(hx:x.length=64):
  Sl (w.setCells g (off+i*64) (bkC x)) 60 64 (.slice (some ⟨g,off,none⟩) bl cap) bl (rowC (L.set i x))/\w.there g (off+i*64) 64:=by
 obtain⟨g',o',c',cur,e,hg,hz,-⟩:=h.at oM;cases e;subst hL;have h1:=Sl.row_set h64 h hi hx;rw[qze]at h1;exact⟨h1,sj hg hi hz⟩
theorem EG{bl:Nat}(h1:1<=bl)(h2:bl<=40){l:List O21}{v:Value}{w:World}(hr:Rd w 5 v l.length (Sm l))(ho:Ul l):
  Calls prog 17 #[.int .i64 (bl:Int),v] w (tk w (modelS bl l)):=by
 have hle:=hr.le;unfold maxLen at hle;obtain⟨Z,hZ,hZc,hmk⟩:=EF bl oM;obtain⟨w1,hw1⟩:=qqe (w.alloc (.cells Z 60));have hb1:Below w.heap.size w w1:=by rw[hw1];exact(qxl _ w).alloc (qXo _) _
 have s1:=WP (w:=w) oM hZ hZc;rw[<-hw1]at s1;have HW:=qqh hw1;have H:=Y4 hr ho hb1 s1;obtain⟨ao,cc,rfl⟩:=hr.jU;have q0:¬(bl:Int)<1:=oM;obtain⟨g,hg⟩:=qqe (w.heap.size);rw[<-hg]at H;clear hr ho hb1 s1 hZ hZc hw1;go_enter func17,ntmps17
 go_wp2
 go_step3
 go_wp2
 go_step3
 go_wp2_with fail
 rw[<-HW.o,<-hg];have HG:=qqh hg;clear hg hmk;go_loopg[16] l.length (fun gk i wr=>∃k:Nat,k+gk=l.length/\i=.int .i64 (k:Int)/\Sl wr 60 64 (.slice (some ⟨g,0,none⟩) bl bl) bl (rowC (modelS bl (l.take k)))/\Below g w wr)
 case atStart=>exact⟨0,oM,rfl,H.o.2.2.2,H.o.2.2.1⟩
 case round=>
  obtain⟨k,hk,rfl,hs,hb⟩:=hrel;by_cases hlt:k<l.length
  .have k1:(k:Int)<(l.length:Int):=oM;have k0:(0:Int)<=(k:Int):=oM;obtain⟨gg,off,c',e,hgl,hcell⟩:=H.o.1.at oM;cases e;have hx:=yI (enc:=rt) (m:=5) (fun _=>rfl) hcell hlt;have hkp:=H.o.2.1 _ (qyu hlt);have hnx:=rv (bl:=bl) hlt;generalize l[k]=o at*;obtain⟨d,fr,n,fi,kp⟩:=o;obtain⟨cs,hcs⟩:=qqe (rt ⟨d,fr,n,fi,kp⟩);rw[<-hcs]at hx;have hrow:wr.rangeAt gg (off+k*5) cs:=Below.range (HG.o▸hb) hx;have hcl:cs.length=5:=by rw[hcs];rfl
   have hc1:∀u∈cs,u.oneCell'=true:=by
    rw[hcs];intro u hu;simp only[rt,qzm,qzy,qYt]at hu;rcases hu with rfl|rfl|rfl|rfl|rfl<;>first|rfl|exact hkp
   obtain⟨w2,hw2⟩:=qqe (wr.alloc (.cells cs.toArray 30));have hu2:=qqu hw2;obtain⟨q,hq⟩:=qqe (wr.heap.size);have g2:w2.heap[q]?=some (.cells cs.toArray 30 (0,0)):=by rw[hw2,hq];exact zc wr _ rfl
   rw[hcs]at g2;have e0:w2.cell? ⟨q,0,none⟩=some (.int .i64 d):=za g2 0;have e1:w2.cell? ⟨q,1,none⟩=some (.int .i64 fr):=za g2 1;have e2:w2.cell? ⟨q,2,none⟩=some (.int .i64 n):=za g2 2;have e3:w2.cell? ⟨q,3,none⟩=some (.int .i64 fi):=za g2 3;have hci:(prog.info? 30).map (·.size)=some cs.length:=by rw[hcl];exact ru
   have HC:=Y3 hcl hci hc1;have hs2:=hs.keep hu2 (fun _ _ h=>h);have hb2:=hb.trans ((Upd.below hu2).mono (Nat.le_of_lt (hs.lt (g:=g) rfl)));have hqg:q≠g:=by
    have:=hs.lt (g:=g) rfl;omega
   have HW2:=Y2 hw2 hq;have HK:=Y6 hnx hs2 hb2 hk hqg hlt;clear hs hb hx hcell hgl hcs hcl hc1 hci hw2 hq hu2 g2 hs2 hb2 hkp hnx hqg hlt hk;go_wp2_with (first
    |(refine qYy rfl 30 _ rfl _ _ rfl _ _ hrow underlying30 rfl HC.o.2.1 ?_)
    |(refine zk rfl _ _ _ rfl _ _ cs rfl rfl (by rw[HC.o.1];rfl) HC.o.2.1 HC.o.2.2 ?_;refine Stop.i ?_)
    |fail)
   rw[<-HW2.o.1,<-HW2.o.2];unfold Stop;clear hrow;by_cases hbad:fr<0\/n<1\/(bl:Int)<fr\/(bl:Int)-fr<n
   .have hst:=HK.o.1;rw[XF hbad]at hst;have HS:=qqh hst;clear hst;have hbad':fr<0\/¬fr<0/\(n<1\/¬n<1/\((bl:Int)<fr\/¬(bl:Int)<fr/\n>(bl:Int)-fr/\IntKind.i64.wrap ((bl:Int)-fr)=(bl:Int)-fr)):=by
     by_cases c1:fr<0
     .exact .inl c1
     by_cases c2:n<1
     .exact .inr ⟨c1,.inl c2⟩
     by_cases c3:(bl:Int)<fr
     .exact .inr ⟨c1,.inr ⟨c2,.inl c3⟩⟩
     .exact .inr ⟨c1,.inr ⟨c2,.inr ⟨c3,oM,qxu _ oM⟩⟩⟩
    clear hbad;rcases hbad' with c1|⟨c1,c2|⟨c2,c3|⟨c3,c4,c5⟩⟩⟩
    all_goals
     go_wp2
     go_roundg (gk-1)
     case measure=>have:=HK.o.2.2.2.1;omega
     case rel=>exact⟨k+1,by have:=HK.o.2.2.2.1;omega,by go_num,by rw[HS.o];exact HK.o.2.1,HK.o.2.2.1⟩
   .have c1:¬fr<0:=fun h=>hbad (.inl h);have c2:¬n<1:=fun h=>hbad (.inr (.inl h));have c3:¬(bl:Int)<fr:=fun h=>hbad (.inr (.inr (.inl h)));have c4:¬n>(bl:Int)-fr:=fun h=>hbad (.inr (.inr (.inr h)));have c5:IntKind.i64.wrap ((bl:Int)-fr)=(bl:Int)-fr:=qxu _ oM;have hst:=HK.o.1;rw[Zc hbad oM]at hst;have HM:=qqh (ZX n w2 oM oM);obtain⟨f,rfl⟩:=qxr (show 0<=fr by omega);obtain⟨m,rfl⟩:=qxr (show 0<=n by omega);have hfm:f+m<=bl:=oM;simp only[qxt]at hst;have HF:=qqh hfm;have hd:(d=1\/d=2\/d=3\/d=5)\/(d≠1/\d≠2/\d≠3/\d≠5):=oM;obtain⟨ga,hga⟩:=qqe (gk);subst hga;rcases hd with hd|⟨d1,d2,d3,d5⟩
    .have hFx:∃F:Int,modelS bl (l.take (k+1))=putS f F m (modelS bl (l.take k))/\((d=1\/d=2)/\F=fi\/(d=3\/d=5)/\F=0):=by
      rcases hd with h|h|h|h
      .exact ⟨fi,by rw[hst,if_pos (.inl h)],.inl ⟨.inl h,rfl⟩⟩
      .exact ⟨fi,by rw[hst,if_pos (.inr h)],.inl ⟨.inr h,rfl⟩⟩
      .exact ⟨0,by rw[hst,if_neg oM,if_pos (.inl h)],.inr ⟨.inl h,rfl⟩⟩
      .exact ⟨0,by rw[hst,if_neg oM,if_pos (.inr h)],.inr ⟨.inr h,rfl⟩⟩
     clear hd hst hbad hfm;obtain⟨F,hst,⟨rfl|rfl,hF⟩|⟨rfl|rfl,hF⟩⟩:=hFx
     all_goals
      have HS:=Y2 hst hF;clear hst hF;go_wp2_with (first
       |(go_at_call 24;refine HM.o.mono ?_;rintro e w' ⟨rfl,rfl⟩)
       |fail)
      clear e0 e2 e3;go_loopg[59] m (fun gk i wr=>∃j:Nat,j+gk=m/\i=.int .i64 (j:Int)/\Sl wr 60 64 (.slice (some ⟨g,0,none⟩) bl bl) bl (rowC (putS f F j (modelS bl (l.take k))))/\wr.cell? ⟨q,1,none⟩=some (.int .i64 (f:Int))/\Below g w wr)
      case atStart=>exact⟨0,oM,rfl,HK.o.2.1,e1,HK.o.2.2.1⟩
      case round=>
       clear e1;obtain⟨j,hj,rfl,hs,e1,hb⟩:=hrel;by_cases hjm:j<m
       .have hfm:=HF.o;have hgl:=hs.lt (g:=g) rfl;have hqg:=HK.o.2.2.2.2.1;have k2:(j:Int)<(m:Int):=oM;have k3:(0:Int)<=(f:Int)+(j:Int):=oM;have k4:(f:Int)+(j:Int)<(bl:Int):=oM;have k5:IntKind.i64.wrap ((f:Int)+(j:Int))=(f:Int)+(j:Int):=qxu _ oM;have k6:((f:Int)+(j:Int)).toNat=f+j:=oM;have hud:=(uur (fun _=>False) wr).drew;go_upto_region 19 with fail
        refine qZb (S:=fun W=>W.cell? ⟨q,1,none⟩=some (.int .i64 (f:Int))) kR (by rw[qYh];exact e1) (fun hHeld=>?_);refine Wl.i [0,1,2,3,4,5,6,7,8,9] ?_;iterate 10 refine Wl.t hHeld ?_
        refine Wl.o ?_;refine Wl.r 10 (fun K hK=>?_);go_simp
        refine(zaZ _ _ F HS.o.2 _).mono ?_;rintro e w3 ⟨y,hy,hyl,rfl,hb3⟩;have hu3:=hud.trans (uuo (S:=fun _=>False) hb3);have f3:=hu3.jS e1 id;have hs4:=ZY (hs.keep hu3 (fun _ _ h=>h)) (we f F j (xJ bl (l.take k))) (by rw[wZ,yC]) (i:=f+j) oM hyl;rw[qXx]at hs4;replace hy:y=yl ((f+j:Nat):Int) F:=hy.trans (by rw[qxs]);have hb4:=zj (zj hb hu3 (Nat.le_of_eq HG.o) (fun _ h=>h.elim)) (zo w3 g ((f+j)*64) (bkC y)) (Nat.le_of_eq HG.o) (fun k hk=>oM);have f4:=(zo w3 g ((f+j)*64) (bkC y)).jS f3 hqg;have HD:=Y4 hs4.1 hs4.2 hb4 f4;have HE:=qqh hy;clear hs4 hb4 hb3 hu3 hy;refine hK.o _ _ (f3) (fun hH1=>?_);clear hK K;refine Wl.i [11] (Wl.t hH1 (Wl.o ?_));refine Wl.r 12 (fun K hK=>?_);rw[if_pos oy];refine qZc _ _ _ rfl _ _ (bkC y).toArray rfl rfl (by rw[zn _ hyl];exact HD.o.2.1) oC (qYn (zu _)) ?_;simp only[Act.put,qXd];refine hK.o _ _ (f4) (fun hH2=>?_);clear hK K;refine Wl.d ?_;go_wp2
        go_roundg (gk-1)
        case measure=>omega
        case rel=>
         obtain⟨s4,-,b4,d4⟩:=HD.o;refine⟨j+1,oM,by go_num,?_,d4,b4⟩;show Sl _ _ _ _ _ (rowC ((putS f F j (modelS bl (l.take k))).set (f+j) (yl ((f+j:Nat):Int) F)));rw[<-HE.o];exact s4
       .obtain rfl:j=m:=oM;have k2:¬((j:Int)<(j:Int)):=oM;have HE:=Y2 hs hb;clear hs hb e1;go_wp2
        go_roundg (ga-1)
        case measure=>have:=HK.o.2.2.2.1;omega
        case rel=>exact⟨k+1,by have:=HK.o.2.2.2.1;omega,by go_num,by rw[HS.o.1];exact HE.o.1,HE.o.2⟩
    .rw [if_neg oM,if_neg oM]at hst;have HS:=qqh hst;have e1:(d==1)=false:=by simpa using d1
     have e2':(d==2)=false:=by simpa using d2
     have e3':(d==3)=false:=by simpa using d3
     have e5:(d==5)=false:=by simpa using d5
     clear hst hbad hfm;go_wp2
     go_roundg (ga-1)
     case measure=>have:=HK.o.2.2.2.1;omega
     case rel=>exact⟨k+1,by have:=HK.o.2.2.2.1;omega,by go_num,by rw[HS.o];exact HK.o.2.1,HK.o.2.2.1⟩
  .obtain rfl:k=l.length:=oM;have k1:¬((l.length:Int)<(l.length:Int)):=oM;rw[qXj (qXo _)]at hs;have HE:=Y2 hs hb;clear hs hb;go_wp2_with fail
   go_ret
   refine⟨_,rfl,?_,fun g' hg'=>?_,?_⟩
   .rw [yC];exact HE.o.1
   .cases hg';exact Nat.le_of_eq HG.o.symm
   .rw [<-HG.o];exact HE.o.2
theorem EH{w:World}{u v:Value}{L:List Bk}(hu:Rd w 64 u L.length (rowC L))(hv:Rd w 64 v L.length (rowC L))(h64:All64 L):
  Calls prog 13 #[u,v] w fun e w'=>e=.returned (.bool true)/\Upd (fun _=>False) w w':=by
 have hle:=hu.le;unfold maxLen at hle;have H:=Y3 hu hv h64;obtain⟨a1,b1,rfl⟩:=hu.jU;obtain⟨a2,b2,rfl⟩:=hv.jU;clear hu hv h64;go_enter func13,ntmps13
 go_wp2_with fail
 go_loopg[5] L.length (fun gk i wr=>∃k:Nat,k+gk=L.length/\i=.int .i64 (k:Int)/\Upd (fun _=>False) w wr)
 case atStart=>exact⟨0,oM,rfl,uur _ _⟩
 case round=>
  obtain⟨k,hk,rfl,hw⟩:=hrel;by_cases hlt:k<L.length
  .obtain ⟨g1,o1,c1,e1,r1⟩:=Uk (H.o.1.keep hw (fun _ _ h=>h)) H.o.2.2 hlt;obtain⟨g2,o2,c2,e2,r2⟩:=Uk (H.o.2.1.keep hw (fun _ _ h=>h)) H.o.2.2 hlt;cases e1;cases e2;have hyl:=H.o.2.2 _ (qyu hlt);generalize L[k]=y at*;have hne:∀W:World,(binOp .neq 60 (.agg (bkC y).toArray) (.agg (bkC y).toArray)).run prog W=.ok (.bool false) W:=fun W=>by rw[qr y y hyl hyl];simp
   have hsi:=zq y hyl;have hut:=underlying60;have k1:(k:Int)<(L.length:Int):=oM;have k0:(0:Int)<=(k:Int):=oM;have HU:=qqh hw;clear hw hlt hyl;go_upto_region 6 with fail
   refine qZb (S:=fun W=>W.rangeAt g1 (o1+k*64) (bkC y)/\W.rangeAt g2 (o2+k*64) (bkC y)) kR (⟨by rw[qYj];exact r1,by rw[qYj];exact r2⟩) (fun hHeld=>?_);refine Wl.i [0,1,2] ?_;iterate 3 refine Wl.t hHeld ?_
   refine Wl.o ?_;refine Wl.l 3 (fun w h=>h.1) hut hsi hHeld ?_;refine Wl.i [4,5,6] ?_;iterate 3 refine Wl.t hHeld ?_
   refine Wl.o ?_;refine Wl.l 7 (fun w h=>h.2) hut hsi hHeld ?_;refine Wl.i [8] (Wl.t hHeld (Wl.o ?_));refine Wl.d ?_;go_wp2
   go_roundg (gk-1)
   case measure=>omega
   case rel=>exact⟨k+1,oM,by go_num,HU.o.drew⟩
  .obtain rfl:k=L.length:=oM;have k1:¬((L.length:Int)<(L.length:Int)):=oM;have HU:=qqh hw;clear hw;go_wp2
   go_ret
   exact⟨rfl,HU.o⟩
def opP(o:O21):List Value:=[.int .i64 o.d,.int .i64 o.fr,.int .i64 o.n,.int .i64 o.fi]
theorem EJ:(prog.info? 82).map (fun i=>(i.zero,i.size,i.bytes))=some (some (.agg #[.int .i64 0,.int .i64 0,.int .i64 0,.int .i64 0]),4,32):=kR
theorem Sn{w:World}{v:Value}{l:List O21}(hr:Rd w 5 v l.length (Sm l))(hl:l.length<=60):
  Calls prog 19 #[v] w fun e w'=>∃u,e=.returned u/\Sl w' 82 4 u l.length (l.flatMap opP)/\From w.heap.size u/\Below w.heap.size w w':=by
 obtain⟨i0,hi,hz0,hz1,hz2⟩:=qYs EJ;have HI:=Y4 hi hz0 hz1 hz2;have H:=Y2 hr hl;obtain⟨ao,cc,rfl⟩:=hr.jU;clear hr hi hz0 hz1 hz2;go_enter func19,ntmps19
 go_wp2_with fail
 go_loopg[3,4] l.length (fun gk u i wr=>∃k:Nat,k+gk=l.length/\i=.int .i64 (k:Int)/\Sl wr 82 4 u k ((l.take k).flatMap opP)/\From w.heap.size u/\Below w.heap.size w wr)
 case atStart=>exact⟨0,oM,rfl,Sl.nil _ _ _,From.nil _ _ _,qxl _ _⟩
 case round=>
  obtain⟨k,hk,rfl,hs,hf,hb⟩:=hrel;by_cases hlt:k<l.length
  .have k1:(k:Int)<(l.length:Int):=oM;have k0:(0:Int)<=(k:Int):=oM;obtain⟨g,off,c',e,hgl,hcell⟩:=H.o.1.at oM;cases e;have hx:=Below.range hb (yI (enc:=rt) (m:=5) (fun _=>rfl) hcell hlt);have hnx:(l.take (k+1)).flatMap opP=(l.take k).flatMap opP++opP l[k]:=by
    rw[List.take_add_one,qyj hlt,qyd]
    congr 1
   generalize l[k]=o at*;obtain⟨d,fr,n,fi,kp⟩:=o;have e0:wr.cell? ⟨g,off+k*5+0,none⟩=some (.int .i64 d):=hx 0 _ rfl;have e1:wr.cell? ⟨g,off+k*5+1,none⟩=some (.int .i64 fr):=hx 1 _ rfl;have e2:wr.cell? ⟨g,off+k*5+2,none⟩=some (.int .i64 n):=hx 2 _ rfl;have e3:wr.cell? ⟨g,off+k*5+3,none⟩=some (.int .i64 fi):=hx 3 _ rfl;rw[qXm]at e0;obtain⟨xs,hxs⟩:∃xs:List Value,xs=[.int .i64 d,.int .i64 fr,.int .i64 n,.int .i64 fi]:=⟨_,rfl⟩
   have HX:=Y6 hs hf hb hnx hxs hk;obtain⟨uo,uc,rfl⟩:=hs.rd.jU;obtain⟨X,hX⟩:=qqe (wr.drew.alloc (.cells xs.toArray 82));have huX:Upd (fun _=>False) wr X:=by rw[hX];exact((uur _ wr).drew).alloc _
   have hrd:Rd X 4 (.slice (some ⟨wr.drew.heap.size,0,none⟩) 1 1) 1 xs:=by rw[hX];exact Rd.fresh wr.drew xs 82 1 (by rw[hxs];rfl) oj
   obtain⟨v',w2,hrun,hs2,hu2,hbf⟩:=yu 57 57 i0 _ 32 underlying57 HI.o.1 HI.o.2.1 HI.o.2.2.1 HI.o.2.2.2 rfl de (hs.keep huX (fun _ _ h=>h)) hrd (by rw[hxs];intro u hu;simp at hu;rcases hu with rfl|rfl|rfl|rfl<;>rfl) (by unfold maxLen;have:=H.o.2;omega) (by have:=H.o.2;omega);rw[hxs]at hX;subst hX;have hng:¬ownS (.slice uo k uc) g:=fun e=>absurd (hf g e) oM;have y0:=hu2.jS (huX.jS e0 id) hng;have y1:=hu2.jS (huX.jS e1 id) hng;have y2:=hu2.jS (huX.jS e2 id) hng;have y3:=hu2.jS (huX.jS e3 id) hng;have z0:=huX.jS e0 id;have z1:=huX.jS e1 id;have z2:=huX.jS e2 id;have z3:=huX.jS e3 id;have HY:=Y4 hs2 hu2 hbf huX;clear hs hf hb hnx hx hcell hgl hxs hk hs2 hu2 hbf huX hrd hng;go_upto_region 5 with fail
   refine qZb (S:=fun W=>W.cell? ⟨g,off+k*5,none⟩=some (.int .i64 d)/\W.cell? ⟨g,off+k*5+1,none⟩=some (.int .i64 fr)/\W.cell? ⟨g,off+k*5+2,none⟩=some (.int .i64 n)/\W.cell? ⟨g,off+k*5+3,none⟩=some (.int .i64 fi)) kR (⟨by rw[qYh];assumption,by rw[qYh];assumption,by rw[qYh];assumption,by rw[qYh];assumption⟩) (fun hHeld=>?_);refine Wl.i [0,1,2,3,4,5,6,7,8,9,10,11,12,13,14,15,16,17,18,19,20] ?_;iterate 21 refine Wl.t hHeld ?_
   refine Wl.o ?_;refine Wl.r 21 (fun K hK=>?_);go_simp
   refine hK.o _ _ (hHeld) (fun hH1=>?_);clear hK K;refine Wl.r 22 (fun K hK=>?_);go_simp
   refine hK.o _ _ (⟨z0,z1,z2,z3⟩) (fun hH2=>?_);clear hK K;refine Wl.r 23 (fun K hK=>?_);refine zU rfl _ _ _ rfl rfl rfl hrun ?_;refine hK.o _ _ (⟨y0,y1,y2,y3⟩) (fun hH3=>?_);clear hK K;refine Wl.r 24 (fun K hK=>?_);go_simp
   refine hK.o _ _ (hH3) (fun hH4=>?_);clear hK K;refine Wl.d ?_;obtain⟨av,cv,rfl⟩:=HY.o.1.rd.jU;go_wp2
   go_roundg (gk-1)
   case measure=>have:=HX.o.2.2.2.2.2;omega
   case rel=>
    obtain⟨hs2,hu2,hbf,huX⟩:=HY.o;obtain⟨hs,hf,hb,hnx,hxs,hk⟩:=HX.o;refine⟨k+1,oM,by go_num,?_,hbf.ge (qXq hb.size huX.size) hf,zj (zj hb huX (qXo _) (fun _ h=>h.elim)) hu2 (qXo _) hf.own⟩;rw[hnx];rw[hxs]at hs2;exact hs2
  .obtain rfl:k=l.length:=oM;have k1:¬((l.length:Int)<(l.length:Int)):=oM;rw[qXj (qXo _)]at hs;have HU:=Y3 hs hf hb;clear hs hf hb;go_wp2
   go_ret
   exact⟨_,rfl,HU.o.1,HU.o.2.1,HU.o.2.2⟩
theorem So(k:Nat):List.replicate (k+1) zB=List.replicate k zB++[zB]:=List.replicate_succ'
theorem Um:(prog.info? 82).map (·.size)=some 4:=kR
theorem EK{bl:Nat}(h1:1<=bl)(h2:bl<=40){l:List O21}{v:Value}{w:World}(hr:Rd w 4 v l.length (l.flatMap opP)):
  Calls prog 18 #[.int .i64 (bl:Int),v] w (tk w (modelS bl l)):=by
 have hle:=hr.le;unfold maxLen at hle;obtain⟨i0,z,hi,hz,hzs,hsz,hby⟩:=yj;have HK:=Y5 hi hz hzs hsz hby;obtain⟨Z,hZ⟩:=qqe (zB);have hZl:Z.length=64:=by rw[hZ];rfl
 have hZc:(bkC Z).length=64:=by rw[zm,hZl]
 have HZ:=Y5 hZ (yT Z hZ) hZl hZc (zu Z);have H:=qqh hr;obtain⟨ao,cc,rfl⟩:=hr.jU;clear hr hi hz hzs hsz hby hZ hZc;go_enter func18,ntmps18
 go_wp2_with fail
 go_loopg[5,6] bl (fun gk u i wr=>∃k:Nat,k+gk=bl/\i=.int .i64 (k:Int)/\Sl wr 60 64 u k (rowC (List.replicate k zB))/\From w.heap.size u/\Below w.heap.size w wr)
 case atStart=>exact⟨0,oM,rfl,Sl.nil _ _ _,From.nil _ _ _,qxl _ _⟩
 case round=>
  obtain⟨k,hk,rfl,hs,hf,hb⟩:=hrel;by_cases hlt:k<bl
  .have k1:(k:Int)<(bl:Int):=oM;have HS:=Y4 hs hf hb hk;obtain⟨uo,uc,rfl⟩:=hs.rd.jU;clear hs hf hb hk;go_wp2_with (first
    |(refine zO rfl rfl HZ.o.2.1 ?_)
    |(refine ym rfl 32 60 _ rfl 64 de underlying32 ⟨i0,z,HK.o.1,HK.o.2.1,HK.o.2.2.1,HK.o.2.2.2.1⟩ de (bkC Z) rfl HZ.o.2.2.2.1 ?_)
    |(at_builtin;refine zG rfl _ _ _ rfl i0 z 64 underlying32 HK.o.1 HK.o.2.1 HK.o.2.2.2.1 HK.o.2.2.2.2 HK.o.2.2.1 de rfl HS.o.1 (bkC Z) oy HZ.o.2.2.2.1 HZ.o.2.2.2.2 oj oM ?_;intro v' w11 hs11 hu11 hbf)
    |fail)
   have HG:=Y3 hs11 hu11 hbf;clear hs11 hu11 hbf;go_roundg (gk-1)
   case measure=>have:=HS.o.2.2.2;omega
   case rel=>
    obtain⟨hs11,hu11,hbf⟩:=HG.o;refine⟨k+1,by have:=HS.o.2.2.2;omega,by go_num,?_,hbf.ge HS.o.2.2.1.size HS.o.2.1,zj HS.o.2.2.1 hu11 (qXo _) HS.o.2.1.own⟩;rw[So,xt,<-HZ.o.1];rw[<-HZ.o.1]at hs11;exact hs11
  .obtain rfl:k=bl:=oM;have k1:¬((k:Int)<(k:Int)):=oM;obtain⟨g,off,c,cur,rfl,hg,hz1,hc1⟩:=hs.at oM;have hg0:w.heap.size<=g:=hf g rfl;have HS:=Y4 hs hf hb hg0;clear hs hf hb hg hz1 hc1 hg0;go_wp2_with fail
   obtain⟨gq,hgq⟩:=qqe (gk);subst hgq;go_loopg[7] l.length (fun gk i wr=>∃j:Nat,j+gk=l.length/\i=.int .i64 (j:Int)/\Sl wr 60 64 (.slice (some ⟨g,off,none⟩) k c) k (rowC (modelS k (l.take j)))/\Below w.heap.size w wr)
   case atStart=>exact⟨0,oM,rfl,HS.o.1,HS.o.2.2.1⟩
   case round=>
    obtain⟨j,hj,rfl,hs,hb⟩:=hrel;by_cases hlt:j<l.length
    .have k2:(j:Int)<(l.length:Int):=oM;have k0:(0:Int)<=(j:Int):=oM;obtain⟨gg,o2,c',e,hgl,hcell⟩:=H.o.at oM;cases e;have hx:=Below.range hb (yI (enc:=opP) (m:=4) (fun _=>rfl) hcell hlt);have hnx:=rv (bl:=k) hlt;generalize l[j]=o at*;obtain⟨d,fr,n,fi,kp⟩:=o;obtain⟨cs,hcs⟩:=qqe (opP ⟨d,fr,n,fi,kp⟩);rw[<-hcs]at hx;have hcl:cs.length=4:=by rw[hcs];rfl
     have hc1:∀u∈cs,u.oneCell'=true:=by
      rw[hcs];intro u hu;simp only[opP,qzm,qzy,qYt]at hu;rcases hu with rfl|rfl|rfl|rfl<;>rfl
     obtain⟨w2,hw2⟩:=qqe (wr.alloc (.cells cs.toArray 82));have hu2:=qqu hw2;obtain⟨q,hq⟩:=qqe (wr.heap.size);have g2:w2.heap[q]?=some (.cells cs.toArray 82 (0,0)):=by rw[hw2,hq];exact zc wr _ rfl
     rw[hcs]at g2;have e0:w2.cell? ⟨q,0,none⟩=some (.int .i64 d):=za g2 0;have e1:w2.cell? ⟨q,1,none⟩=some (.int .i64 fr):=za g2 1;have e2:w2.cell? ⟨q,2,none⟩=some (.int .i64 n):=za g2 2;have e3:w2.cell? ⟨q,3,none⟩=some (.int .i64 fi):=za g2 3;have hci:(prog.info? 82).map (·.size)=some cs.length:=by rw[hcl];exact Um
     have HC:=Y3 hcl hci hc1;have hs2:=hs.keep hu2 (fun _ _ h=>h);have hb2:=hb.trans ((Upd.below hu2).mono hb.size);have hqg:q≠g:=by
      have:=hs.lt (g:=g) rfl;omega
     have HW2:=Y2 hw2 hq;have HX:=Y6 hnx hs2 hb2 hj hqg hlt;obtain⟨ga,hga⟩:=qqe (gk);subst hga;clear hs hb hcell hgl hcs hcl hc1 hci hw2 hq hu2 g2 hs2 hb2 hnx hqg hlt hj;go_wp2_with (first
      |(refine qYy rfl 82 _ rfl _ _ rfl _ _ hx underlying82 rfl HC.o.2.1 ?_)
      |(refine zk rfl _ _ _ rfl _ _ cs rfl rfl (by rw[HC.o.1];rfl) HC.o.2.1 HC.o.2.2 ?_;refine Stop.i ?_)
      |fail)
     rw[<-HW2.o.1,<-HW2.o.2];unfold Stop;clear hx;by_cases hd:d=1\/d=2\/d=3\/d=5
     rotate_left
     .have d1:¬d=1:=oM;have d2:¬d=2:=oM;have d3:¬d=3:=oM;have d5:¬d=5:=oM;have hst:modelS k (l.take (j+1))=modelS k (l.take j):=by
       rw[HX.o.1];unfold xZ;rw[if_neg (show¬(d=1\/d=2) by omega),if_neg (show¬(d=3\/d=5) by omega),ite_self]
      have HT:=qqh hst;have f1:(d==1)=false:=by simpa using d1
      have f2:(d==2)=false:=by simpa using d2
      have f3:(d==3)=false:=by simpa using d3
      have f5:(d==5)=false:=by simpa using d5
      have n3:(d !=3)=true:=by simpa using d3
      have n5:(d !=5)=true:=by simpa using d5
      clear hst hd;go_wp2
      go_roundg (ga-1)
      case measure=>have:=HX.o.2.2.2.1;omega
      case rel=>exact⟨j+1,by have:=HX.o.2.2.2.1;omega,by go_num,by rw[HT.o];exact HX.o.2.1,HX.o.2.2.1⟩
     by_cases hbad:fr<0\/n<1\/(k:Int)<fr\/(k:Int)-fr<n
     .have hst:=HX.o.1;rw[XF hbad]at hst;have HT:=qqh hst;have hbad':fr<0\/¬fr<0/\(n<1\/¬n<1/\((k:Int)<n\/¬(k:Int)<n/\fr>(k:Int)-n/\IntKind.i64.wrap ((k:Int)-n)=(k:Int)-n)):=by
       by_cases c1:fr<0
       .exact .inl c1
       by_cases c2:n<1
       .exact .inr ⟨c1,.inl c2⟩
       by_cases c3:(k:Int)<n
       .exact .inr ⟨c1,.inr ⟨c2,.inl c3⟩⟩
       .exact .inr ⟨c1,.inr ⟨c2,.inr ⟨c3,oM,qxu _ oM⟩⟩⟩
      clear hbad hst;rcases hd with rfl|rfl|rfl|rfl<;>rcases hbad' with c1|⟨c1,c2|⟨c2,c3|⟨c3,c4,c5⟩⟩⟩
      all_goals
       go_wp2
       go_roundg (ga-1)
       case measure=>have:=HX.o.2.2.2.1;omega
       case rel=>exact⟨j+1,by have:=HX.o.2.2.2.1;omega,by go_num,by rw[HT.o];exact HX.o.2.1,HX.o.2.2.1⟩
     .have c1:¬fr<0:=fun h=>hbad (.inl h);have c2:¬n<1:=fun h=>hbad (.inr (.inl h));have c3:¬(k:Int)<n:=oM;have c4:¬fr>(k:Int)-n:=oM;have c5:IntKind.i64.wrap ((k:Int)-n)=(k:Int)-n:=qxu _ oM;have c6:¬n>64:=oM;have hst:=HX.o.1;rw[Zc hbad oM]at hst;obtain⟨f,rfl⟩:=qxr (show 0<=fr by omega);obtain⟨m,rfl⟩:=qxr (show 0<=n by omega);have hfm:f+m<=k:=oM;simp only[qxt]at hst;have HFm:=qqh hfm;have hFx:∃F:Int,modelS k (l.take (j+1))=putS f F m (modelS k (l.take j))/\((d=1\/d=2)/\F=fi\/(d=3\/d=5)/\F=0):=by
       rcases hd with h|h|h|h
       .exact ⟨fi,by rw[hst,if_pos (.inl h)],.inl ⟨.inl h,rfl⟩⟩
       .exact ⟨fi,by rw[hst,if_pos (.inr h)],.inl ⟨.inr h,rfl⟩⟩
       .exact ⟨0,by rw[hst,if_neg oM,if_pos (.inl h)],.inr ⟨.inl h,rfl⟩⟩
       .exact ⟨0,by rw[hst,if_neg oM,if_pos (.inr h)],.inr ⟨.inr h,rfl⟩⟩
      clear hd hst hbad hfm;obtain⟨F,hst,hF⟩:=hFx;have HS2:=Y2 hst hF;clear hst;rcases hF with⟨hd,rfl⟩|⟨hd,rfl⟩
      .rcases hd with rfl|rfl
       all_goals
        go_wp2_with fail
        clear e0;go_loopg[10] m (fun gk i wr=>∃x:Nat,x+gk=m/\i=.int .i64 ((f:Int)+(x:Int))/\Sl wr 60 64 (.slice (some ⟨g,off,none⟩) k c) k (rowC (putS f F x (modelS k (l.take j))))/\wr.cell? ⟨q,1,none⟩=some (.int .i64 (f:Int))/\
         wr.cell? ⟨q,2,none⟩=some (.int .i64 (m:Int))/\wr.cell? ⟨q,3,none⟩=some (.int .i64 F)/\Below w.heap.size w wr)
        case atStart=>exact⟨0,oM,oe,HX.o.2.1,e1,e2,e3,HX.o.2.2.1⟩
        case round=>
         clear e1 e2 e3;obtain⟨x,hx,rfl,hs,e1,e2,e3,hb⟩:=hrel;have hfm:=HFm.out;have k7:(f:Int)+(m:Int)<=40:=oM;by_cases hxm:x<m
         .have hqg:=HX.o.2.2.2.2.1;have hg0:=HS.o.2.2.2;have k5:(f:Int)+(x:Int)<(f:Int)+(m:Int):=oM;have k3:(0:Int)<=(f:Int)+(x:Int):=oM;have k4:(f:Int)+(x:Int)<(k:Int):=oM;have k6:((f:Int)+(x:Int)).toNat=f+x:=oM;have h64:=we f F x (xJ k (l.take j));have hln:(putS f F x (modelS k (l.take j))).length=k:=by rw[wZ,yC]
          have hs3:=ZY hs h64 hln (i:=f+x) oM HZ.o.2.2.1;have hu3:=zo wr g (off+(f+x)*64) (bkC Z);have HD:=Y8 hs3.2 hs3.1 (hu3.jS e1 hqg) (hu3.jS e2 hqg) (hu3.jS e3 hqg) (zj hb hu3 (qXo _) (fun k hk=>by rw[hk];exact hg0)) (h64.set (f+x) HZ.o.2.2.1) (by rw[qze];exact hln:((putS f F x (modelS k (l.take j))).set (f+x) Z).length=k);clear hs hb hs3 hu3 h64 hln;go_wp2_with (first
           |(refine zO rfl rfl HZ.o.2.1 ?_)
           |(refine qZa rfl _ _ _ rfl _ _ (bkC Z).toArray rfl rfl (by rw[zn _ HZ.o.2.2.1];exact HD.o.1) (by rw[zn _ HZ.o.2.2.1];exact zF) (qYn (zu _)) ?_;refine Stop.i ?_)
           |fail)
          obtain⟨-,s3,e1,e2,e3,b3,h64,hln⟩:=HD.o;unfold Stop;generalize wr.setCells g (off+(f+x)*64) (bkC Z)=w3 at*;have HE:=Y4 s3 b3 h64 hln;clear s3 b3 h64 hln HD;go_wp2_with fail
          refine(Sk _ _ _).mono ?_;rintro e w4 ⟨rfl,hb4⟩;obtain⟨y,hy⟩:=qqe (yl ((f:Int)+(x:Int)) F);have hyl:y.length=64:=by rw[hy];exact zX _ _
          have hu4:=uuo (S:=fun _=>False) hb4;obtain⟨s3,b3,h64,hln⟩:=HE.o;have hs5:=ZY (s3.keep hu4 (fun _ _ h=>h)) h64 hln (i:=f+x) oM hyl;have hu5:=zo w4 g (off+(f+x)*64) (bkC y);have HG:=Y6 hs5.2 hs5.1 (hu5.jS (hu4.jS e1 id) hqg) (hu5.jS (hu4.jS e2 id) hqg) (hu5.jS (hu4.jS e3 id) hqg) (zj (zj b3 hu4 (qXo _) (fun _ h=>h.elim)) hu5 (qXo _) (fun k hk=>by rw[hk];exact hg0));have HY:=Y2 hy hyl;rw[<-hy];clear s3 b3 h64 hln hs5 hu4 hu5 hb4 e1 e2 e3 hy;go_wp2_with (first
           |(refine qZa rfl _ _ _ rfl _ _ (bkC y).toArray rfl rfl (by rw[zn _ HY.o.2];exact HG.o.1) (by rw[zn _ HY.o.2];exact zF) (qYn (zu _)) ?_)
           |fail)
          go_roundg (gk-1)
          case measure=>omega
          case rel=>
           obtain⟨-,s5,e1,e2,e3,b5⟩:=HG.o;refine⟨x+1,oM,by go_num,?_,e1,e2,e3,b5⟩;rw[List.set_set]at s5;show Sl _ _ _ _ _ (rowC ((putS f F x (modelS k (l.take j))).set (f+x) (yl ((f+x:Nat):Int) F)));rw[qxs,<-HY.o.1];exact s5
         .obtain rfl:x=m:=oM;have HE:=Y2 hs hb;clear hs hb;go_wp2
          go_roundg (ga-1)
          case measure=>have:=HX.o.2.2.2.1;omega
          case rel=>exact⟨j+1,by have:=HX.o.2.2.2.1;omega,by go_num,by rw[HS2.o.1];exact HE.o.1,HE.o.2⟩
      .rcases hd with rfl|rfl
       all_goals
        go_wp2_with fail
        clear e0;go_loopg[10] m (fun gk i wr=>∃x:Nat,x+gk=m/\i=.int .i64 ((f:Int)+(x:Int))/\Sl wr 60 64 (.slice (some ⟨g,off,none⟩) k c) k (rowC (putS f 0 x (modelS k (l.take j))))/\wr.cell? ⟨q,1,none⟩=some (.int .i64 (f:Int))/\
         wr.cell? ⟨q,2,none⟩=some (.int .i64 (m:Int))/\wr.cell? ⟨q,3,none⟩=some (.int .i64 fi)/\Below w.heap.size w wr)
        case atStart=>exact⟨0,oM,oe,HX.o.2.1,e1,e2,e3,HX.o.2.2.1⟩
        case round=>
         clear e1 e2 e3;obtain⟨x,hx,rfl,hs,e1,e2,e3,hb⟩:=hrel;have hfm:=HFm.out;have k7:(f:Int)+(m:Int)<=40:=oM;by_cases hxm:x<m
         .have hqg:=HX.o.2.2.2.2.1;have hg0:=HS.o.2.2.2;have k5:(f:Int)+(x:Int)<(f:Int)+(m:Int):=oM;have k3:(0:Int)<=(f:Int)+(x:Int):=oM;have k4:(f:Int)+(x:Int)<(k:Int):=oM;have k6:((f:Int)+(x:Int)).toNat=f+x:=oM;have h64:=we f 0 x (xJ k (l.take j));have hln:(putS f 0 x (modelS k (l.take j))).length=k:=by rw[wZ,yC]
          have hs3:=ZY hs h64 hln (i:=f+x) oM HZ.o.2.2.1;have hu3:=zo wr g (off+(f+x)*64) (bkC Z);have HD:=Y8 hs3.2 hs3.1 (hu3.jS e1 hqg) (hu3.jS e2 hqg) (hu3.jS e3 hqg) (zj hb hu3 (qXo _) (fun k hk=>by rw[hk];exact hg0)) (h64.set (f+x) HZ.o.2.2.1) (by rw[qze];exact hln:((putS f 0 x (modelS k (l.take j))).set (f+x) Z).length=k);clear hs hb hs3 hu3 h64 hln;go_wp2_with (first
           |(refine zO rfl rfl HZ.o.2.1 ?_)
           |(refine qZa rfl _ _ _ rfl _ _ (bkC Z).toArray rfl rfl (by rw[zn _ HZ.o.2.2.1];exact HD.o.1) (by rw[zn _ HZ.o.2.2.1];exact zF) (qYn (zu _)) ?_;refine Stop.i ?_)
           |fail)
          obtain⟨-,s3,e1,e2,e3,b3,h64,hln⟩:=HD.o;have HE:=Y5 s3 b3 e1 e2 e3;clear s3 b3 h64 hln HD e1 e2 e3;unfold Stop;go_wp2
          go_roundg (gk-1)
          case measure=>omega
          case rel=>
           obtain⟨s5,b5,e1,e2,e3⟩:=HE.o;refine⟨x+1,oM,by go_num,?_,e1,e2,e3,b5⟩;show Sl _ _ _ _ _ (rowC ((putS f 0 x (modelS k (l.take j))).set (f+x) (yl ((f+x:Nat):Int) 0)));rw[rn,<-HZ.o.1];exact s5
         .obtain rfl:x=m:=oM;have HE:=Y2 hs hb;clear hs hb;go_wp2
          go_roundg (ga-1)
          case measure=>have:=HX.o.2.2.2.1;omega
          case rel=>exact⟨j+1,by have:=HX.o.2.2.2.1;omega,by go_num,by rw[HS2.o.1];exact HE.o.1,HE.o.2⟩
    .obtain rfl:j=l.length:=oM;have k2:¬((l.length:Int)<(l.length:Int)):=oM;rw[qXj (qXo _)]at hs;have HE:=Y2 hs hb;clear hs hb;go_wp2_with fail
     go_ret
     refine⟨_,rfl,?_,HS.o.2.1,HE.o.2⟩;rw[yC];exact HE.o.1
theorem Zd(l:List O21):modelS 0 l=[]:=qyb (yC 0 l)
theorem Sp{l:List O21}{v:Value}(w:World):Calls prog 17 #[.int .i64 0,v] w (tk w (modelS 0 l)):=by
 rw[Zd];go_enter func17,ntmps17
 go_wp2
 go_step3
 go_wp2
 try rw[qxq]
 go_ret
 exact⟨_,rfl,Sl.nil _ _ _,From.nil _ _ _,qxl _ _⟩
theorem Sq{l:List O21}{v:Value}{w:World}(hr:Rd w 4 v l.length (l.flatMap opP)):
  Calls prog 18 #[.int .i64 0,v] w (tk w (modelS 0 l)):=by
 rw[Zd];have hle:=hr.le;unfold maxLen at hle;have H:=qqh hr;obtain⟨ao,cc,rfl⟩:=hr.jU;clear hr;go_enter func18,ntmps18
 go_wp2_with fail
 go_loopg[5,6] 0 (fun gk u i wr=>u=.slice none 0 0/\i=.int .i64 0/\wr=w)
 case atStart=>exact⟨rfl,rfl,rfl⟩
 case round=>
  obtain⟨rfl,rfl,rfl⟩:=hrel;go_wp2_with fail
  obtain⟨gq,hgq⟩:=qqe (gk);subst hgq;obtain⟨w0,hw0⟩:∃x,x=wr:=⟨_,rfl⟩
  subst hw0;go_loopg[7] l.length (fun gk i wr=>∃j:Nat,j+gk=l.length/\i=.int .i64 (j:Int)/\Below w0.heap.size w0 wr)
  case atStart=>exact⟨0,oM,rfl,qxl _ _⟩
  case round=>
   obtain⟨j,hj,rfl,hb⟩:=hrel;by_cases hlt:j<l.length
   .have k2:(j:Int)<(l.length:Int):=oM;have k0:(0:Int)<=(j:Int):=oM;obtain⟨gg,o2,c',e,hgl,hcell⟩:=H.o.at oM;cases e;have hx:=Below.range hb (yI (enc:=opP) (m:=4) (fun _=>rfl) hcell hlt);generalize l[j]=o at*;obtain⟨d,fr,n,fi,kp⟩:=o;obtain⟨cs,hcs⟩:=qqe (opP ⟨d,fr,n,fi,kp⟩);rw[<-hcs]at hx;have hcl:cs.length=4:=by rw[hcs];rfl
    have hc1:∀u∈cs,u.oneCell'=true:=by
     rw[hcs];intro u hu;simp only[opP,qzm,qzy,qYt]at hu;rcases hu with rfl|rfl|rfl|rfl<;>rfl
    obtain⟨w2,hw2⟩:=qqe (wr.alloc (.cells cs.toArray 82));have hu2:=qqu hw2;obtain⟨q,hq⟩:=qqe (wr.heap.size);have g2:w2.heap[q]?=some (.cells cs.toArray 82 (0,0)):=by rw[hw2,hq];exact zc wr _ rfl
    rw[hcs]at g2;have e0:w2.cell? ⟨q,0,none⟩=some (.int .i64 d):=za g2 0;have e1:w2.cell? ⟨q,1,none⟩=some (.int .i64 fr):=za g2 1;have e2:w2.cell? ⟨q,2,none⟩=some (.int .i64 n):=za g2 2;have hci:(prog.info? 82).map (·.size)=some cs.length:=by rw[hcl];exact Um
    have HC:=Y3 hcl hci hc1;have hb2:=hb.trans ((Upd.below hu2).mono hb.size);have HW2:=Y2 hw2 hq;have HX:=Y2 hb2 hj;obtain⟨ga,hga⟩:=qqe (gk);subst hga;clear hb hcell hgl hcs hcl hc1 hci hw2 hq hu2 g2 hb2 hlt hj;go_wp2_with (first
     |(refine qYy rfl 82 _ rfl _ _ rfl _ _ hx underlying82 rfl HC.o.2.1 ?_)
     |(refine zk rfl _ _ _ rfl _ _ cs rfl rfl (by rw[HC.o.1];rfl) HC.o.2.1 HC.o.2.2 ?_;refine Stop.i ?_)
     |fail)
    rw[<-HW2.o.1,<-HW2.o.2];unfold Stop;clear hx;have hd:(d=1\/d=2\/d=3\/d=5)\/((d==1)=false/\(d==2)=false/\(d !=3)=true/\(d !=5)=true/\¬d=1/\¬d=2/\¬d=3/\¬d=5):=by
     by_cases h:d=1\/d=2\/d=3\/d=5
     .exact .inl h
     .have d1:¬d=1:=oM;have d2:¬d=2:=oM;have d3:¬d=3:=oM;have d5:¬d=5:=oM;exact .inr ⟨by simpa using d1,by simpa using d2,by simpa using d3,by simpa using d5,d1,d2,d3,d5⟩
    have hbad:fr<0\/¬fr<0/\(n<1\/¬n<1/\n>0):=oM;rcases hd with hd|⟨d1,d2,d3,d5,f1,f2,f3,f5⟩
    .rcases hd with rfl|rfl|rfl|rfl<;>rcases hbad with c1|⟨c1,c2|⟨c2,c3⟩⟩
     all_goals
      go_wp2
      go_roundg (ga-1)
      case measure=>have:=HX.o.2;omega
      case rel=>exact⟨j+1,by have:=HX.o.2;omega,by go_num,HX.o.1⟩
    .go_wp2
     go_roundg (ga-1)
     case measure=>have:=HX.o.2;omega
     case rel=>exact⟨j+1,by have:=HX.o.2;omega,by go_num,HX.o.1⟩
   .obtain rfl:j=l.length:=oM;have k2:¬((l.length:Int)<(l.length:Int)):=oM;have HE:=qqh hb;clear hb;go_wp2_with fail
    go_ret
    exact⟨_,rfl,Sl.nil _ _ _,From.nil _ _ _,HE.o⟩
end Go.Proofs.YtpejdgiccaijfaaGreatDoor
