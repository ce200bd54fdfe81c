/- The index: contracts of the code's functions.  -/
import Derived.Test.YtfhfbpmlnjdfoaaGreatDoorG06
import Derived.Laws.Bits64b
import Derived.Test.YtfhfbpmlnjdfoaaGreatDoorG03
set_option maxRecDepth 100000
set_option maxHeartbeats 4000000
namespace Go.Proofs.YtfhfbpmlnjdfoaaGreatDoor
open Go Go.RowKit
abbrev zN(s:Int)(d:Bool):Value:=.agg #[.int .i64 s,.bool d]
theorem yR(w:World):Calls Tryz.prog 173 #[] w fun e w'=>e=.returned (zN (-1) false)/\Upd (fun _=>False) w w'/\w'.heap.size=w.heap.size+1:=by
 go_enter Tryz.func173,Tryz.ntmps173
 go_wp2
 have hA:=zc w (.cells #[.int .i64 (-1),.bool false] 95) rfl;have c0:=za hA 0;have c1:=za hA 1;simp at c0 c1;refine qYw (v:=zN (-1) false) ?_ rfl ⟨rfl,(uur _ _).alloc _,by simp⟩;simp[results,Tryz.results173,go_sem]
def plC(l:List (Int×Bool)):List Value:=l.flatMap fun p=>[.int .i64 p.1,.bool p.2]
theorem RD(l:List (Int×Bool)):(plC l).length=l.length*2:=yE (f:=fun p:Int×Bool=>[Value.int .i64 p.1,Value.bool p.2]) (k:=2) (fun _=>rfl) l
theorem xI{l:List (Int×Bool)}{k:Nat}(h:k<l.length):(plC l)[k*2]?=some (.int .i64 l[k].1)/\(plC l)[k*2+1]?=some (.bool l[k].2):=
 ⟨we (f:=fun p:Int×Bool=>[Value.int .i64 p.1,Value.bool p.2]) (k:=2) (fun _=>rfl) l k 0 (by decide) l[k] (qyn h),
  we (f:=fun p:Int×Bool=>[Value.int .i64 p.1,Value.bool p.2]) (k:=2) (fun _=>rfl) l k 1 (by decide) l[k] (qyn h)⟩
theorem UX(n:Nat):noPl n=plC (List.replicate n (-1,false)):=by
 induction n with
 |zero=>rfl
 |succ n ih=>rw[Nat.add_comm n 1,tQ,ih,<-List.replicate_append_replicate];simp[plC,noPl]
structure IndexAt(w:World)(b:Nat)(v:Value)(mb N:Nat)(ps:List (Int×Bool))(slots:Nat):Prop where
 str:w.heap[b]?=some (.cells #[v,.map (some mb),.int .i64 slots] 285 (0,0))
 sl:Sl w 95 2 v ps.length (plC ps)
 map:MapAt w mb N (atOf ps)
 good:Good ps slots
 ne:v.ownBlock≠some b
 nm:mb≠b
 nv:v.ownBlock≠some mb
 le:ps.length<=4096
 sl1:slots<=1024
def ixS(v:Value)(mb:Nat):Nat->Prop:=fun j=>v.ownBlock=some j\/j=mb
theorem IndexAt.keep{w w':World}{b mb N:Nat}{v:Value}{ps:List (Int×Bool)}{slots:Nat}(h:IndexAt w b v mb N ps slots){S:Nat->Prop}(hu:Upd S w w')(hb:¬S b)(hs:∀j,ixS v mb j->¬S j):IndexAt w' b v mb N ps slots:=
 {str:=(hu.block _ (zd h.str) hb).trans h.str,sl:=h.sl.keep hu (fun g hg=>hs g (.inl hg)),map:=h.map.keep hu (hs mb (.inr rfl)),good:=h.good,ne:=h.ne,nm:=h.nm,nv:=h.nv,le:=h.le,sl1:=h.sl1}
theorem IndexAt.below{w w':World}{b mb N:Nat}{v:Value}{ps:List (Int×Bool)}{slots:Nat}(h:IndexAt w b v mb N ps slots)(hb:Below w.heap.size w w'):IndexAt w' b v mb N ps slots:=
 h.keep (uuo (S:=fun _=>False) hb) (fun h=>h) (fun _ _ h=>h)
theorem IndexAt.mono{w:World}{b mb N N':Nat}{v:Value}{ps:List (Int×Bool)}{slots:Nat}(h:IndexAt w b v mb N ps slots)(hn:N<=N'):IndexAt w b v mb N' ps slots:={h with map:=h.map.mono hn}
theorem IndexAt.blt{w:World}{b mb N:Nat}{v:Value}{ps:List (Int×Bool)}{slots:Nat}(h:IndexAt w b v mb N ps slots):b<w.heap.size:=zd h.str
theorem IndexAt.slt{w:World}{b mb N:Nat}{v:Value}{ps:List (Int×Bool)}{slots:Nat}(h:IndexAt w b v mb N ps slots):∀j,ixS v mb j->j<w.heap.size:=by
 rintro j (hj|rfl)
 .exact h.sl.lt hj
 .exact h.map.lt
theorem RE(n s:Nat)(w:World)(h1:1<=n)(h2:n<=4096)(h3:1<=s)(h4:s<=1024):
  Calls Tryz.prog 132 #[.int .i64 n,.int .i64 s] w fun e w'=>∃b v mb,e=.returned (.tuple #[.pointer (some ⟨b,0,none⟩),.int .i64 0])/\
   IndexAt w' b v mb 0 (List.replicate n (-1,false)) s/\w.heap.size<=b/\w.heap.size<=mb/\From w.heap.size v/\Below w.heap.size w w':=by
 have hmm:= @run_makeMap Tryz.prog;go_enter Tryz.func132,Tryz.ntmps132
 go_wp2_with fail
 refine(yR _).mono ?_;rintro e w1 ⟨rfl,hu1,hz1⟩;have hx:(w1.alloc (.cells #[.int .i64 (-1),.bool false] 95)).heap[w.heap.size+1]?=some (.cells #[.int .i64 (-1),.bool false] 95):=zc _ _ hz1.symm;have HX:=qqh hx;clear hx;go_wp2_with fail
 refine(Vq n (w.heap.size+1) _ h1 h2 HX.o).mono ?_;rintro e w2 ⟨rfl,hg2,hb2,hz2⟩;have hz2':w2.heap.size=w.heap.size+3:=by rw[hz2];simp[hz1]
 have hB2:Below w.heap.size w w2:=(zj (qxl _ w) (hu1.alloc (.cells #[.int .i64 (-1),.bool false] 95)) (qXv _) (fun _ h=>h.elim)).trans (hb2.mono (by simp[hz1];omega));have HG:=qqh hg2;have HB:=qqh hB2;clear hg2 hB2 hb2 hz2;go_wp2
 go_ret2
 have hM:=Upd.alloc (uur (fun _=>False) w2) (.map #[] 0);have hg2:w2.heap[w.heap.size+2]?=some (.cells (noPl n).toArray 95):=by have:=HG.o;simpa[hz1]using this
 have hsl:Sl w2 95 2 (.slice (some ⟨w.heap.size+2,0,none⟩) n n) (List.replicate n ((-1:Int),false)).length (plC (List.replicate n (-1,false))):=by
  rw[<-UX];refine⟨by rw[yI];simp,.inr ⟨w.heap.size+2,0,n,(noPl n).toArray,by simp,hg2,by simp,by unfold maxLen;omega,by simp[yI],fun j u hj=>by simpa using hj⟩⟩
 have hmap:MapAt (w2.alloc (.map #[] 0)) (w.heap.size+3) 0 (atOf (List.replicate n (-1,false))):=by
  have:=MapAt.made w2;rw[hz2']at this;rw[YZ];exact this
 refine⟨w.heap.size+3+1,.slice (some ⟨w.heap.size+2,0,none⟩) n n,w.heap.size+3,rfl,⟨zc _ _ (by simp[hz2']),?_,hmap.keep (Upd.alloc (uur (fun _=>False) _) _) (fun h=>h),Good.start n s,by simp[Value.ownBlock],by omega,by simp[Value.ownBlock],by simp;omega,h4⟩,by omega,by omega,?_,?_⟩
 .exact hsl.keep (hM.alloc _) (fun _ _ h=>h)
 .intro g hg;simp[Value.ownBlock]at hg;omega
 .exact zj HB.o (hM.alloc _) (qXv _) (fun _ h=>h.elim)
def getV(ps:List (Int×Bool))(b:Int):Int×Bool:=if b<0\/(ps.length:Int)<=b then(0,false)else if ps.getD b.toNat (-1,false)=(-1,false)then(0,false)else ps.getD b.toNat (-1,false)
def getC(ps:List (Int×Bool))(b:Int):Int:=if b<0\/(ps.length:Int)<=b then 10 else if ps.getD b.toNat (-1,false)=(-1,false)then 14 else 0
theorem RF{w:World}{b mb N:Nat}{v:Value}{ps:List (Int×Bool)}{slots:Nat}(h:IndexAt w b v mb N ps slots)(k:Int)(ho:k<0\/(ps.length:Int)<=k):
  Calls Tryz.prog 100 #[.pointer (some ⟨b,0,none⟩),.int .i64 k] w fun e w'=>e=.returned (.tuple #[zN 0 false,.int .i64 10])/\Below w.heap.size w w':=by
 have hu:Upd (fun _=>False) w (w.alloc (.cells #[.int .i64 0,.bool false] 95)):=(uur _ _).alloc _;have hc0:=(hu.cellAt (o:=0) (zd h.str) (fun h=>h)).trans (za h.str 0);simp at hc0;have hle:=h.le;have hA:=zc w (.cells #[.int .i64 0,.bool false] 95) rfl;have c0:=za hA 0;have c1:=za hA 1;simp at c0 c1;have C0:=qqh c0;have C1:=qqh c1;clear hA c0 c1;obtain⟨ao,c,rfl⟩:=h.sl.rd.nil_iff;clear h;by_cases h0:k<0
 .clear ho;go_enter Tryz.func100,Tryz.ntmps100
  go_wp2
  refine qYw (v:=.tuple #[zN 0 false,.int .i64 10]) ?_ rfl ⟨rfl,(qxl _ _).alloc (qXv _) _⟩;simp[results,Tryz.results100,go_sem]
 .have h1:(ps.length:Int)<=k:=by omega
  clear ho;go_enter Tryz.func100,Tryz.ntmps100
  go_wp2
  refine qYw (v:=.tuple #[zN 0 false,.int .i64 10]) ?_ rfl ⟨rfl,(qxl _ _).alloc (qXv _) _⟩;simp[results,Tryz.results100,go_sem]
theorem IndexAt.at{w:World}{b mb N:Nat}{v:Value}{ps:List (Int×Bool)}{slots:Nat}(h:IndexAt w b v mb N ps slots){k:Nat}(hk:k<ps.length):
  ∃g off cap,v=.slice (some ⟨g,off,none⟩) ps.length cap/\g<w.heap.size/\w.cell? ⟨g,off+k*2,none⟩=some (.int .i64 ps[k].1)/\w.cell? ⟨g,off+k*2+1,none⟩=some (.bool ps[k].2):=by
 obtain⟨g,off,cap,cur,rfl,hg,_,hc⟩:=h.sl.at (by omega);exact⟨g,off,cap,rfl,zd hg,by rw[za hg];exact hc _ _ (xI hk).1,by rw[za hg];exact hc (k*2+1) _ (xI hk).2⟩
theorem ZK{w:World}{b mb N:Nat}{v:Value}{ps:List (Int×Bool)}{slots:Nat}(h:IndexAt w b v mb N ps slots)(k:Nat)(hk:k<ps.length)(hp:ps[k].1≠-1):
  Calls Tryz.prog 100 #[.pointer (some ⟨b,0,none⟩),.int .i64 k] w fun e w'=>e=.returned (.tuple #[zN ps[k].1 ps[k].2,.int .i64 0])/\Below w.heap.size w w':=by
 have hu:Upd (fun _=>False) w (w.alloc (.cells #[.int .i64 0,.bool false] 95)):=(uur _ _).alloc _;have hc0:=(hu.cellAt (o:=0) (zd h.str) (fun h=>h)).trans (za h.str 0);simp at hc0;have hle:=h.le;have hbl:=zd h.str;obtain⟨g,off,cap,rfl,hg,q0,q1⟩:=h.at hk;have p0:=(hu.cellAt hg (fun h=>h)).trans q0;have p1:=(hu.cellAt hg (fun h=>h)).trans q1;have hA:=zc w (.cells #[.int .i64 0,.bool false] 95) rfl;have HA:=qqh hA;clear h q0 q1 hA;go_enter Tryz.func100,Tryz.ntmps100
 go_wp2
 go_region_held3 (fun W=>W.cell? ⟨b,0,none⟩=some (.slice (some ⟨g,off,none⟩) ps.length cap)/\W.cell? ⟨g,off+k*2,none⟩=some (.int .i64 ps[k].1)/\W.cell? ⟨g,off+k*2+1,none⟩=some (.bool ps[k].2)) (go_keep)
  ((go_at_call 173;refine(yR _).mono ?_;rintro e w2 ⟨rfl,hu2,hz2⟩;have k0:=(hu2.cellAt (o:=0) (by simp;omega) (fun h=>h)).trans hc0;have k1:=(hu2.cellAt (by simp;omega) (fun h=>h)).trans p0;have k2:=(hu2.cellAt (by simp;omega) (fun h=>h)).trans p1))
 have hb0:(ps[k].1== -1)=false:=by simpa using hp
 have hA2:w2.heap[w.heap.size]?=some (.cells #[.int .i64 0,.bool false] 95):=(hu2.block _ (by simp) (fun h=>h)).trans HA.o;have r0:=za hA2 0;have r1:=za hA2 1;have f0:=zf hA2 0;have f1:=zf hA2 1;simp at r0 r1;have HA2:=qqh hA2;clear hA2;go_wp2
 have HA3:=zh (zh HA2.o 0 (.int .i64 ps[k].1)) 1 (.bool ps[k].2);have y0:=za HA3 0;have y1:=za HA3 1;simp at y0 y1;refine qYw (v:=.tuple #[zN ps[k].1 ps[k].2,.int .i64 0]) ?_ rfl ⟨rfl,?_⟩
 .simp [results,Tryz.results100,go_sem,y0,y1]
 .exact zj (zj (((qxl _ _).alloc (qXv _) _).drew) hu2 (qXv _) (fun _ (h:False)=>h.elim)) ((zi w2 w.heap.size 0 (.int .i64 ps[k].1)).trans (zi _ _ 1 _)) (qXv _) (fun j e=>by omega)
theorem UY{w:World}{b mb N:Nat}{v:Value}{ps:List (Int×Bool)}{slots:Nat}(h:IndexAt w b v mb N ps slots)(k:Nat)(hk:k<ps.length)(hp:ps[k]=(-1,false)):
  Calls Tryz.prog 100 #[.pointer (some ⟨b,0,none⟩),.int .i64 k] w fun e w'=>e=.returned (.tuple #[zN 0 false,.int .i64 14])/\Below w.heap.size w w':=by
 have hu:Upd (fun _=>False) w (w.alloc (.cells #[.int .i64 0,.bool false] 95)):=(uur _ _).alloc _;have hc0:=(hu.cellAt (o:=0) (zd h.str) (fun h=>h)).trans (za h.str 0);simp at hc0;have hle:=h.le;have hbl:=zd h.str;obtain⟨g,off,cap,rfl,hg,q0,q1⟩:=h.at hk;rw[hp]at q0 q1;have p0:=(hu.cellAt hg (fun h=>h)).trans q0;have p1:=(hu.cellAt hg (fun h=>h)).trans q1;have hA:=zc w (.cells #[.int .i64 0,.bool false] 95) rfl;have HA:=qqh hA;clear h q0 q1 hA hp;go_enter Tryz.func100,Tryz.ntmps100
 go_wp2
 go_region_held3 (fun W=>W.cell? ⟨b,0,none⟩=some (.slice (some ⟨g,off,none⟩) ps.length cap)/\W.cell? ⟨g,off+k*2,none⟩=some (.int .i64 (-1))/\W.cell? ⟨g,off+k*2+1,none⟩=some (.bool false)) (go_keep)
  ((go_at_call 173;refine(yR _).mono ?_;rintro e w2 ⟨rfl,hu2,hz2⟩;have k0:=(hu2.cellAt (o:=0) (by simp;omega) (fun h=>h)).trans hc0;have k1:=(hu2.cellAt (by simp;omega) (fun h=>h)).trans p0;have k2:=(hu2.cellAt (by simp;omega) (fun h=>h)).trans p1))
 have hA2:w2.heap[w.heap.size]?=some (.cells #[.int .i64 0,.bool false] 95):=(hu2.block _ (by simp) (fun h=>h)).trans HA.o;have r0:=za hA2 0;have r1:=za hA2 1;have f0:=zf hA2 0;have f1:=zf hA2 1;simp at r0 r1;have HA2:=qqh hA2;clear hA2;go_wp2
 have HA3:=zh (zh HA2.o 0 (.int .i64 0)) 1 (.bool false);have y0:=za HA3 0;have y1:=za HA3 1;simp at y0 y1;refine qYw (v:=.tuple #[zN 0 false,.int .i64 14]) ?_ rfl ⟨rfl,?_⟩
 .simp [results,Tryz.results100,go_sem,y0,y1]
 .exact zj (zj (((qxl _ _).alloc (qXv _) _).drew) hu2 (qXv _) (fun _ (h:False)=>h.elim)) ((zi w2 w.heap.size 0 (.int .i64 0)).trans (zi _ _ 1 _)) (qXv _) (fun j e=>by omega)
theorem wg(a b:Nat)(ha:a<4611686018427387904)(hb:b<4611686018427387904):bits .xor .i64 (a:Int) (b:Int)=((a^^^b:Nat):Int):=by
 have hx:a^^^b<2^62:=Nat.xor_lt_two_pow (by omega) (by omega);have h1:(BitVec.ofInt 64 (a:Int)).toNat=a:=by rw[qxm,qxn];exact qXz (by omega)
 have h2:(BitVec.ofInt 64 (b:Int)).toNat=b:=by rw[qxm,qxn];exact qXz (by omega)
 show IntKind.i64.wrap ((BitVec.ofInt 64 (a:Int)^^^BitVec.ofInt 64 (b:Int)).toNat:Int)=_;rw[BitVec.toNat_xor,h1,h2,IntKind.wrap_i64];omega
theorem vM(a b:Nat)(ha:a<4611686018427387904)(hb:b<4611686018427387904):bits .and .i64 (a:Int) (b:Int)=((a&&&b:Nat):Int):=by
 have hx:a&&&b<2^62:=Nat.and_lt_two_pow _ (by omega);have h1:(BitVec.ofInt 64 (a:Int)).toNat=a:=by rw[qxm,qxn];exact qXz (by omega)
 have h2:(BitVec.ofInt 64 (b:Int)).toNat=b:=by rw[qxm,qxn];exact qXz (by omega)
 show IntKind.i64.wrap ((BitVec.ofInt 64 (a:Int)&&&BitVec.ofInt 64 (b:Int)).toNat:Int)=_;rw[BitVec.toNat_and,h1,h2,IntKind.wrap_i64];omega
theorem ZL(a b:Nat)(ha:a<4611686018427387904)(hb:b<4611686018427387904):bits .or .i64 (a:Int) (b:Int)=((a|||b:Nat):Int):=by
 have hx:a|||b<2^62:=Nat.or_lt_two_pow (by omega) (by omega)
 have h1:(BitVec.ofInt 64 (a:Int)).toNat=a:=by rw[qxm,qxn];exact qXz (by omega)
 have h2:(BitVec.ofInt 64 (b:Int)).toNat=b:=by rw[qxm,qxn];exact qXz (by omega)
 show IntKind.i64.wrap ((BitVec.ofInt 64 (a:Int)|||BitVec.ofInt 64 (b:Int)).toNat:Int)=_;rw[BitVec.toNat_or,h1,h2,IntKind.wrap_i64];omega
def nibT:List Nat:=[0,274646895,549293790,820201905,1098587580,1361435347,1640403810,1905808397,2197175160,2460548119,2722870694,2987750089,3280807620,3553878443,3811616794,4084100981]
def nibC(i:Nat):Nat:=nibT.getD i 0
theorem Wo(i:Nat):nibC i<4294967296:=by
 unfold nibC nibT;by_cases h:i<16
 .have:i=0\/i=1\/i=2\/i=3\/i=4\/i=5\/i=6\/i=7\/i=8\/i=9\/i=10\/i=11\/i=12\/i=13\/i=14\/i=15:=by omega
  rcases this with rfl|rfl|rfl|rfl|rfl|rfl|rfl|rfl|rfl|rfl|rfl|rfl|rfl|rfl|rfl|rfl<;>decide
 .rw [qyh,qyo (by simp;omega)];decide
def stepC(s f:Nat):Nat:=(s/16)^^^nibC ((s^^^f)&&&15)
theorem tR{s f:Nat}(h:s<4294967296):stepC s f<4294967296:=by
 unfold stepC;exact Nat.xor_lt_two_pow (n:=32) (by omega) (Wo _)
def Wp(s:Nat)(b:UInt8):Nat:=stepC (stepC s (b.toNat&&&15)) (b.toNat/16)
theorem byteC_lt{s:Nat}{b:UInt8}(h:s<4294967296):Wp s b<4294967296:=tR (tR h)
def sumC(xs:List UInt8):Nat:=xs.foldl Wp 4294967295
theorem Vr(xs:List UInt8)(b:UInt8):sumC (xs++[b])=Wp (sumC xs) b:=by simp[sumC]
theorem sI(xs:List UInt8):sumC xs<4294967296:=by
 have:∀(xs:List UInt8) (s:Nat),s<4294967296->xs.foldl Wp s<4294967296:=by
  intro xs
  induction xs with
  |nil=>intro s h;exact h
  |cons b xs ih=>intro s h;exact ih _ (byteC_lt h)
 exact this xs _ (by omega)
def crcC(xs:List UInt8):Nat:=sumC xs^^^4294967295
theorem wK(xs:List UInt8):crcC xs<4294967296:=Nat.xor_lt_two_pow (n:=32) (sI xs) (by decide)
def lowB(n:Nat):Nat->List UInt8
 |0=>[]
 |k+1=>UInt8.ofNat n::lowB (n/256) k
theorem zU(n k:Nat):(lowB n k).length=k:=by
 induction k generalizing n with
 |zero=>rfl
 |succ k ih=>simp[lowB,ih]
def numB:List UInt8->Nat
 |[]=>0
 |b::l=>b.toNat+256*numB l
theorem ZM(n k:Nat)(h:n<256^k):numB (lowB n k)=n:=by
 induction k generalizing n with
 |zero=>simp at h;subst h;rfl
 |succ k ih=>
  simp only[lowB,numB];rw[ih (n/256) (by rw[Nat.div_lt_iff_lt_mul (by omega)];rw[Nat.pow_succ]at h;exact h)];have:(UInt8.ofNat n).toNat=n%256:=by simp
  rw[this];omega
def sealB(b:Bk):Bk:=b.take 60++lowB (crcC (b.take 60)) 4
theorem wL{b:Bk}(h:b.length=64):(sealB b).length=64:=by simp[sealB,zU,h]
theorem Xe{b:Bk}(h:b.length=64):(sealB b).take 60=b.take 60:=by
 exact List.take_left' (by simp[h])
theorem Xf{b:Bk}(h:b.length=64):sealB (sealB b)=sealB b:=by
 show(sealB b).take 60++_=_;rw[Xe h];rfl
structure Nib(w:World):Prop where
 c:∀i,i<16->w.cell? ⟨0,i,none⟩=some (.int .i64 (nibC i))
theorem Nib.lt{w:World}(h:Nib w):0<w.heap.size:=(zL (h.c 0 (by decide))).2
theorem Nib.keep{w w':World}(h:Nib w){S:Nat->Prop}(hu:Upd S w w')(hs:¬S 0):Nib w':=⟨fun i hi=>(hu.cellAt h.lt hs).trans (h.c i hi)⟩
theorem Nib.below{w w':World}(h:Nib w)(hb:Below w.heap.size w w'):Nib w':=h.keep (uuo (S:=fun _=>False) hb) (fun h=>h)
theorem ZN{w:World}{g:Nat}(s f:Nat)(hs:s<4294967296)(hf:f<256)(hN:Nib w)(hc:w.cell? ⟨g,0,none⟩=some (.int .i64 (s:Int)))(hz:w.frozen? ⟨g,0,none⟩=false):
  Calls Tryz.prog 262 #[.int .i64 (f:Int),.pointer (some ⟨g,0,none⟩)] w fun e w'=>e=.returned (.int .i64 (stepC s f:Nat))/\
   w'.cell? ⟨g,0,none⟩=some (.int .i64 (stepC s f:Nat))/\w'.frozen? ⟨g,0,none⟩=false/\Upd (fun j=>j=g) w w':=by
 have hx:=wg s f (by omega) (by omega);have hxl:s^^^f<4294967296:=Nat.xor_lt_two_pow (n:=32) (by omega) (by omega);have ha:bits .and .i64 ((s^^^f:Nat):Int) 15=(((s^^^f)&&&15:Nat):Int):=vM (s^^^f) 15 (by omega) (by omega);have hal:(s^^^f)&&&15<16:=Nat.and_lt_two_pow (n:=4) _ (by omega);have hcell:=hN.c _ hal;have hst:bits .xor .i64 ((s:Int)/16) ((nibC ((s^^^f)&&&15):Nat):Int)=((s/16^^^nibC ((s^^^f)&&&15):Nat):Int):=wg (s/16) (nibC ((s^^^f)&&&15)) (by omega) (by have:=Wo ((s^^^f)&&&15);omega);have hfin:Hid (stepC s f=s/16^^^nibC ((s^^^f)&&&15)):=rfl;generalize (s^^^f)&&&15=m at*;clear hN;go_enter Tryz.func262,Tryz.ntmps262
 go_wp2
 go_region
 rw[<-hfin.out];have hU:Hid (Upd (fun j=>j=g) w (w.setCell ⟨g,0,none⟩ (.int .i64 (stepC s f:Nat))).drew):=(zi _ _ _ _).drew;have hcc:(w.setCell ⟨g,0,none⟩ (.int .i64 (stepC s f:Nat))).drew.cell? ⟨g,0,none⟩=some (.int .i64 (stepC s f:Nat)):=by
  rw[qYo,World.cell?_setCell_same _ _ _ hc]
 have hff:(w.setCell ⟨g,0,none⟩ (.int .i64 (stepC s f:Nat))).drew.frozen? ⟨g,0,none⟩=false:=by simpa using hz
 have HF:=Y2 hcc hff;clear hff hst hx ha;generalize (w.setCell ⟨g,0,none⟩ (.int .i64 (stepC s f:Nat))).drew=w2 at*;go_wp2
 go_ret
 exact⟨rfl,HF.o.1,HF.o.2,hU.out⟩
theorem ZO{w:World}(s:Nat):
  Calls Tryz.prog 180 #[.int .i64 (s:Int)] w fun e w'=>e=.returned (.func (.func 262) #[] #[.pointer (some ⟨w.heap.size,0,none⟩)])/\w'=w.alloc (.cells #[.int .i64 (s:Int)] 3):=by
 have hmf:=qqf;go_enter Tryz.func180,Tryz.ntmps180
 go_wp2
 go_ret
 exact⟨rfl,rfl⟩
theorem vN{w:World}{gl g o n cl cp:Nat}(xs:List UInt8)(hN:Nib w)(hl:w.cell? ⟨gl,0,none⟩=some (.slice (some ⟨g,o,none⟩) n cp))(hx:w.rangeAt g o (bkC xs))(hxl:xs.length=n)(hn:1<=n)(hn2:n<=1000):
  Calls Tryz.prog 114 #[.slice (some ⟨gl,0,none⟩) 1 cl] w fun e w'=>e=.returned (.int .i64 (crcC xs:Nat))/\Below w.heap.size w w':=by
 have hu:Upd (fun _=>False) w (w.alloc (.cells #[.int .i64 ((4294967295:Nat):Int)] 3)):=(uur _ w).alloc _;have hc:=za (zc w (.cells #[.int .i64 ((4294967295:Nat):Int)] 3) rfl) 0;have hz:=zf (zc w (.cells #[.int .i64 ((4294967295:Nat):Int)] 3) rfl) 0;have hg:g<w.heap.size:=by have:=qYn w _ (hx 0 _ (by rw[qyn (by rw[zo];omega)]));exact this
 have hgl:gl<w.heap.size:=qYn w _ hl;have H:=Y9 hN hl hx hxl hu hc hz hg hgl;clear hN hl hx hxl hu hc hz hg hgl;go_enter Tryz.func114,Tryz.ntmps114
 go_wp2
 go_step3
 go_wp2_with fail
 refine(ZO 4294967295).mono ?_;rintro e w1 ⟨rfl,rfl⟩;go_wp2
 go_step3
 go_wp2
 generalize hw1:w.alloc (.cells #[.int .i64 ((4294967295:Nat):Int)] 3)=w1 at*;have HW:Hid (w1=w.alloc (.cells #[.int .i64 ((4294967295:Nat):Int)] 3)):=hw1.symm;clear hw1;go_loopw[3,13] (fun s3 s13 wr=>(s13=.int .i64 0/\s3=.int .i64 4294967295/\wr.cell? ⟨w.heap.size,0,none⟩=some (.int .i64 4294967295)/\wr.frozen? ⟨w.heap.size,0,none⟩=false/\Upd (fun j=>j=w.heap.size) w1 wr)\/
   (s13=.int .i64 1/\s3=.int .i64 (sumC xs:Nat)/\Upd (fun j=>j=w.heap.size) w1 wr)) (fun _ s13 _=>(1-intOf s13).toNat)
 case atStart=>obtain⟨hN,hl,hx,hxl,hu,hc,hz,hg,hgl⟩:=H.o;exact .inl ⟨rfl,rfl,hc,hz,uur _ _⟩
 case round=>
  obtain⟨wb,rfl⟩:∃wb:World,wb=wr:=⟨_,rfl⟩
  rcases hrel with⟨rfl,rfl,hc,hz,hu⟩|⟨rfl,rfl,hu⟩
  .obtain ⟨hN,hl,hx,hxl,hu0,-,-,hg,hgl⟩:=H.o;have hU:Upd (fun j=>j=w.heap.size) w wb:=(hu0.mono (fun _ _ h=>h.elim)).trans hu;have hN':=hN.keep hU (by have:=hN.lt;omega);have hl':=hU.cellv hl (by omega);have hx':=hU.range hx (by omega);have HH:=Y7 hN' hx' hu hxl hg hc hz;clear hN hl hx hxl hu0 hg hgl hU hN' hx' hu hc hz;have hn0:((n:Int)==0)=false:=by rw[qYv];omega
   go_wp2
   clear hn0;go_loopw[3,22] (fun s3 s22 wr=>∃k:Nat,k<=n/\s22=.int .i64 k/\s3=.int .i64 ((sumC (xs.take k):Nat):Int)/\wr.cell? ⟨w.heap.size,0,none⟩=some (.int .i64 ((sumC (xs.take k):Nat):Int))/\wr.frozen? ⟨w.heap.size,0,none⟩=false/\Upd (fun j=>j=w.heap.size) wb wr) (fun _ s22 _=>n-(intOf s22).toNat)
   case atStart=>exact⟨0,qYf _,rfl,rfl,HH.o.2.2.2.2.2.1,HH.o.2.2.2.2.2.2,uur _ _⟩
   case round=>
    obtain⟨k,hk,rfl,rfl,hc,hz,hu2⟩:=hrel;obtain⟨hN,hx,hu,hxl,hg,-,-⟩:=HH.o;have hbl:(bkC xs).length=n:=by rw[zo,hxl]
    by_cases hlt:k<n
    .have hkx:k<xs.length:=by omega
     have hck:wr.cell? ⟨g,o+k,none⟩=some (.int .u8 ((xs[k].toNat:Nat):Int)):=
      hu2.cellv (hx k _ (by simp only[bkC,qyq,qyn hkx,Option.map_some];rfl)) (by omega)
     have hN2:=hN.keep hu2 (by have:=(H.o.1).lt;omega);have hbt:xs[k].toNat<256:=xs[k].toNat_lt;have ha:bits .and .i64 ((xs[k].toNat:Nat):Int) 15=((xs[k].toNat&&&15:Nat):Int):=vM xs[k].toNat 15 (by omega) (by omega);have hal:xs[k].toNat&&&15<16:=Nat.and_lt_two_pow (n:=4) _ (by omega);have hsl:=sI (xs.take k);have hts:Hid (sumC (xs.take (k+1))=stepC (stepC (sumC (xs.take k)) (xs[k].toNat&&&15)) (xs[k].toNat/16)):=by
      show _=_;rw[qXq hkx,Vr];rfl
     have HX:=Y7 hN2 hu2 hc hz hal hsl hxl;clear hN hx hu hxl hg hc hz hu2 hN2 hbl;go_wp2_with fail
     generalize xs[k].toNat=by1 at*;refine(ZN (sumC (xs.take k)) (by1&&&15) hsl (by omega) HX.o.1 HX.o.2.2.1 HX.o.2.2.2.1).mono ?_;rintro e w2 ⟨rfl,hc2,hz2,hu3⟩;have hN2:=HX.o.1.keep hu3 (by have:=(H.o.1).lt;omega);have hs2:stepC (sumC (xs.take k)) (by1&&&15)<4294967296:=tR hsl;have HY:=Y5 hN2 hu3 hc2 hz2 hs2;clear hN2 hu3 hc2 hz2 hs2;go_wp2_with fail
     rw[show((by1:Int)/16)=((by1/16:Nat):Int)from rfl];refine(ZN _ (by1/16) HY.o.2.2.2.2 (by omega) HY.o.1 HY.o.2.2.1 HY.o.2.2.2.1).mono ?_;rintro e w3 ⟨rfl,hc3,hz3,hu4⟩;rw[<-hts.out];rw[<-hts.out]at hc3;have HZ:=Y3 hu4 hc3 hz3;clear hu4 hc3 hz3;go_wp2
     go_roundw
     case rel=>exact⟨k+1,by omega,by go_num,rfl,HZ.o.2.1,HZ.o.2.2,(HX.o.2.1.trans HY.o.2.1).trans HZ.o.1⟩
     case measure=>simp[intOf];omega
    .obtain rfl:k=n:=by omega
     have HF:Hid (xs.take k=xs):=by show _=_;rw[qXp (by omega)]
     have HG:=Y2 hu hu2;clear hu hu2 hN hx hxl hc hz hbl;go_wp2
     go_roundw
     case rel=>exact .inr ⟨rfl,by rw[HF.o],HG.o.1.trans HG.o.2⟩
     case measure=>simp[intOf]
  .have hfx:bits .xor .i64 ((sumC xs:Nat):Int) 4294967295=((crcC xs:Nat):Int):=wg (sumC xs) 4294967295 (by have:=sI xs;omega) (by omega);go_wp2
   try rw[qxr]
   go_ret
   obtain⟨hN,hl,hx,hxl,hu0,-,-,hg,hgl⟩:=H.o;exact⟨rfl,zj (Upd.below hu0) hu (qXv _) (fun k e=>by omega)⟩
theorem need_any(n:Nat)(h1:1<=n)(h2:n<=100000)(w:World):Calls Tryz.prog 54 #[.int .i64 (n:Int)] w fun e w'=>e=.returned (.int .i64 (((n-1)/4+1:Nat):Int))/\w=w':=by
 have q1:decide ((n:Int)<0)=false:=by simp
 have q2:((n:Int)==0)=false:=by rw[qYv];omega
 have hn:¬((n:Int)<0):=by omega
 go_enter Tryz.func54,Tryz.ntmps54
 go_wp2
 go_ret
 refine⟨?_,rfl⟩;show Ending.returned (Value.int .i64 _)=_
 congr 2
 omega
theorem JB(n f t:Int)(h1:f<=n)(h2:n<=t)(w:World):Calls Tryz.prog 53 #[.int .i64 n,.int .i64 f,.int .i64 t] w fun e w'=>e=.returned (.bool true)/\w=w':=by
 have q1:decide (f<=n)=true:=by simpa using h1
 have q2:decide (n<=t)=true:=by simpa using h2
 go_enter Tryz.func53,Tryz.ntmps53
 go_wp2
 go_ret
 exact⟨rfl,rfl⟩
abbrev superC(id bl sl jo pa lo ba:Int):List Value:=[.int .i64 id,.int .i64 bl,.int .i64 sl,.int .i64 jo,.int .i64 pa,.int .i64 lo,.int .i64 ba]
abbrev layC(sl jo pa lo:Nat):List Value:=[.int .i64 1,.int .i64 (1+2*(pa:Int)),.int .i64 (1+2*(pa:Int)+(jo:Int)),.int .i64 (1+2*(pa:Int)+(jo:Int)+(lo:Int)),.int .i64 (1+2*(pa:Int)+(jo:Int)+(lo:Int)+(lo:Int)),.int .i64 (1+2*(pa:Int)+(jo:Int)+(lo:Int)+(lo:Int)+(lo:Int)),.int .i64 (1+2*(pa:Int)+(jo:Int)+(lo:Int)+(lo:Int)+(lo:Int)+(sl:Int))]
theorem Upd.blockv{w w':World}(h:Upd (fun _=>False) w w'){b:Nat}{o:Obj}(e:w.heap[b]?=some o):w'.heap[b]?=some o:=by
 have:=h.block b (Array.getElem?_eq_some_iff.1 e).1 (fun h=>h);rw[this,e]
theorem UZ(sl jo pa lo:Nat):(layC sl jo pa lo).toArray.all (·.oneCell')=true:=by
 refine qYu fun v hv=>?_;simp only[layC,qzr,qXd,qZb]at hv;rcases hv with rfl|rfl|rfl|rfl|rfl|rfl|rfl<;>rfl
theorem xG:(Tryz.prog.info? 43).map (·.size)=some 7:=by kernel_rfl
theorem yY:(Tryz.prog.info? 40).map (·.size)=some 7:=by kernel_rfl
theorem vO(id:Int)(bl sl jo pa lo ba:Nat)(b1:1<=bl)(b2:bl<=4096)(s1:1<=sl)(s2:sl<=1024)(j1:4<=jo)(j2:jo<=1024)(l1:1<=lo)(l2:lo<=1024)(a1:1<=ba)(a2:ba<=64)(p1:(sl-1)/4+1<=pa)(p2:pa<=4096)
  (hz:1+2*pa+jo+lo+lo+lo+sl<=4096) (w:World):
  Calls Tryz.prog 14 #[.agg (superC id bl sl jo pa lo ba).toArray] w fun e w'=>e=.returned (.tuple #[.agg (layC sl jo pa lo).toArray,.int .i64 0])/\Below w.heap.size w w':=by
 have hg:=zc w (.cells (superC id bl sl jo pa lo ba).toArray 40) rfl;have k1:(w.alloc (.cells (superC id bl sl jo pa lo ba).toArray 40)).cell? ⟨w.heap.size,1,none⟩=some (.int .i64 (bl:Int)):=za hg 1;have k2:(w.alloc (.cells (superC id bl sl jo pa lo ba).toArray 40)).cell? ⟨w.heap.size,2,none⟩=some (.int .i64 (sl:Int)):=za hg 2;have k3:(w.alloc (.cells (superC id bl sl jo pa lo ba).toArray 40)).cell? ⟨w.heap.size,3,none⟩=some (.int .i64 (jo:Int)):=za hg 3;have k4:(w.alloc (.cells (superC id bl sl jo pa lo ba).toArray 40)).cell? ⟨w.heap.size,4,none⟩=some (.int .i64 (pa:Int)):=za hg 4;have k5:(w.alloc (.cells (superC id bl sl jo pa lo ba).toArray 40)).cell? ⟨w.heap.size,5,none⟩=some (.int .i64 (lo:Int)):=za hg 5;have k6:(w.alloc (.cells (superC id bl sl jo pa lo ba).toArray 40)).cell? ⟨w.heap.size,6,none⟩=some (.int .i64 (ba:Int)):=za hg 6;go_enter Tryz.func14,Tryz.ntmps14
 go_wp2_with fail
 have hua:Upd (fun _=>False) (w.alloc (.cells (superC id bl sl jo pa lo ba).toArray 40)) ((w.alloc (.cells (superC id bl sl jo pa lo ba).toArray 40)).alloc (.cells #[.int .i64 0,.int .i64 0,.int .i64 0,.int .i64 0,.int .i64 0,.int .i64 0,.int .i64 0] 43)):=(uur _ _).alloc _;have hgl:((w.alloc (.cells (superC id bl sl jo pa lo ba).toArray 40)).alloc (.cells #[.int .i64 0,.int .i64 0,.int .i64 0,.int .i64 0,.int .i64 0,.int .i64 0,.int .i64 0] 43)).heap[w.heap.size+1]?=_:=zc _ _ (by simp);have hul:Upd (fun _=>False) w ((w.alloc (.cells (superC id bl sl jo pa lo ba).toArray 40)).alloc (.cells #[.int .i64 0,.int .i64 0,.int .i64 0,.int .i64 0,.int .i64 0,.int .i64 0,.int .i64 0] 43)):=((uur _ w).alloc _).alloc _;have hs2:((w.alloc (.cells (superC id bl sl jo pa lo ba).toArray 40)).alloc (.cells #[.int .i64 0,.int .i64 0,.int .i64 0,.int .i64 0,.int .i64 0,.int .i64 0,.int .i64 0] 43)).heap.size=w.heap.size+2:=by simp
 replace k1:=hua.cellv k1 (fun h=>h);replace k2:=hua.cellv k2 (fun h=>h);replace k3:=hua.cellv k3 (fun h=>h);replace k4:=hua.cellv k4 (fun h=>h);replace k5:=hua.cellv k5 (fun h=>h);replace k6:=hua.cellv k6 (fun h=>h);generalize (w.alloc (.cells (superC id bl sl jo pa lo ba).toArray 40)).alloc (.cells #[.int .i64 0,.int .i64 0,.int .i64 0,.int .i64 0,.int .i64 0,.int .i64 0,.int .i64 0] 43)=w2 at*;generalize hm:w.heap.size=m at*;have HM:=Y3 hgl hul hs2;clear hg hua hgl hul hs2
 go_region_held3 (fun W=>W.cell? ⟨m,1,none⟩=some (.int .i64 (bl:Int))/\W.cell? ⟨m,2,none⟩=some (.int .i64 (sl:Int))/\W.cell? ⟨m,3,none⟩=some (.int .i64 (jo:Int))/\W.cell? ⟨m,4,none⟩=some (.int .i64 (pa:Int))/\W.cell? ⟨m,5,none⟩=some (.int .i64 (lo:Int))/\W.cell? ⟨m,6,none⟩=some (.int .i64 (ba:Int)))
  ((go_split_ands;(simp only[qYo]at*);((repeat' constructor)<;>assumption)))
  (first|(go_at_call 53;refine(JB _ _ _ (by omega) (by omega) _).mono ?_;rintro e w' ⟨rfl,rfl⟩)|(go_at_call 54;refine(need_any _ s1 (by omega) _).mono ?_;rintro e w' ⟨rfl,rfl⟩))
 obtain⟨hgl,hul,hs2⟩:=HM.o;clear HM k1 k2 k3 k4 k5 k6
 rename_i hHeld
 obtain⟨k1,k2,k3,k4,k5,k6⟩:=hHeld;have hm2:m<w2.drew.heap.size:=by show _<w2.heap.size;omega
 have hm3:m+1<w2.drew.heap.size:=by show _<w2.heap.size;omega
 have hu:Upd (fun _=>False) w w2.drew:=hul.drew;replace hgl:w2.drew.heap[m+1]?=_:=hgl;replace hs2:w2.drew.heap.size=m+2:=hs2;have HM:=Y3 hgl hu hs2;clear hgl hul hs2 hu;generalize w2.drew=w3 at*;have hth:Hid (∀X,(w3.alloc X).there (m+1) 0 7):=by
  intro X j hj;have hb:(w3.alloc X).heap[m+1]?=_:=((uur (fun _=>False) w3).alloc X).blockv HM.o.1;rw[za hb,zf hb,qYe];refine⟨?_,rfl⟩;rw[qxe (by simpa using hj)];rfl
 go_upto_region 14 with fail
 have rA:=zg (zc w3 (.cells (layC sl jo pa lo).toArray 43) rfl);have hB:Below w.heap.size w (w3.alloc (.cells (layC sl jo pa lo).toArray 43)):=Upd.below ((HM.o.2.1).alloc _);have hth2:=hth.out (.cells (layC sl jo pa lo).toArray 43);clear k1 k2 k3 k4 k5 k6 HM hth;generalize w3.alloc (.cells (layC sl jo pa lo).toArray 43)=w5 at*;generalize w3.heap.size=m3 at*;have h7:(layC sl jo pa lo).length=7:=rfl;have h1:=UZ sl jo pa lo;have hE:(Value.tuple #[.agg (layC sl jo pa lo).toArray,.int .i64 0])=Value.tuple #[.agg (layC sl jo pa lo).toArray,.int .i64 0]:=rfl;generalize hL:layC sl jo pa lo=L at*;have hi:(Tryz.prog.info? 43).map (·.size)=some L.length:=by rw[h7];exact xG
 have hi2:(Tryz.prog.info? 43).map (·.size)=some L.toArray.size:=by rw[qXm,h7];exact xG
 have hth3:w5.there (m+1) 0 L.toArray.size:=by rw[qXm,h7];exact hth2
 have hth4:w5.there (m+1) 0 L.length:=by rw[h7];exact hth2
 have HF:=Y6 hB hth3 hth4 hi hi2 h1;clear hB hth2 hth3 hth4 hi hi2 h1 h7 hE;go_wp2_with (first
  |(refine qZg rfl _ _ rfl _ _ rfl L _ rA Tryz.underlying43 rfl HF.o.2.2.2.1 ?_)
  |(refine qZi rfl _ _ _ rfl (m+1) 0 L.toArray rfl rfl HF.o.2.1 HF.o.2.2.2.2.1 HF.o.2.2.2.2.2 ?_)
  |fail)
 refine qYw (zn rfl _ _ (m+1) 0 L _ rfl (qYr _ _ _ _ HF.o.2.2.1) Tryz.underlying43 rfl HF.o.2.2.2.1) rfl ⟨by subst hL;rfl,zj (hm▸HF.o.1) (zp _ (m+1) 0 _) (by omega) (fun k e=>by omega)⟩
theorem Dv.thing(b:Nat)(F:List Bk)(O:List (Nat×Bk))(P:List Int):Thing (fun S w=>Dv S w b F O P)where
 keep:=fun h hu hs=>h.keep hu hs
 out:=fun h hs=>h.out hs
theorem Ck.thing(b N most few:Nat)(K:List Int)(A:Int->Bool)(G:List Int):Thing (fun S w=>Ck S w b N most few K A G)where
 keep:=fun h hu hs=>h.keep hu hs
 out:=fun h hs=>h.out hs
def Ix(S:Nat->Prop)(w:World)(b N:Nat)(ps:List (Int×Bool))(slots:Nat):Prop:=∃v mb,IndexAt w b v mb N ps slots/\S b/\∀j,ixS v mb j->S j
theorem Ix.thing(b N:Nat)(ps:List (Int×Bool))(slots:Nat):Thing (fun S w=>Ix S w b N ps slots)where
 keep:=fun⟨v,mb,h,hb,hs⟩ hu hd=>⟨v,mb,h.keep hu (hd _ hb) (fun j hj=>hd _ (hs j hj)),hb,hs⟩
 out:=fun⟨v,mb,h,hb,hs⟩ ho=>⟨v,mb,h,ho _ h.blt hb,fun j hj=>ho _ (h.slt j hj) (hs j hj)⟩
def Ss(S:Nat->Prop)(w:World)(b:Nat)(l:List Int):Prop:=∃v,SlotsAt 327 w b v l/\S b/\∀j,v.ownBlock=some j->S j
theorem Ss.thing(b:Nat)(l:List Int):Thing (fun S w=>Ss S w b l)where
 keep:=fun⟨v,h,hb,hs⟩ hu hd=>⟨v,h.keep hu (hd _ hb) (fun j hj=>hd _ (hs j hj)),hb,hs⟩
 out:=fun⟨v,h,hb,hs⟩ ho=>⟨v,h,ho _ (zd h.str) hb,fun j hj=>ho _ (h.sl.lt hj) (hs j hj)⟩
def Mp(S:Nat->Prop)(w:World)(mb N:Nat)(f:Int->Option Nat):Prop:=MapAt w mb N f/\S mb
theorem Mp.thing(mb N:Nat)(f:Int->Option Nat):Thing (fun S w=>Mp S w mb N f)where
 keep:=fun⟨h,hs⟩ hu hd=>⟨h.keep hu (hd _ hs),hs⟩
 out:=fun⟨h,hs⟩ ho=>⟨h,ho _ h.lt hs⟩
structure CaN where
 id:Nat
 bl:Nat
 sl:Nat
 jo:Nat
 pa:Nat
 lo:Nat
 ba:Nat
structure CaP where
 ssd:Nat
 back:Nat
 jr:Nat
 ix:Nat
 ss:Nat
 lg:Nat
 ck:Nat
 sm:Nat
structure CaS where
 which:Nat
 dF:List Bk
 dO:List (Nat×Bk)
 dP:List Int
 bF:List Bk
 bO:List (Nat×Bk)
 bP:List Int
 cov:Nat
 next:Nat
 W:List (Nat×Bk)
 iN:Nat
 ps:List (Int×Bool)
 st:List Int
 G:List (Int->Bool)
 kN:Nat
 K:List Int
 A:Int->Bool
 H:List Int
 mN:Nat
 sums:Int->Option Nat
def CaN.size(n:CaN):Nat:=1+2*n.pa+n.jo+n.lo+n.lo+n.lo+n.sl
def CaN.C(n:CaN):List Value:=superC n.id n.bl n.sl n.jo n.pa n.lo n.ba
structure CaN.Ok(n:CaN):Prop where
 b1:1<=n.bl
 b2:n.bl<=4096
 s1:1<=n.sl
 s2:n.sl<=1024
 j1:4<=n.jo
 j2:n.jo<=1024
 l1:1<=n.lo
 l2:n.lo<=1024
 a1:1<=n.ba
 a2:n.ba<=64
 p1:(n.sl-1)/4+1<=n.pa
 p2:n.pa<=4096
 z:n.size<=4096
abbrev ptr(b:Nat):Value:=.pointer (some ⟨b,0,none⟩)
def caC(n:CaN)(p:CaP)(which:Nat):List Value:=
 n.C++(layC n.sl n.jo n.pa n.lo++[ptr p.ssd,ptr p.back,.int .i64 which,ptr p.jr,ptr p.ix,ptr p.ss,ptr p.lg,ptr p.ck,.map (some p.sm)])
structure CaAt(own:Nat->Nat)(w:World)(c:Nat)(n:CaN)(p:CaP)(a:CaS):Prop where
 str:w.heap[c]?=some (.cells (caC n p a.which).toArray 172 (0,0))
 oc:own c=1
 ok:n.Ok
 ssd:Dv (fun j=>own j=2) w p.ssd a.dF a.dO a.dP
 back:Dv (fun j=>own j=3) w p.back a.bF a.bO a.bP
 jr:Jn (fun j=>own j=4) w p.jr p.ssd (1+2*n.pa) n.jo a.cov a.next a.W
 ix:Ix (fun j=>own j=5) w p.ix a.iN a.ps n.sl
 ss:Ss (fun j=>own j=6) w p.ss a.st
 lg:Lg (fun j=>own j=7) w p.lg n.bl a.G
 ck:Ck (fun j=>own j=8) w p.ck a.kN n.sl n.sl a.K a.A a.H
 sm:Mp (fun j=>own j=9) w p.sm a.mN a.sums
 far:∀j,w.heap.size<=j->own j=0
 nib:Nib w
 tur:Tur w
 on:own 0=0
 ot:own 1=0
 fl:a.dF.length=n.size
 gl:a.bF.length=n.bl
 pl:a.ps.length=n.bl
 sl:a.st.length=n.sl
 Gl:a.G.length=n.sl
 wh:a.which<=1
section
variable{own:Nat->Nat}{w w':World}{c:Nat}{n:CaN}{p:CaP}{a:CaS}
theorem CaAt.clt(h:CaAt own w c n p a):c<w.heap.size:=zd h.str
theorem CaAt.new(h:CaAt own w c n p a)(hu:Upd (fun _=>False) w w'):CaAt own w' c n p a:=
 {h with
  str:=(hu.block c h.clt (fun h=>h)).trans h.str
  ssd:=(Dv.thing _ _ _ _).new h.ssd hu
  back:=(Dv.thing _ _ _ _).new h.back hu
  jr:=(Jn.thing _ _ _ _ _ _ _).new h.jr hu
  ix:=(Ix.thing _ _ _ _).new h.ix hu
  ss:=(Ss.thing _ _).new h.ss hu
  lg:=(Lg.thing _ _ _).new h.lg hu
  ck:=(Ck.thing _ _ _ _ _ _ _).new h.ck hu
  sm:=(Mp.thing _ _ _).new h.sm hu
  far:=fun j hj=>h.far j (qXx hu.size hj)
  nib:=h.nib.keep hu (fun h=>h)
  tur:=h.tur.keep hu (fun h=>h)}
end
end Go.Proofs.YtfhfbpmlnjdfoaaGreatDoor
