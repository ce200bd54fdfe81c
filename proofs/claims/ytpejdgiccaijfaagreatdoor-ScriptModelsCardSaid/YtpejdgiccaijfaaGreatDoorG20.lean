/- attach.Format -/
import Derived.Test.YtpejdgiccaijfaaGreatDoorG14
import Derived.Test.YtpejdgiccaijfaaGreatDoorG15
import Derived.Test.YtpejdgiccaijfaaGreatDoorG17
set_option maxRecDepth 100000
set_option maxHeartbeats 2000000
namespace Go.Proofs.YtpejdgiccaijfaaGreatDoor
open Go Go.RowKit Tryz
def CaN.s0(n:CaN):Nat:=1+2*n.pa+n.jo+n.lo+n.lo+n.lo
theorem CaN.s0_size(n:CaN):n.size=n.s0+n.sl:=rfl
def CaN.I(n:CaN):List Int:=[n.id,n.bl,n.sl,n.jo,n.pa,n.lo,n.ba]
def CaN.sec(n:CaN):Bk:=sectS n.I
theorem CaN.sec_len(n:CaN):n.sec.length=64:=uZ rfl
theorem CaN.may{n:CaN}(h:n.Ok)(hid:n.id<=1099511627776):mayS n.I=true:=by
 obtain⟨b1,b2,s1,s2,j1,j2,l1,l2,a1,a2,p1,p2,z⟩:=h;unfold mayS withinB bndS CaN.I;simp only[List.zip_cons_cons,List.zip_nil_right,List.all_cons,List.all_nil,inB,qxo,decide_eq_true_eq,Bool.and_true];omega
def fmt1(F:List Bk)(O:List (Nat×Bk)):List Bk:=flushF F (O++[(0,zB)])
def Xv(n:CaN)(F:List Bk)(O:List (Nat×Bk)):List Bk:=flushF (fmt1 F O) (zW (n.s0-1)++ckO 1 n.pa (pagesB 0 []))
def fmtF(n:CaN)(F:List Bk)(O:List (Nat×Bk)):List Bk:=flushF (Xv n F O) [(0,n.sec)]
theorem uH(F:List Bk)(O:List (Nat×Bk)):(fmt1 F O).length=F.length:=zM _ _
theorem ri(n:CaN)(F:List Bk)(O:List (Nat×Bk)):(Xv n F O).length=F.length:=(zM _ _).trans (uH F O)
theorem RN(n:CaN)(F:List Bk)(O:List (Nat×Bk)):(fmtF n F O).length=F.length:=(zM _ _).trans (ri n F O)
def RO(S:Nat->Prop)(w:World)(b:Nat)(F:List Bk)(e:Ending)(w':World):Prop:=e=.returned (.int .i64 0)/\Dv S w' b F [] []/\Upd S w w'
def fmtK(n:CaN)(F:List Bk)(O:List (Nat×Bk)):Nat->List Bk×List (Nat×Bk)
 |0=>(F,O)
 |1=>(F,O++[(0,zB)])
 |2=>(fmt1 F O,[])
 |3=>(fmt1 F O,zW (n.s0-1))
 |4=>(Xv n F O,[])
 |5=>(Xv n F O,[(0,n.sec)])
 |_=>(fmtF n F O,[])
def fmtV(d q lb q0 b:Nat):Array Value:= #[.func (.func 48) #[] #[ptr d,ptr q0,ptr (q0+1)],.func (.func 54) #[ptr b] #[],.func (.func 50) #[] #[ptr lb,ptr d],
 .func (.func 51) #[] #[ptr d,ptr lb,ptr q],.func (.func 48) #[] #[ptr d,ptr (q0+2),ptr (q0+2+1)],.func (.func 54) #[ptr b] #[]]
theorem Eu{T:Nat->Prop}{w:World}{b g d q lb q0:Nat}{n:CaN}{F:List Bk}{O:List (Nat×Bk)}(hok:n.Ok)(hd:Dv T w b F O [])(hn:∀j,w.heap.size<=j->T j)(hN:Nib w)(hNT:¬T 0)(hF:F.length=n.size)(hO:O.length<=50000)
  (hg:w.heap[g]?=some (.cells (fmtV d q lb q0 b) 93 (0,0)))
  (cd:w.cell? ⟨d,0,none⟩=some (ptr b)) (cq:w.cell? ⟨q,4,none⟩=some (.int .i64 (n.pa:Int))) (l0:w.cell? ⟨lb,0,none⟩=some (.int .i64 1)) (l5:w.cell? ⟨lb,5,none⟩=some (.int .i64 (n.s0:Int)))
  (c0:w.cell? ⟨q0,0,none⟩=some (.int .i64 0)) (r1:w.rangeAt (q0+1) 0 (bkC zB)) (c2:w.cell? ⟨q0+2,0,none⟩=some (.int .i64 0)) (r3:w.rangeAt (q0+2+1) 0 (bkC n.sec))
  (hT:¬T g/\¬T d/\¬T q/\¬T lb/\¬T q0/\¬T (q0+1)/\¬T (q0+2)/\¬T (q0+2+1)):
  Calls prog 53 #[.slice (some ⟨g,0,none⟩) 6 6] w (RO T w b (fmtF n F O)):=by
 obtain⟨tg,td,tq,tl,t0,t1,t2,t3⟩:=hT;have hz:=hok.z;have hs0:=n.s0_size;have hs1:1<=n.s0:=by unfold CaN.s0;omega
 have hpz:1+n.pa+n.pa<=n.size:=by unfold CaN.size;omega
 have hp1:1<=n.pa:=by have:=hok.p1;omega
 have hR:=zcn (g:=g) (n:=6) oM
  (fun k=>[48,54,50,51,48,54].getD k 0)
  (fun k=>[#[],#[ptr b],#[],#[],#[],#[ptr b]].getD k #[])
  (fun k=>[#[ptr d,ptr q0,ptr (q0+1)],#[],#[ptr lb,ptr d],#[ptr d,ptr lb,ptr q],#[ptr d,ptr (q0+2),ptr (q0+2+1)],#[]].getD k #[])
  (fun k W=>Dv T W b (fmtK n F O k).1 (fmtK n F O k).2 []/\Upd T w W) (fun _ _=>False)
  (fun k hk W hW=>by
   have h1:=(hW.2.block g (zd hg) tg).trans hg;rw[za h1];rcases(show k=0\/k=1\/k=2\/k=3\/k=4\/k=5 by omega)with rfl|rfl|rfl|rfl|rfl|rfl<;>rfl)
  (fun k hk args W=>by rcases(show k=0\/k=1\/k=2\/k=3\/k=4\/k=5 by omega)with rfl|rfl|rfl|rfl|rfl|rfl<;>rfl)
  (fun k hk W hW=>by
   obtain⟨hdv,hu⟩:=hW;have hn':∀j,W.heap.size<=j->T j:=fun j hj=>hn j (qXq hu.size hj);have step:∀{r:DRes} {f:Nat} {a:Array Value},r.cd=0->r.P=[]->(fmtK n F O (k+1)).1=r.F->(fmtK n F O (k+1)).2=r.O->Calls prog f a W (SZ T W b r)->Calls prog f a W (qI (fun _ _=>False) (fun W=>Dv T W b (fmtK n F O (k+1)).1 (fmtK n F O (k+1)).2 []/\Upd T w W)):=by
    intro r f a h1 h2 h3 h4 h;refine h.mono fun e W' ⟨he,hd',hu'⟩=>⟨0,by rw[he,h1],fun _=>⟨?_,hu.trans hu'⟩,fun h=>absurd rfl h⟩;rw[h3,h4,<-h2];exact hd'
   rcases(show k=0\/k=1\/k=2\/k=3\/k=4\/k=5 by omega)with rfl|rfl|rfl|rfl|rfl|rfl
   .exact step rfl rfl rfl rfl (sK hdv hn' 0 zB zH (hu.jS cd td) (hu.jS c0 t0) (hu.range r1 t1) (by have e:(fmtK n F O 0).1.length=F.length:=rfl;rw[e];omega) (by have e:(fmtK n F O 0).2.length=O.length:=rfl;rw[e];omega))
   .exact step rfl rfl rfl rfl (xE hdv hn')
   .have h3:(fmtK n F O 2).1.length=F.length:=uH F O;exact step rfl rfl rfl (by show _=[]++zW (n.s0-1);rw[qzu];rfl) (Tt hdv hn' n.s0 hs1 (hu.jS cd td) (hu.jS l5 tl) tl td (by rw[h3];omega) (qXy _))
   .have h3:(fmtK n F O 3).1.length=F.length:=uH F O;have h4:(fmtK n F O 3).2.length=n.s0-1:=Rm _;exact step rfl rfl rfl rfl (Rn hdv hn' (hN.keep hu hNT) hNT n.pa hp1 (by rw[h3];omega) (by rw[h4];omega) (hu.jS cd td) (hu.jS l0 tl) (hu.jS cq tq))
   .have h3:(fmtK n F O 4).1.length=F.length:=ri n F O;exact step rfl rfl rfl rfl (sK hdv hn' 0 n.sec n.sec_len (hu.jS cd td) (hu.jS c2 t2) (hu.range r3 t3) (by rw[h3];omega) (by have e:(fmtK n F O 4).2.length=0:=rfl;rw[e];omega))
   .exact step rfl rfl rfl rfl (xE hdv hn'))
  (w:=w) ⟨hd,uur _ _⟩
 refine hR.mono fun e w' ⟨c,he,h1,h2⟩=>?_;by_cases hc:c=0
 .obtain ⟨hd',hu'⟩:=h1 hc;exact⟨by rw[he,hc],hd',hu'⟩
 .exact (h2 hc).elim
theorem Ev{S T:Nat->Prop}{w:World}{b bb:Nat}{F G:List Bk}{O Q:List (Nat×Bk)}{P:List Int}(hd:Dv S w b F O [])(hn:∀j,w.heap.size<=j->S j)(hb:Dv T w bb G Q P)(hN:Nib w)(hgS:¬S 0)
  (n:CaN) (hok:n.Ok) (hm:mayS n.I=true) (hF:F.length=n.size) (hG:G.length=n.bl) (hO:O.length<=50000):
  Calls prog 28 #[.agg n.C.toArray,ptr b,ptr bb] w (RO S w b (fmtF n F O)):=by
 obtain⟨U,hU⟩:=qqe (n.C);obtain⟨V,hV⟩:=qqe (layC n.sl n.jo n.pa n.lo);obtain⟨Z,hZ⟩:=qqe (zB);have HZ:=Y2 (yT Z hZ) hZ;obtain⟨y,hy⟩:=qqe (n.sec);obtain⟨w1,hw1⟩:=qqe ((w.alloc (.cells U.toArray 44)).alloc (.cells #[ptr b] 38));have hu1:Upd (fun _=>False) w w1:=by rw[hw1];exact((uur _ w).alloc _).alloc _
 have g1:w1.heap[w.heap.size]?=some (.cells U.toArray 44):=by
  rw[hw1];exact(((uur (fun _=>False) (w.alloc (.cells U.toArray 44))).alloc (.cells #[ptr b] 38))).jT (zc w _ rfl)
 have g2:w1.heap[w.heap.size+1]?=some (.cells #[ptr b] 38):=by rw[hw1];exact zc _ _ oe
 have hsU:(prog.info? 44).map (·.size)=some U.length:=by rw[hU];exact xj
 have hsV:(prog.info? 73).map (·.size)=some V.length:=by rw[hV];exact xF
 have hV1:∀v∈V,v.oneCell'=true:=by rw[hV];exact ut _ _ _ _
 have hPl:∀W,Calls prog 26 #[.agg U.toArray] W fun e w'=>e=.returned (.tuple #[.agg V.toArray,.int .i64 0])/\Below W.heap.size W w':=fun W=>by
  rw[hU,hV];obtain⟨b1,b2,s1,s2,j1,j2,l1,l2,a1,a2,p1,p2,z⟩:=hok;exact un n.id n.bl n.sl n.jo n.pa n.lo n.ba b1 b2 s1 s2 j1 j2 l1 l2 a1 a2 p1 p2 z W
 have hPu:∀W,Nib W->Calls prog 45 #[.agg U.toArray] W fun e w'=>e=.returned (.tuple #[.agg (bkC y).toArray,.int .i64 0])/\Below W.heap.size W w':=fun W hN=>by
  rw[hU];refine(QP hN n.C rfl n.I rfl (fun W=>zcG _ _ _ _ _ _ _ W)).mono fun e w' ⟨h,hb⟩=>⟨?_,hb⟩;rcases h with⟨-,rfl⟩|⟨h,-⟩
  .rw [hy];rfl
  .rw [hm]at h;cases h
 have hMa:∀(S' T':Nat->Prop) (W:World),Dv S' W b F O []->Dv T' W bb G Q P->Calls prog 46 #[.agg U.toArray,.agg V.toArray,ptr b,ptr bb] W fun e w'=>e=.returned (.int .i64 0)/\Upd (fun _=>False) W w':=fun S' T' W h h'=>by
  have:=QD h h' n.id n.bl n.sl n.jo n.pa n.lo n.ba;rw[show qJ F G (sizeN n.sl n.jo n.pa n.lo) n.bl=0 from if_pos ⟨hF,hG⟩]at this;rw[hU,hV];exact this
 have HP:=Y3 hPl hPu hMa;have HV:=Y6 hsU hsV hV1 hU hV hy;have H:=Y8 hd hn hb hN hgS hok hF hO;have H1:=Y4 hu1 g1 g2 hw1;have rU:=zg g1;have c1:=za g2 0;rw[<-hU];clear hd hn hb hN hgS hok hF hO hU hV hy hZ hm hG hPl hPu hMa hu1 g1 g2 hw1 hsU hsV hV1;go_enter func28,ntmps28
 have hVl:V.length=7:=by rw[HV.o.2.2.2.2.1];rfl
 have hyl:y.length=64:=by rw[HV.o.2.2.2.2.2];exact n.sec_len
 have hsy:=zq y hyl;obtain⟨q,hq⟩:=qqe (w.heap.size);have HQ:=qqh hq;have H2:=Y6 H1.o.1 H1.o.2.1 H1.o.2.2.1 (zd H1.o.2.2.1) hVl hyl;clear hq hVl hyl;rw[H1.o.2.2.2]at rU;go_wp2_with (first
  |(refine qYy rfl _ _ rfl _ _ rfl _ _ rU underlying44 rfl HV.o.1 ?_)
  |fail)
 rw[<-H1.o.2.2.2];clear rU c1;refine(HP.o.1 w1).mono ?_;rintro e w3 ⟨rfl,hb3⟩;obtain⟨w4,hw4⟩:=qqe (w3.alloc (.cells V.toArray 73));have hu3:=qqb hb3;have hu4:=qqu hw4;have U4:=(H2.o.1.trans hu3).trans hu4;have rU4:=zg ((hu3.trans hu4).jT H2.o.2.1);rw[hw4]at rU4;have HW4:=Y4 hw4 (hu3.trans hu4) U4 (show w1.heap.size<=w3.heap.size from hu3.size);have hVl:=H2.o.2.2.2.2.1;clear hb3 hu3 hu4 U4 hw4;go_wp2_with (first
  |(refine zk rfl _ _ _ rfl _ _ _ rfl rfl (by rw[hVl];rfl) HV.o.2.1 HV.o.2.2.1 ?_)
  |(refine qYy rfl _ _ rfl _ _ rfl _ _ rU4 underlying44 rfl HV.o.1 ?_)
  |fail)
 rw[<-HW4.o.1];refine(HP.o.2.1 w4 (H.o.2.2.2.1.keep HW4.o.2.2.1 id)).mono ?_;rintro e w5 ⟨rfl,hb5⟩;obtain⟨lb,hlb⟩:=qqe (w3.heap.size);obtain⟨w6,hw6⟩:=qqe (w5.alloc (.cells (bkC y).toArray 60));have hu5:=qqb hb5;have hu6:=qqu hw6;have U6:=(HW4.o.2.2.1.trans hu5).trans hu6;have gl6:w6.heap[lb]?=some (.cells V.toArray 73 (0,0)):=(hu5.trans hu6).jT (by rw[HW4.o.1,hlb];exact zc w3 _ rfl);have gq6:=((HW4.o.2.1.trans hu5).trans hu6).jT H2.o.2.1;have gd6:=((HW4.o.2.1.trans hu5).trans hu6).jT H2.o.2.2.1;have gy6:=qqg hw6;have rU6:=zg gq6;have rV6:=zg gl6;have rD6:=za gd6 0;have HM6:=qqh (HP.o.2.2 _ _ w6 (H.o.1.new U6) (H.o.2.2.1.new U6));have H6:=Y8 U6 gl6 gq6 gd6 gy6 hlb hw6 (show w4.heap.size<=w5.heap.size from hu5.size);rw[hlb]at rV6;rw[hw6]at rU6 rV6 rD6;have hyl:=H2.o.2.2.2.2.2;clear hb5 hu5 hu6 U6 gl6 gq6 gd6 gy6 hw6 rU4 hlb;go_wp2_with (first
  |(refine zk rfl _ _ _ rfl _ _ (bkC y) rfl rfl (by rw[zm,hyl];rfl) hsy (zu y) ?_)
  |(refine qYy rfl _ _ rfl _ _ rfl _ _ rU6 underlying44 rfl HV.o.1 ?_)
  |(refine qYy rfl _ _ rfl _ _ rfl _ _ rV6 underlying73 rfl HV.o.2.1 ?_)
  |fail)
 rw[<-H6.o.2.2.2.2.2.2.1];refine HM6.o.mono ?_;rintro e w7 ⟨rfl,hu7⟩;have U7:=H6.o.1.trans hu7;have gl7:=hu7.jT H6.o.2.1;have gq7:=hu7.jT H6.o.2.2.1;have gd7:=hu7.jT H6.o.2.2.2.1;have gy7:=hu7.jT H6.o.2.2.2.2.1;have c1:w7.cell? ⟨w.heap.size+1,0,none⟩=some (ptr b):=za gd7 0;have ry:=zg gy7;obtain⟨sb,hsb⟩:=qqe (w5.heap.size);obtain⟨d,hd⟩:=qqe (w.heap.size+1);obtain⟨lb,hlb⟩:=qqe (w3.heap.size);rw[<-hsb]at gy7 ry;rw[H6.o.2.2.2.2.2.1,<-hlb]at gl7;rw[<-hd]at gd7 c1;have H7:=Y9 U7 gl7 gq7 gd7 gy7 hu7.size hd hlb hsb;have hmf:=qqf;clear hu7 U7 gl7 gq7 gd7 gy7 rU6 rV6 rD6;go_wp2_with fail
 rw[<-hd,<-hlb,<-hsb];clear hsb hd hlb;refine qZb (S:=fun W=>W.cell? ⟨d,0,none⟩=some (ptr b)/\W.rangeAt sb 0 (bkC y)) kR (⟨by rw[qYh];exact c1,by rw[qYj];exact ry⟩) (fun hHeld=>?_);refine Wl.i [0,5,6,7,3,10,4,11] ?_;iterate 8 refine Wl.t hHeld ?_
 refine Wl.o ?_;refine qYx (i:=1) (v:=.agg (bkC Z).toArray) rfl kR kR kR (fun _ _ _ h=>h) (Or.inl ⟨by rfl,?_⟩) hHeld ?_
 .intro W _;simp only[execOp,qyx,qyr,qys,qzk,qzj,qYf,HZ.o.1 W,qYe];rfl
 simp only[qyx,qyr,qys,Act.put,qXd,qXg,qXf];refine Wl.l 8 (fun w h=>h.2) underlying60 hsy hHeld ?_;refine Wl.r 2 (fun K hK=>?_);go_simp
 obtain⟨q0,hq0⟩:=qqe (w7.drew.heap.size);refine(Rl d 0 Z _).mono ?_;rintro e w8 ⟨he,hw8⟩;rw[<-hq0]at he;subst he;have hu8:Upd (fun _=>False) w7 w8:=by rw[hw8];exact(((uur _ w7).drew).alloc _).alloc _
 have z8:w8.heap.size=q0+2:=by rw[hw8,hq0];simp
 have gb8:w8.heap[q0+1]?=some (.cells (bkC Z).toArray 60 (0,0)):=by rw[hw8];exact zc _ _ (by rw[hq0];simp)
 have ga8:w8.heap[q0]?=some (.cells #[.int .i64 0] 3 (0,0)):=by
  rw[hw8];exact((uur (fun _=>False) (w7.drew.alloc (.cells #[.int .i64 0] 3))).alloc (.cells (bkC Z).toArray 60)).jT (zc _ _ hq0)
 have H8:=Y5 hu8 z8 ga8 gb8 (show q0=w7.heap.size from hq0);refine hK.o _ _ (⟨hu8.jS c1 id,hu8.range ry id⟩) (fun hHeld2=>?_);clear hK K hHeld hu8 z8 gb8 ga8 hw8 hq0;refine Wl.r 9 (fun K hK=>?_);go_simp
 refine(Rl d 0 y _).mono ?_;rintro e w9 ⟨he,hw9⟩;rw[H8.o.2.1]at he;subst he;have hu9:Upd (fun _=>False) w8 w9:=by rw[hw9];exact((uur _ w8).alloc _).alloc _
 have z9:w9.heap.size=q0+4:=by rw[hw9];simp[H8.o.2.1]
 have gb9:w9.heap[q0+2+1]?=some (.cells (bkC y).toArray 60 (0,0)):=by rw[hw9];exact zc _ _ (by simp[H8.o.2.1])
 have ga9:w9.heap[q0+2]?=some (.cells #[.int .i64 0] 3 (0,0)):=by
  rw[hw9];exact((uur (fun _=>False) (w8.alloc (.cells #[.int .i64 0] 3))).alloc (.cells (bkC y).toArray 60)).jT (zc _ _ H8.o.2.1.symm)
 have H9:=Y4 hu9 z9 ga9 gb9;refine hK.o _ _ (⟨hu9.jS hHeld2.1 id,hu9.range hHeld2.2 id⟩) (fun hHeld3=>?_);clear hK K hHeld2 hu9 z9 gb9 ga9 hw9;refine Wl.r 12 (fun K hK=>?_);go_simp
 show K _ (w9.alloc (.cells (fmtV d w.heap.size lb q0 b) 93));obtain⟨w10,hw10⟩:=qqe (w9.alloc (.cells (fmtV d w.heap.size lb q0 b) 93));have hu10:=qqu hw10;have gg10:=qqg hw10;have z10:w10.heap.size=w9.heap.size+1:=by rw[hw10];simp
 obtain⟨g,hg⟩:=qqe (w9.heap.size);rw[<-hg]at gg10 z10;rw[<-hw10,<-hg];have H10:=Y4 hu10 gg10 z10 hg;refine hK.o _ _ (⟨hu10.jS hHeld3.1 id,hu10.range hHeld3.2 id⟩) (fun hHeld4=>?_);clear hK K hHeld3 hu10 gg10 z10 hw10 hg;refine Wl.r 13 (fun K hK=>?_);go_simp
 have HR:Hid (Calls prog 53 #[.slice (some ⟨g,0,none⟩) 6 6] w10 (fun e w'=>e=.returned (.int .i64 0)/\Dv S w' b (fmtF n F O) [] []/\Upd S w w'/\w'.cell? ⟨d,0,none⟩=some (ptr b)/\w'.rangeAt sb 0 (bkC y))):=by
  obtain⟨hd0,hn0,-,hN0,hgS0,hok0,hF0,hO0⟩:=H.o;obtain⟨U7,gl7,gq7,gd7,gy7,z67,hde,hlbe,hsbe⟩:=H7.o;obtain⟨hu8,z8,ga8,gb8,hq0⟩:=H8.o;obtain⟨hu9,z9,ga9,gb9⟩:=H9.o;obtain⟨hu10,gg10,z10,hge⟩:=H10.o;have U10:=((U7.trans hu8).trans hu9).trans hu10;have u710:=(hu8.trans hu9).trans hu10;have s0:=zd gq7;have s1:=zd gd7;have s2:=zd gl7;have s3:=zd gy7;have sN:=hN0.lt;have s4:=H2.o.2.2.2.1;have s5:=HW4.o.2.2.2;have s6:w3.heap.size<=w4.heap.size:=by rw[HW4.o.1];simp
  have s7:=H6.o.2.2.2.2.2.2.2;have hs:=n.s0_size;have hT0:∀i,w.heap.size<=i->i<w10.heap.size->¬((S i/\i<w.heap.size)\/w10.heap.size<=i):=fun i h1 h2 h=>by rcases h with h|h<;>omega
  have gl:=u710.jT gl7;have gq:=u710.jT gq7;rw[HV.o.2.2.2.2.1]at gl;rw[HV.o.2.2.2.1]at gq;have hr:=Eu (T:=fun j=>(S j/\j<w.heap.size)\/w10.heap.size<=j) (w:=w10) (b:=b) (g:=g) (d:=d) (q:=w.heap.size) (lb:=lb) (q0:=q0) (n:=n) (F:=F) (O:=O) hok0
   (((hd0.ku (T:=fun j=>S j/\j<w.heap.size) (fun j h1 h2=>⟨h1,h2⟩)).keep U10 (fun _ _ h=>h)).wide (fun j h=> .inl h)) (fun j hj=> .inr hj) (hN0.keep U10 id) (fun h=>by rcases h with h|h;exact hgS0 h.1;have:=U10.size;omega) hF0 hO0 gg10
   (za (u710.jT gd7) 0) (za gq 4) (za gl 0) (by have h5:=za gl 5;rw[h5];simp[layC,CaN.s0])
   (za ((hu9.trans hu10).jT ga8) 0) (by rw[<-HZ.o.2];exact zg ((hu9.trans hu10).jT gb8)) (za (hu10.jT ga9) 0) (by rw[<-HV.o.2.2.2.2.2];exact zg (hu10.jT gb9))
   ⟨hT0 _ oM oM,hT0 _ oM oM,hT0 _ oM oM,hT0 _ oM oM,hT0 _ oM oM,hT0 _ oM oM,hT0 _ oM oM,hT0 _ oM oM⟩
  refine hr.mono fun e w' ⟨he,hd',hu'⟩=>⟨he,hd'.wide (fun j h=>?_),(U10.mono fE).new hu' (fun i hi h=>?_),hu'.jS hHeld4.1 (hT0 _ oM oM),hu'.range hHeld4.2 (hT0 _ oM oM)⟩
  .rcases h with h|h
   .exact h.1
   .exact hn0 j (by have:=U10.size;omega)
  .rcases h with h|h
   .exact h.1
   .have:=U10.size;omega
 refine HR.o.mono ?_;rintro e w11 ⟨rfl,hd11,hu11,hc11,hr11⟩;have HE:=Y2 hd11 hu11;refine hK.o _ _ (⟨hc11,hr11⟩) (fun hHeld5=>?_);clear hK K hHeld4 hd11 hu11 hc11 hr11 HR;refine Wl.r 14 (fun K hK=>?_);go_simp
 refine hK.o _ _ (hHeld5) (fun _=>?_);clear hK K hHeld5;refine Wl.d ?_;go_wp2
 go_ret
 exact⟨rfl,HE.o.1,HE.o.2⟩
structure EI where
 b:Int
 s:Int
 d:Bool
 x:Int
def EI.cs(e:EI):List Value:=[.int .i64 e.b,.int .i64 e.s,.bool e.d,.int .i64 e.x]
def EI.enc(e:EI):Value:=.agg e.cs.toArray
theorem EI.enc_inj(x y:EI)(h:x.enc=y.enc):x=y:=by
 obtain⟨a,b,c,d⟩:=x;obtain⟨a',b',c',d'⟩:=y;simp only[EI.enc,EI.cs,Value.agg.injEq]at h;obtain⟨rfl,rfl,rfl,rfl⟩:=h;rfl
theorem EI.one(e:EI):∀v∈e.cs,v.oneCell'=true:=by
 intro v hv;simp only[EI.cs,qzm,qzy,qYt]at hv;rcases hv with rfl|rfl|rfl|rfl<;>rfl
def EI.zero:EI:=⟨0,0,false,0⟩
def Jc(x:Int):Prop:= -9223372036854775808<=x/\x<9223372036854775808
def apPut(f:Int->Option EI)(e:EI):Int->Option EI:=fun s=>if s=e.b then some e else f s
def apM(l:List EI):Int->Option EI:=l.foldl apPut (fun _=>none)
theorem RP(l:List EI)(e:EI):apM (l++[e])=apPut (apM l) e:=by simp[apM,List.foldl_append]
theorem RQ(l:List EI){k:Nat}(hk:k<l.length):apM (l.take (k+1))=apPut (apM (l.take k)) l[k]:=by
 rw[qXk hk,RP]
def AtB(f:Int->Option EI):Prop:=∀s e,f s=some e->e.b=s
theorem RR(l:List EI):∀f,AtB f->AtB (l.foldl apPut f)/\∀s,((l.foldl apPut f) s).isSome=true↔s∈l.map EI.b\/(f s).isSome=true:=by
 induction l with
 |nil=>intro f h;exact⟨h,fun s=>oe⟩
 |cons e l ih=>
  intro f h;have h':AtB (apPut f e):=by
   intro s e' he;unfold apPut at he;split at he
   .rename_i hs;cases he;exact hs.symm
   .exact h s e' he
  refine⟨(ih _ h').1,fun s=>?_⟩;rw[List.foldl_cons,(ih _ h').2 s,qzh,qzm];unfold apPut;by_cases hs:s=e.b
  .simp [hs]
  .simp [hs]
theorem zaQ(l:List EI):AtB (apM l):=(RR l _ (fun s e h=>by cases h)).1
theorem Xw(l:List EI)(s:Int):(apM l s).isSome=true↔s∈l.map EI.b:=by
 have:=(RR l (fun _=>none) (fun s e h=>by cases h)).2 s;simpa[apM]using this
theorem WH{l:List EI}{k:Nat}(hk:k<l.length)(hn:((l.take k).map EI.b).Nodup)(h:(apM (l.take k) l[k].b).isSome=false):((l.take (k+1)).map EI.b).Nodup:=by
 rw[qXk hk,qzg,qzv];refine⟨hn,oe,fun a ha b hb e=>?_⟩;simp only[qzh,qzj,qzt]at hb;subst hb;rw[e]at ha;have:=(Xw _ _).2 ha;rw[h]at this;cases this
theorem TG{l:List EI}{k:Nat}(hk:k<l.length)(h:(apM (l.take k) l[k].b).isSome=true):¬(l.map EI.b).Nodup:=by
 intro hn;have h1:=(Xw _ _).1 h;rw[<-qXi k l,qzg,qzv]at hn;exact hn.2.2 _ h1 _ (List.mem_map_of_mem (by rw[qya hk];exact qzo)) rfl
def recE(r:List Int):EI:=⟨r.getD 3 0,r.getD 4 0,r.getD 5 0==1,r.getD 6 0⟩
def apR(f:Int->Option EI)(r:List Int):Int->Option EI:=fun s=>if s=r.getD 3 0 then(if r.getD 2 0=0 then some (recE r)else none)else f s
def apRs(f:Int->Option EI)(rs:List (List Int)):Int->Option EI:=rs.foldl apR f
theorem TH(f:Int->Option EI)(rs:List (List Int)){k:Nat}(hk:k<rs.length):apRs f (rs.take (k+1))=apR (apRs f (rs.take k)) rs[k]:=by
 rw[qXk hk];unfold apRs;rw[List.foldl_append];rfl
theorem Ew(rs:List (List Int)):∀f,AtB f->AtB (apRs f rs):=by
 induction rs with
 |nil=>intro f h;exact h
 |cons r rs ih=>
  intro f h;refine ih _ (fun s e he=>?_);unfold apR at he;split at he
  .rename_i hs
   split at he
   .cases he;exact hs.symm
   .cases he
  .exact h s e he
theorem Ex{p:EI->Prop}(l:List EI):∀f,(∀s e,f s=some e->p e)->(∀e∈l,p e)->∀s e,(l.foldl apPut f) s=some e->p e:=by
 induction l with
 |nil=>intro f h _;exact h
 |cons x l ih=>
  intro f h hl;refine ih _ (fun s e he=>?_) (fun e he=>hl e (qzn _ he));unfold apPut at he;split at he
  .cases he;exact hl _ qzo
  .exact h s e he
theorem RS{p:EI->Prop}{l:List EI}{rs:List (List Int)}(hl:∀e∈l,p e)(hr:∀r∈rs,p (recE r)):∀s e,apRs (apM l) rs s=some e->p e:=by
 have:∀(rs:List (List Int)) f,(∀s e,f s=some e->p e)->(∀r∈rs,p (recE r))->∀s e,apRs f rs s=some e->p e:=by
  intro rs
  induction rs with
  |nil=>intro f h _;exact h
  |cons r rs ih=>
   intro f h hr;refine ih _ (fun s e he=>?_) (fun r hr'=>hr r (qzn _ hr'));unfold apR at he;split at he
   .split at he
    .cases he;exact hr _ qzo
    .cases he
   .exact h s e he
 exact this rs _ (Ex l _ (fun s e h=>by cases h) hl) hr
def Lists(f:Int->Option EI)(L:List EI):Prop:=(L.map EI.b).Nodup/\∀e,e∈L↔f e.b=some e
def cntS(L:List EI)(s:Int):Nat:=L.countP (fun e=>e.s==s)
def takenF(L:List EI):Int->Option Int:=fun s=>if cntS L s=0 then none else some (cntS L s:Int)
theorem Xx(L:List EI)(e:EI):takenF (L++[e])=fun s=>if s=e.s then some ((cntS L e.s:Int)+1)else takenF L s:=by
 funext s
 unfold takenF cntS;rw[List.countP_append];by_cases h:s=e.s
 .subst h;simp
 .have h':(e.s==s)=false:=by simp;exact fun e=>h e.symm
  simp[h,h']
theorem Xy(L:List EI)(s:Int):cntS L s=0↔s∉L.map EI.s:=by
 unfold cntS;rw[List.countP_eq_zero];simp only[qzq,not_exists,not_and,beq_iff_eq]
theorem Ey(L:List EI)(s:Int):cntS L s<=L.length:=List.countP_le_length
theorem Xz(L:List EI)(s:Int):(takenF L s).getD 0=(cntS L s:Int):=by
 unfold takenF;split
 .rename_i h;rw[h];rfl
 .rfl
theorem tK(L:List EI)(s:Int):(takenF L s).isSome=true↔s∈L.map EI.s:=by
 unfold takenF;by_cases h:cntS L s=0
 .rw [if_pos h];exact⟨fun h'=>(by cases h'),fun h'=>absurd h' ((Xy L s).1 h)⟩
 .rw [if_neg h];exact⟨fun _=>Classical.byContradiction fun h'=>h ((Xy L s).2 h'),fun _=>rfl⟩
theorem WI{F:Int->Option EI}{L:List EI}{left:Int->Bool}{x:Int}{en:EI}(hF:F x=some en)(heb:en.b=x)(hlx:left x=true)(hN:(L.map EI.b).Nodup)(hM:∀e,e∈L↔F e.b=some e/\left e.b=false):
  ((L++[en]).map EI.b).Nodup/\∀e,e∈L++[en]↔F e.b=some e/\(left e.b&&!decide (e.b=x))=false:=by
 refine⟨?_,fun e=>?_⟩
 .rw [qzg,qzv];refine⟨hN,oe,fun a ha b hb hab=>?_⟩;simp only[qzh,qzj,qzt]at hb;obtain⟨e,he,rfl⟩:=qzq.1 ha;have:=((hM e).1 he).2;rw[hab,hb,heb,hlx]at this;cases this
 .rw [qzl,qzt,hM e];by_cases h:e.b=x
  .rw [qYr h,h];constructor
   .rintro (⟨-,h2⟩|rfl)
    .rw [hlx]at h2;cases h2
    .exact ⟨hF,oe⟩
   .rintro ⟨h1,-⟩;rw[hF]at h1;exact .inr (qYc h1).symm
  .rw [decide_eq_false h];constructor
   .rintro (h2|rfl)
    .simpa using h2
    .exact absurd heb h
   .intro h2;exact .inl (by simpa using h2)
theorem RT{L:List EI}(en:EI){c:Nat}(h1:c<=L.length)(h2:c=L.length↔(L.map EI.s).Nodup):
  (if(takenF L en.s).isSome=true then c else c+1)<=(L++[en]).length/\((if(takenF L en.s).isSome=true then c else c+1)=(L++[en]).length↔((L++[en]).map EI.s).Nodup):=by
 rw[qyy,qzg,qzv];simp only[qyz,qzc];by_cases h:(takenF L en.s).isSome=true
 .rw [if_pos h];refine⟨oM,fun e=>oM,fun e=>?_⟩;exact absurd rfl (e.2.2 _ ((tK L en.s).1 h) en.s oe)
 .rw [if_neg h];refine⟨oM,fun e=>⟨h2.1 oM,oe,fun a ha b hb hab=>?_⟩,fun e=>by have:=h2.2 e.1;omega⟩;simp only[qzh,qzj,qzt]at hb;rw[hab,hb]at ha;exact h ((tK L en.s).2 ha)
theorem TI{L L':List EI}(hp:L'.Perm L)(hn:(L.map EI.b).Nodup)(hs:L'.Pairwise (fun x y=>x.b<=y.b)):L'.Pairwise (fun x y=>x.b<y.b):=by
 have h1:(L'.map EI.b).Nodup:=(hp.map EI.b).nodup_iff.2 hn;have h2:L'.Pairwise (fun x y=>x.b≠y.b):=qXa.1 h1;exact(hs.and h2).imp (fun h=>by have:=h.1;have:=h.2;omega)
theorem WJ{F:Int->Option EI}{L L':List EI}(h:Lists F L)(hp:L'.Perm L):Lists F L':=⟨(hp.map EI.b).nodup_iff.2 h.1,fun e=>(hp.mem_iff).trans (h.2 e)⟩
end Go.Proofs.YtpejdgiccaijfaaGreatDoor
