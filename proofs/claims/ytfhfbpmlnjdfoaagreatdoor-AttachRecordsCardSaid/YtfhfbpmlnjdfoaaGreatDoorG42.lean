/- attach.Format of two devices that fit, where n -/
import Derived.Test.YtfhfbpmlnjdfoaaGreatDoorG41
set_option maxRecDepth 100000
set_option maxHeartbeats 2000000
namespace Go.Proofs.YtfhfbpmlnjdfoaaGreatDoor
open Go Go.RowKit
def CaN.s0(n:CaN):Nat:=1+2*n.pa+n.jo+n.lo+n.lo+n.lo
theorem CaN.s0_size(n:CaN):n.size=n.s0+n.sl:=rfl
def CaN.I(n:CaN):List Int:=[n.id,n.bl,n.sl,n.jo,n.pa,n.lo,n.ba]
def CaN.sec(n:CaN):Bk:=sectS n.I
theorem CaN.sec_len(n:CaN):n.sec.length=64:=sr rfl
theorem CaN.may{n:CaN}(h:n.Ok)(hid:n.id<=1099511627776):mayS n.I=true:=by
 obtain⟨b1,b2,s1,s2,j1,j2,l1,l2,a1,a2,p1,p2,z⟩:=h;unfold mayS withinB bndS CaN.I;simp only[List.zip_cons_cons,List.zip_nil_right,List.all_cons,List.all_nil,inB,qxo,qYz,Bool.and_true];omega
def fmt1(F:List Bk)(O:List (Nat×Bk)):List Bk:=flushF F (O++[(0,zB)])
def YO(n:CaN)(F:List Bk)(O:List (Nat×Bk)):List Bk:=flushF (fmt1 F O) (zW (n.s0-1)++ckO 1 n.pa (pagesB 0 []))
def fmtF(n:CaN)(F:List Bk)(O:List (Nat×Bk)):List Bk:=flushF (YO n F O) [(0,n.sec)]
theorem un(F:List Bk)(O:List (Nat×Bk)):(fmt1 F O).length=F.length:=zH _ _
theorem qP(n:CaN)(F:List Bk)(O:List (Nat×Bk)):(YO n F O).length=F.length:=(zH _ _).trans (un F O)
theorem YP(n:CaN)(F:List Bk)(O:List (Nat×Bk)):(fmtF n F O).length=F.length:=(zH _ _).trans (qP n F O)
def QO(S:Nat->Prop)(w:World)(b:Nat)(F:List Bk)(e:Ending)(w':World):Prop:=e=.returned (.int .i64 0)/\Dv S w' b F [] []/\Upd S w w'
def fmtK(n:CaN)(F:List Bk)(O:List (Nat×Bk)):Nat->List Bk×List (Nat×Bk)
 |0=>(F,O)
 |1=>(F,O++[(0,zB)])
 |2=>(fmt1 F O,[])
 |3=>(fmt1 F O,zW (n.s0-1))
 |4=>(YO n F O,[])
 |5=>(YO n F O,[(0,n.sec)])
 |_=>(fmtF n F O,[])
def fmtV(d q lb q0 b:Nat):Array Value:= #[.func (.func 57) #[] #[ptr d,ptr q0,ptr (q0+1)],.func (.func 46) #[ptr b] #[],.func (.func 58) #[] #[ptr lb,ptr d],
 .func (.func 59) #[] #[ptr d,ptr lb,ptr q],.func (.func 57) #[] #[ptr d,ptr (q0+2),ptr (q0+2+1)],.func (.func 46) #[ptr b] #[]]
theorem SO{T:Nat->Prop}{w:World}{b g d q lb q0:Nat}{n:CaN}{F:List Bk}{O:List (Nat×Bk)}(hok:n.Ok)(hd:Dv T w b F O [])(hn:∀j,w.heap.size<=j->T j)(hN:Nib w)(hNT:¬T 0)(hF:F.length=n.size)(hO:O.length<=50000)
  (hg:w.heap[g]?=some (.cells (fmtV d q lb q0 b) 71 (0,0)))
  (cd:w.cell? ⟨d,0,none⟩=some (ptr b)) (cq:w.cell? ⟨q,4,none⟩=some (.int .i64 (n.pa:Int))) (l0:w.cell? ⟨lb,0,none⟩=some (.int .i64 1)) (l5:w.cell? ⟨lb,5,none⟩=some (.int .i64 (n.s0:Int)))
  (c0:w.cell? ⟨q0,0,none⟩=some (.int .i64 0)) (r1:w.rangeAt (q0+1) 0 (bkC zB)) (c2:w.cell? ⟨q0+2,0,none⟩=some (.int .i64 0)) (r3:w.rangeAt (q0+2+1) 0 (bkC n.sec))
  (hT:¬T g/\¬T d/\¬T q/\¬T lb/\¬T q0/\¬T (q0+1)/\¬T (q0+2)/\¬T (q0+2+1)):
  Calls Tryz.prog 61 #[.slice (some ⟨g,0,none⟩) 6 6] w (QO T w b (fmtF n F O)):=by
 obtain⟨tg,td,tq,tl,t0,t1,t2,t3⟩:=hT;have hz:=hok.z;have hs0:=n.s0_size;have hs1:1<=n.s0:=by unfold CaN.s0;omega
 have hpz:1+n.pa+n.pa<=n.size:=by unfold CaN.size;omega
 have hp1:1<=n.pa:=by have:=hok.p1;omega
 have hR:=AO (g:=g) (n:=6) (by omega)
  (fun k=>[57,46,58,59,57,46].getD k 0)
  (fun k=>[#[],#[ptr b],#[],#[],#[],#[ptr b]].getD k #[])
  (fun k=>[#[ptr d,ptr q0,ptr (q0+1)],#[],#[ptr lb,ptr d],#[ptr d,ptr lb,ptr q],#[ptr d,ptr (q0+2),ptr (q0+2+1)],#[]].getD k #[])
  (fun k W=>Dv T W b (fmtK n F O k).1 (fmtK n F O k).2 []/\Upd T w W) (fun _ _=>False)
  (fun k hk W hW=>by
   have h1:=(hW.2.block g (zd hg) tg).trans hg;rw[za h1];rcases(show k=0\/k=1\/k=2\/k=3\/k=4\/k=5 by omega)with rfl|rfl|rfl|rfl|rfl|rfl<;>rfl)
  (fun k hk args W=>by rcases(show k=0\/k=1\/k=2\/k=3\/k=4\/k=5 by omega)with rfl|rfl|rfl|rfl|rfl|rfl<;>rfl)
  (fun k hk W hW=>by
   obtain⟨hdv,hu⟩:=hW;have hn':∀j,W.heap.size<=j->T j:=fun j hj=>hn j (qXx hu.size hj);have step:∀{r:DRes} {f:Nat} {a:Array Value},r.cd=0->r.P=[]->(fmtK n F O (k+1)).1=r.F->(fmtK n F O (k+1)).2=r.O->Calls Tryz.prog f a W (Ro T W b r)->Calls Tryz.prog f a W (qM (fun _ _=>False) (fun W=>Dv T W b (fmtK n F O (k+1)).1 (fmtK n F O (k+1)).2 []/\Upd T w W)):=by
    intro r f a h1 h2 h3 h4 h;refine h.mono fun e W' ⟨he,hd',hu'⟩=>⟨0,by rw[he,h1],fun _=>⟨?_,hu.trans hu'⟩,fun h=>absurd rfl h⟩;rw[h3,h4,<-h2];exact hd'
   rcases(show k=0\/k=1\/k=2\/k=3\/k=4\/k=5 by omega)with rfl|rfl|rfl|rfl|rfl|rfl
   .exact step rfl rfl rfl rfl (sj hdv hn' 0 zB zw (hu.cellv cd td) (hu.cellv c0 t0) (hu.range r1 t1) (by have e:(fmtK n F O 0).1.length=F.length:=rfl;rw[e];omega) (by have e:(fmtK n F O 0).2.length=O.length:=rfl;rw[e];omega))
   .exact step rfl rfl rfl rfl (xF hdv hn')
   .have h3:(fmtK n F O 2).1.length=F.length:=un F O;exact step rfl rfl rfl (by show _=[]++zW (n.s0-1);rw[qzz];rfl) (Ur hdv hn' n.s0 hs1 (hu.cellv cd td) (hu.cellv l5 tl) tl td (by rw[h3];omega) (qYf _))
   .have h3:(fmtK n F O 3).1.length=F.length:=un F O;have h4:(fmtK n F O 3).2.length=n.s0-1:=QI _;exact step rfl rfl rfl rfl (QJ hdv hn' (hN.keep hu hNT) hNT n.pa hp1 (by rw[h3];omega) (by rw[h4];omega) (hu.cellv cd td) (hu.cellv l0 tl) (hu.cellv cq tq))
   .have h3:(fmtK n F O 4).1.length=F.length:=qP n F O;exact step rfl rfl rfl rfl (sj hdv hn' 0 n.sec n.sec_len (hu.cellv cd td) (hu.cellv c2 t2) (hu.range r3 t3) (by rw[h3];omega) (by have e:(fmtK n F O 4).2.length=0:=rfl;rw[e];omega))
   .exact step rfl rfl rfl rfl (xF hdv hn'))
  (w:=w) ⟨hd,uur _ _⟩
 refine hR.mono fun e w' ⟨c,he,h1,h2⟩=>?_;by_cases hc:c=0
 .obtain ⟨hd',hu'⟩:=h1 hc;exact⟨by rw[he,hc],hd',hu'⟩
 .exact (h2 hc).elim
theorem WW{S T:Nat->Prop}{w:World}{b bb:Nat}{F G:List Bk}{O Q:List (Nat×Bk)}{P:List Int}(hd:Dv S w b F O [])(hn:∀j,w.heap.size<=j->S j)(hb:Dv T w bb G Q P)(hN:Nib w)(hgS:¬S 0)
  (n:CaN) (hok:n.Ok) (hm:mayS n.I=true) (hF:F.length=n.size) (hG:G.length=n.bl) (hO:O.length<=50000):
  Calls Tryz.prog 16 #[.agg n.C.toArray,ptr b,ptr bb] w (QO S w b (fmtF n F O)):=by
 obtain⟨U,hU⟩:=qqe (n.C);obtain⟨V,hV⟩:=qqe (layC n.sl n.jo n.pa n.lo);obtain⟨Z,hZ⟩:=qqe (zB);have HZ:=Y2 (wm Z hZ) hZ;obtain⟨y,hy⟩:=qqe (n.sec);obtain⟨w1,hw1⟩:=qqe ((w.alloc (.cells U.toArray 40)).alloc (.cells #[ptr b] 46));have hu1:Upd (fun _=>False) w w1:=by rw[hw1];exact((uur _ w).alloc _).alloc _
 have g1:w1.heap[w.heap.size]?=some (.cells U.toArray 40):=by
  rw[hw1];exact(((uur (fun _=>False) (w.alloc (.cells U.toArray 40))).alloc (.cells #[ptr b] 46))).blockv (zc w _ rfl)
 have g2:w1.heap[w.heap.size+1]?=some (.cells #[ptr b] 46):=by rw[hw1];exact zc _ _ (by simp)
 have hsU:(Tryz.prog.info? 40).map (·.size)=some U.length:=by rw[hU];exact yY
 have hsV:(Tryz.prog.info? 43).map (·.size)=some V.length:=by rw[hV];exact xG
 have hV1:∀v∈V,v.oneCell'=true:=by rw[hV];exact uf _ _ _ _
 have hPl:∀W,Calls Tryz.prog 14 #[.agg U.toArray] W fun e w'=>e=.returned (.tuple #[.agg V.toArray,.int .i64 0])/\Below W.heap.size W w':=fun W=>by
  rw[hU,hV];obtain⟨b1,b2,s1,s2,j1,j2,l1,l2,a1,a2,p1,p2,z⟩:=hok;exact vO n.id n.bl n.sl n.jo n.pa n.lo n.ba b1 b2 s1 s2 j1 j2 l1 l2 a1 a2 p1 p2 z W
 have hPu:∀W,Nib W->Calls Tryz.prog 19 #[.agg U.toArray] W fun e w'=>e=.returned (.tuple #[.agg (bkC y).toArray,.int .i64 0])/\Below W.heap.size W w':=fun W hN=>by
  rw[hU];refine(QN hN n.C rfl n.I rfl (fun W=>AP _ _ _ _ _ _ _ W)).mono fun e w' ⟨h,hb⟩=>⟨?_,hb⟩;rcases h with⟨-,rfl⟩|⟨h,-⟩
  .rw [hy];rfl
  .rw [hm]at h;cases h
 have hMa:∀(S' T':Nat->Prop) (W:World),Dv S' W b F O []->Dv T' W bb G Q P->Calls Tryz.prog 55 #[.agg U.toArray,.agg V.toArray,ptr b,ptr bb] W fun e w'=>e=.returned (.int .i64 0)/\Upd (fun _=>False) W w':=fun S' T' W h h'=>by
  have:=QG h h' n.id n.bl n.sl n.jo n.pa n.lo n.ba;rw[show qN F G (sizeN n.sl n.jo n.pa n.lo) n.bl=0 from if_pos ⟨hF,hG⟩]at this;rw[hU,hV];exact this
 have HP:=Y3 hPl hPu hMa;have HV:=Y6 hsU hsV hV1 hU hV hy;have H:=Y8 hd hn hb hN hgS hok hF hO;have H1:=Y4 hu1 g1 g2 hw1;have rU:=zg g1;have c1:=za g2 0;rw[<-hU];clear hd hn hb hN hgS hok hF hO hU hV hy hZ hm hG hPl hPu hMa hu1 g1 g2 hw1 hsU hsV hV1;go_enter Tryz.func16,Tryz.ntmps16
 have hVl:V.length=7:=by rw[HV.o.2.2.2.2.1];rfl
 have hyl:y.length=64:=by rw[HV.o.2.2.2.2.2];exact n.sec_len
 have hsy:=zt y hyl;obtain⟨q,hq⟩:=qqe (w.heap.size);have HQ:=qqh hq;have H2:=Y6 H1.o.1 H1.o.2.1 H1.o.2.2.1 (zd H1.o.2.2.1) hVl hyl;clear hq hVl hyl;rw[H1.o.2.2.2]at rU;go_wp2_with (first
  |(refine qZg rfl _ _ rfl _ _ rfl _ _ rU Tryz.underlying40 rfl HV.o.1 ?_)
  |fail)
 rw[<-H1.o.2.2.2];clear rU c1;refine(HP.o.1 w1).mono ?_;rintro e w3 ⟨rfl,hb3⟩;obtain⟨w4,hw4⟩:=qqe (w3.alloc (.cells V.toArray 43));have hu3:=qqb hb3;have hu4:Upd (fun _=>False) w3 w4:=by rw[hw4];exact(uur _ w3).alloc _
 have U4:=(H2.o.1.trans hu3).trans hu4;have rU4:=zg ((hu3.trans hu4).blockv H2.o.2.1);rw[hw4]at rU4;have HW4:=Y4 hw4 (hu3.trans hu4) U4 (show w1.heap.size<=w3.heap.size from hu3.size);have hVl:=H2.o.2.2.2.2.1;clear hb3 hu3 hu4 U4 hw4;go_wp2_with (first
  |(refine zk rfl _ _ _ rfl _ _ _ rfl rfl (by rw[hVl];rfl) HV.o.2.1 HV.o.2.2.1 ?_)
  |(refine qZg rfl _ _ rfl _ _ rfl _ _ rU4 Tryz.underlying40 rfl HV.o.1 ?_)
  |fail)
 rw[<-HW4.o.1];refine(HP.o.2.1 w4 (H.o.2.2.2.1.keep HW4.o.2.2.1 (fun h=>h))).mono ?_;rintro e w5 ⟨rfl,hb5⟩;obtain⟨lb,hlb⟩:=qqe (w3.heap.size);obtain⟨w6,hw6⟩:=qqe (w5.alloc (.cells (bkC y).toArray 54));have hu5:=qqb hb5;have hu6:Upd (fun _=>False) w5 w6:=by rw[hw6];exact(uur _ w5).alloc _
 have U6:=(HW4.o.2.2.1.trans hu5).trans hu6;have gl6:w6.heap[lb]?=some (.cells V.toArray 43 (0,0)):=(hu5.trans hu6).blockv (by rw[HW4.o.1,hlb];exact zc w3 _ rfl);have gq6:=((HW4.o.2.1.trans hu5).trans hu6).blockv H2.o.2.1;have gd6:=((HW4.o.2.1.trans hu5).trans hu6).blockv H2.o.2.2.1;have gy6:w6.heap[w5.heap.size]?=some (.cells (bkC y).toArray 54 (0,0)):=by rw[hw6];exact zc w5 _ rfl
 have rU6:=zg gq6;have rV6:=zg gl6;have rD6:=za gd6 0;have HM6:=qqh (HP.o.2.2 _ _ w6 (H.o.1.new U6) (H.o.2.2.1.new U6));have H6:=Y8 U6 gl6 gq6 gd6 gy6 hlb hw6 (show w4.heap.size<=w5.heap.size from hu5.size);rw[hlb]at rV6;rw[hw6]at rU6 rV6 rD6;have hyl:=H2.o.2.2.2.2.2;clear hb5 hu5 hu6 U6 gl6 gq6 gd6 gy6 hw6 rU4 hlb;go_wp2_with (first
  |(refine zk rfl _ _ _ rfl _ _ (bkC y) rfl rfl (by rw[zo,hyl];rfl) hsy (zv y) ?_)
  |(refine qZg rfl _ _ rfl _ _ rfl _ _ rU6 Tryz.underlying40 rfl HV.o.1 ?_)
  |(refine qZg rfl _ _ rfl _ _ rfl _ _ rV6 Tryz.underlying43 rfl HV.o.2.1 ?_)
  |fail)
 rw[<-H6.o.2.2.2.2.2.2.1];refine HM6.o.mono ?_;rintro e w7 ⟨rfl,hu7⟩;have U7:=H6.o.1.trans hu7;have gl7:=hu7.blockv H6.o.2.1;have gq7:=hu7.blockv H6.o.2.2.1;have gd7:=hu7.blockv H6.o.2.2.2.1;have gy7:=hu7.blockv H6.o.2.2.2.2.1;have c1:w7.cell? ⟨w.heap.size+1,0,none⟩=some (ptr b):=za gd7 0;have ry:=zg gy7;obtain⟨sb,hsb⟩:=qqe (w5.heap.size);obtain⟨d,hd⟩:=qqe (w.heap.size+1);obtain⟨lb,hlb⟩:=qqe (w3.heap.size);rw[<-hsb]at gy7 ry;rw[H6.o.2.2.2.2.2.1,<-hlb]at gl7;rw[<-hd]at gd7 c1;have H7:=Y9 U7 gl7 gq7 gd7 gy7 hu7.size hd hlb hsb;have hmf:=qqf;clear hu7 U7 gl7 gq7 gd7 gy7 rU6 rV6 rD6;go_wp2_with fail
 rw[<-hd,<-hlb,<-hsb];clear hsb hd hlb;refine qZj (S:=fun W=>W.cell? ⟨d,0,none⟩=some (ptr b)/\W.rangeAt sb 0 (bkC y)) (by kernel_rfl) (⟨by rw[qYo];exact c1,by rw[qYq];exact ry⟩) (fun hHeld=>?_);refine Wl.i [0,5,6,7,3,10,4,11] ?_;iterate 8 refine Wl.t hHeld ?_
 refine Wl.o ?_;refine qZf (i:=1) (v:=.agg (bkC Z).toArray) rfl (by kernel_rfl) (by kernel_rfl) (by kernel_rfl) (fun _ _ _ h=>h) (Or.inl ⟨by rfl,?_⟩) hHeld ?_
 .intro W _;simp only[execOp,qzc,qyw,qyx,qzp,qzo,qYm,HZ.o.1 W,qYl];rfl
 simp only[qzc,qyw,qyx,Act.put,qXi,qXl,qXk];refine Wl.l 8 (fun w h=>h.2) Tryz.underlying54 hsy hHeld ?_;refine Wl.r 2 (fun K hK=>?_);go_simp
 obtain⟨q0,hq0⟩:=qqe (w7.drew.heap.size);refine(QH d 0 Z _).mono ?_;rintro e w8 ⟨he,hw8⟩;rw[<-hq0]at he;subst he;have hu8:Upd (fun _=>False) w7 w8:=by rw[hw8];exact(((uur _ w7).drew).alloc _).alloc _
 have z8:w8.heap.size=q0+2:=by rw[hw8,hq0];simp
 have gb8:w8.heap[q0+1]?=some (.cells (bkC Z).toArray 54 (0,0)):=by rw[hw8];exact zc _ _ (by rw[hq0];simp)
 have ga8:w8.heap[q0]?=some (.cells #[.int .i64 0] 3 (0,0)):=by
  rw[hw8];exact((uur (fun _=>False) (w7.drew.alloc (.cells #[.int .i64 0] 3))).alloc (.cells (bkC Z).toArray 54)).blockv (zc _ _ hq0)
 have H8:=Y5 hu8 z8 ga8 gb8 (show q0=w7.heap.size from hq0);refine hK.o _ _ (⟨hu8.cellv c1 (fun h=>h),hu8.range ry (fun h=>h)⟩) (fun hHeld2=>?_);clear hK K hHeld hu8 z8 gb8 ga8 hw8 hq0;refine Wl.r 9 (fun K hK=>?_);go_simp
 refine(QH d 0 y _).mono ?_;rintro e w9 ⟨he,hw9⟩;rw[H8.o.2.1]at he;subst he;have hu9:Upd (fun _=>False) w8 w9:=by rw[hw9];exact((uur _ w8).alloc _).alloc _
 have z9:w9.heap.size=q0+4:=by rw[hw9];simp[H8.o.2.1]
 have gb9:w9.heap[q0+2+1]?=some (.cells (bkC y).toArray 54 (0,0)):=by rw[hw9];exact zc _ _ (by simp[H8.o.2.1])
 have ga9:w9.heap[q0+2]?=some (.cells #[.int .i64 0] 3 (0,0)):=by
  rw[hw9];exact((uur (fun _=>False) (w8.alloc (.cells #[.int .i64 0] 3))).alloc (.cells (bkC y).toArray 54)).blockv (zc _ _ H8.o.2.1.symm)
 have H9:=Y4 hu9 z9 ga9 gb9;refine hK.o _ _ (⟨hu9.cellv hHeld2.1 (fun h=>h),hu9.range hHeld2.2 (fun h=>h)⟩) (fun hHeld3=>?_);clear hK K hHeld2 hu9 z9 gb9 ga9 hw9;refine Wl.r 12 (fun K hK=>?_);go_simp
 show K _ (w9.alloc (.cells (fmtV d w.heap.size lb q0 b) 71));obtain⟨w10,hw10⟩:=qqe (w9.alloc (.cells (fmtV d w.heap.size lb q0 b) 71));have hu10:Upd (fun _=>False) w9 w10:=by rw[hw10];exact(uur _ w9).alloc _
 have gg10:w10.heap[w9.heap.size]?=some (.cells (fmtV d w.heap.size lb q0 b) 71 (0,0)):=by rw[hw10];exact zc w9 _ rfl
 have z10:w10.heap.size=w9.heap.size+1:=by rw[hw10];simp
 obtain⟨g,hg⟩:=qqe (w9.heap.size);rw[<-hg]at gg10 z10;rw[<-hw10,<-hg];have H10:=Y4 hu10 gg10 z10 hg;refine hK.o _ _ (⟨hu10.cellv hHeld3.1 (fun h=>h),hu10.range hHeld3.2 (fun h=>h)⟩) (fun hHeld4=>?_);clear hK K hHeld3 hu10 gg10 z10 hw10 hg;refine Wl.r 13 (fun K hK=>?_);go_simp
 have HR:Hid (Calls Tryz.prog 61 #[.slice (some ⟨g,0,none⟩) 6 6] w10 (fun e w'=>e=.returned (.int .i64 0)/\Dv S w' b (fmtF n F O) [] []/\Upd S w w'/\w'.cell? ⟨d,0,none⟩=some (ptr b)/\w'.rangeAt sb 0 (bkC y))):=by
  obtain⟨hd0,hn0,-,hN0,hgS0,hok0,hF0,hO0⟩:=H.o;obtain⟨U7,gl7,gq7,gd7,gy7,z67,hde,hlbe,hsbe⟩:=H7.o;obtain⟨hu8,z8,ga8,gb8,hq0⟩:=H8.o;obtain⟨hu9,z9,ga9,gb9⟩:=H9.o;obtain⟨hu10,gg10,z10,hge⟩:=H10.o;have U10:=((U7.trans hu8).trans hu9).trans hu10;have u710:=(hu8.trans hu9).trans hu10;have s0:=zd gq7;have s1:=zd gd7;have s2:=zd gl7;have s3:=zd gy7;have sN:=hN0.lt;have s4:=H2.o.2.2.2.1;have s5:=HW4.o.2.2.2;have s6:w3.heap.size<=w4.heap.size:=by rw[HW4.o.1];simp
  have s7:=H6.o.2.2.2.2.2.2.2;have hs:=n.s0_size;have hT0:∀i,w.heap.size<=i->i<w10.heap.size->¬((S i/\i<w.heap.size)\/w10.heap.size<=i):=fun i h1 h2 h=>by rcases h with h|h<;>omega
  have gl:=u710.blockv gl7;have gq:=u710.blockv gq7;rw[HV.o.2.2.2.2.1]at gl;rw[HV.o.2.2.2.1]at gq;have hr:=SO (T:=fun j=>(S j/\j<w.heap.size)\/w10.heap.size<=j) (w:=w10) (b:=b) (g:=g) (d:=d) (q:=w.heap.size) (lb:=lb) (q0:=q0) (n:=n) (F:=F) (O:=O) hok0
   (((hd0.shrink (T:=fun j=>S j/\j<w.heap.size) (fun j h1 h2=>⟨h1,h2⟩)).keep U10 (fun _ _ h=>h)).wide (fun j h=> .inl h)) (fun j hj=> .inr hj) (hN0.keep U10 (fun h=>h)) (fun h=>by rcases h with h|h;exact hgS0 h.1;have:=U10.size;omega) hF0 hO0 gg10
   (za (u710.blockv gd7) 0) (za gq 4) (za gl 0) (by have h5:=za gl 5;rw[h5];simp[layC,CaN.s0])
   (za ((hu9.trans hu10).blockv ga8) 0) (by rw[<-HZ.o.2];exact zg ((hu9.trans hu10).blockv gb8)) (za (hu10.blockv ga9) 0) (by rw[<-HV.o.2.2.2.2.2];exact zg (hu10.blockv gb9))
   ⟨hT0 _ (by omega) (by omega),hT0 _ (by omega) (by omega),hT0 _ (by omega) (by omega),hT0 _ (by omega) (by omega),hT0 _ (by omega) (by omega),hT0 _ (by omega) (by omega),hT0 _ (by omega) (by omega),hT0 _ (by omega) (by omega)⟩
  refine hr.mono fun e w' ⟨he,hd',hu'⟩=>⟨he,hd'.wide (fun j h=>?_),(U10.mono (fun _ _ h=>h.elim)).new hu' (fun i hi h=>?_),hu'.cellv hHeld4.1 (hT0 _ (by omega) (by omega)),hu'.range hHeld4.2 (hT0 _ (by omega) (by omega))⟩
  .rcases h with h|h
   .exact h.1
   .exact hn0 j (by have:=U10.size;omega)
  .rcases h with h|h
   .exact h.1
   .have:=U10.size;omega
 refine HR.o.mono ?_;rintro e w11 ⟨rfl,hd11,hu11,hc11,hr11⟩;have HE:=Y2 hd11 hu11;refine hK.o _ _ (⟨hc11,hr11⟩) (fun hHeld5=>?_);clear hK K hHeld4 hd11 hu11 hc11 hr11 HR;refine Wl.r 14 (fun K hK=>?_);go_simp
 refine hK.o _ _ (hHeld5) (fun _=>?_);clear hK K hHeld5;refine Wl.d ?_;go_wp2
 go_ret
 exact⟨rfl,HE.o.1,HE.o.2⟩
def zeroS:List Value:=[Value.int .i64 0,.int .i64 0,.int .i64 0,.int .i64 0,.int .i64 0,.int .i64 0,.int .i64 0]
theorem zS_one:(zeroS.toArray).all (·.oneCell')=true:=by simp[zeroS,Value.oneCell']
theorem QP{w:World}(b:Bk)(hb:b.length=64)(k:Nat)(ss:List Nat)(hss:(∀s∈ss,1<=s/\s<=7)/\ss.sum<=59)(m:Nat)(hm:ss.length=m)(hm2:m<=100)(gs cl:Nat)(fm fb:Nat)(cm cb:Array Value)(tv:Value)(mb:Bool)(ds:List Value)
  (hds:(Tryz.prog.info? 40).map (·.size)=some ds.length) (hd1:∀v∈ds,v.oneCell'=true) (hs:w.rangeAt gs 0 (ints (natsI ss))) (hN:Nib w)
  (entM:∀args w,(callFunc fm args).run Tryz.prog w=.ok (.enter fm args) w) (entB:∀args w,(callFunc fb args).run Tryz.prog w=.ok (.enter fb args) w)
  (hmay:∀W gl c,c=m->Below w.heap.size w W->W.rangeAt gl 0 (ints (natsI (numsAt b 1 ss)))->Calls Tryz.prog fm (#[.slice (some ⟨gl,0,none⟩) m c]++cm) W fun e W'=>e=.returned (.bool mb)/\Below W.heap.size W W')
  (hbuild:okGet b k ss mb=true->∀W gl c,c=m->Below w.heap.size w W->W.rangeAt gl 0 (ints (natsI (numsAt b 1 ss)))->Calls Tryz.prog fb (#[.slice (some ⟨gl,0,none⟩) m c]++cb) W fun e W'=>e=.returned (.agg ds.toArray)/\Below W.heap.size W W'):
  Calls Tryz.prog 129 #[.agg #[.int .i64 (k:Int),.slice (some ⟨gs,0,none⟩) m cl,tv,.func (.func fm) #[] cm,.func (.func fb) #[] cb],.agg (bkC b).toArray] w
   (wN w (okGet b k ss mb) ds zeroS (yK b k ss mb)):=by
 have H:=Y6 hs hN hmay hbuild hss hm;have HC:=Y3 hds hd1 hb;clear hs hN hmay hbuild hss hm hds hd1 hb;have hr:((w.alloc (.cells #[.int .i64 (k:Int),.slice (some ⟨gs,0,none⟩) m cl,tv,.func (.func fm) #[] cm,.func (.func fb) #[] cb] 137)).alloc (.cells (bkC b).toArray 54)).rangeAt (w.heap.size+1) 0 (bkC b):=zg (zc _ _ (by simp));go_enter Tryz.func129,Tryz.ntmps129
 go_wp2_with (first
  |(refine qZg rfl _ _ rfl _ _ rfl _ _ (qYp (qYp hr _) _) Tryz.underlying54 rfl (zt _ HC.o.2.2) ?_)
  |fail)
 show Calls _ _ _ ((((w.alloc (.cells #[.int .i64 (k:Int),.slice (some ⟨gs,0,none⟩) m cl,tv,.func (.func fm) #[] cm,.func (.func fb) #[] cb] 137)).alloc (.cells (bkC b).toArray 54)).alloc (.cells zeroS.toArray 40)).alloc (.cells zeroS.toArray 40)) _;obtain⟨Z,hZ⟩:∃Z:List Value,Z=zeroS:=⟨_,rfl⟩
 rw[<-hZ];have hZs:Hid (Z.toArray.size=7):=by show _=_;rw[hZ];rfl
 have hZl:Hid (Z.length=7):=by show _=_;rw[hZ];rfl
 have hsZ:Hid ((Tryz.prog.info? 40).map (·.size)=some Z.length):=by show _=_;rw[hZ];exact yo
 have hsA:Hid ((Tryz.prog.info? 40).map (·.size)=some Z.toArray.size):=by show _=_;rw[hZ];exact yo
 have hZ1:Hid ((Z.toArray).all (·.oneCell')=true):=by show _=_;rw[hZ];exact zS_one
 have HZ:=qqh hZ;clear hZ;obtain⟨h1,h2,h3,h4,h5,h6⟩:=xw w (.cells #[.int .i64 (k:Int),.slice (some ⟨gs,0,none⟩) m cl,tv,.func (.func fm) #[] cm,.func (.func fb) #[] cb] 137) (.cells (bkC b).toArray 54) (.cells Z.toArray 40) (.cells Z.toArray 40);clear hr;generalize (((w.alloc (.cells #[.int .i64 (k:Int),.slice (some ⟨gs,0,none⟩) m cl,tv,.func (.func fm) #[] cm,.func (.func fb) #[] cb] 137)).alloc (.cells (bkC b).toArray 54)).alloc (.cells Z.toArray 40)).alloc (.cells Z.toArray 40)=w4 at*;refine(vn b HC.o.2.2 (H.o.2.1.keep h6 (fun h=>h))).mono ?_;rintro e w5 ⟨rfl,hb5⟩;have hu5:=qqb hb5;have g1:=(hu5.block _ (zd h1) (fun h=>h)).trans h1;have g2:=(hu5.block _ (zd h2) (fun h=>h)).trans h2;have g3:=(hu5.block _ (zd h3) (fun h=>h)).trans h3;have g4:=(hu5.block _ (zd h4) (fun h=>h)).trans h4;have hz5:=hu5.size;have H5:=Y7 g1 g2 g3 g4 (h6.trans hu5) h5 hz5;clear h1 h2 h3 h4 h5 h6 g1 g2 g3 g4 hu5 hb5 hz5;by_cases hsl:sealB b=b
 .have hsc:sealedC b=0:=if_pos hsl;rw[hsc];clear hsc;have HS:=qqh hsl;clear hsl;obtain⟨g1,g2,g3,g4,u5,z4,z5⟩:=H5.o;have r5:=zg g2;clear g1 g2 g3 g4 u5;go_wp2_with (first
   |(refine qZg rfl _ _ rfl _ _ rfl _ _ r5 Tryz.underlying54 rfl (zt _ HC.o.2.2) ?_)
   |fail)
  refine(Tf b HC.o.2.2).mono ?_;rintro e w6 ⟨g,rfl,hR6,hge,hb6⟩;have HX:=Y2 hR6 hb6;clear hR6 hb6;go_wp2_with fail
  refine(rv HX.o.1 1 (by decide) (by decide) (by decide)).mono ?_;rintro e w7 ⟨rfl,hR7,hU7⟩;obtain⟨kb,hkb⟩:=qqe (numB ((b.drop 0).take 1));rw[<-hkb];have HK:=qqh hkb;clear hkb;obtain⟨g1,g2,g3,g4,u5,z4,z5⟩:=H5.o;obtain⟨hs,hN,-,-,hss,hm⟩:=H.o;have u57:Upd (fun j=>j=g) w5 w7:=((uuo (S:=fun _=>False) HX.o.2).mono (fun _ _ h=>h.elim)).trans hU7;have u7:Upd (fun j=>j=g) w w7:=(u5.mono (fun _ _ h=>h.elim)).trans u57;have hM7:w.heap.size+4<=w7.heap.size:=by have:=u57.size;omega
  have gM:w.heap.size+4<=g:=by omega
  have m1:w7.cell? ⟨w.heap.size,1,none⟩=some (.slice (some ⟨gs,0,none⟩) m cl):=u57.cellv (za g1 1) (by omega);have a1:=(u57.block _ (zd g1) (by omega)).trans g1;have a3:=(u57.block _ (zd g3) (by omega)).trans g3;have a4:=(u57.block _ (zd g4) (by omega)).trans g4;have gslt:gs<w.heap.size\/m=0:=by
   rcases qXt m with h|h
   .exact .inr h
   .exact .inl (qYn w _ (hs 0 _ (xp (by omega))))
  have hs7:∀i (hi:i<ss.length),w7.cell? ⟨gs,i,none⟩=some (.int .i64 (ss[i]:Int)):=fun i hi=>by
   have:=u7.cellv (hs i _ (xp hi)) (by omega)
   rwa[qYe]at this
  have hua:Upd (fun _=>False) w7 (w7.alloc (.cells (ints (List.replicate m 0)).toArray 3)):=(uur _ _).alloc _;have hgL:=zc w7 (.cells (ints (List.replicate m 0)).toArray 3) rfl;have hmk:=vR m (by omega) w7;have hR8:=hR7.keep hua (fun h=>h);have hglt:=hR7.lt;have m18:(w7.alloc (.cells (ints (List.replicate m 0)).toArray 3)).cell? ⟨w.heap.size,1,none⟩=some (.slice (some ⟨gs,0,none⟩) m cl):=hua.cellv m1 (fun h=>h);have H8:=Y12 hua hgL hR8 a1 a3 a4 hs7 gslt u7 hss hm hN;clear g1 g2 g3 g4 u5 z4 hs hN hss hm u57 u7 a1 a3 a4 gslt hs7 hua hgL hR8 hU7 hR7 r5 z5;go_wp2
  clear hmk m1;generalize hW8:w7.alloc (.cells (ints (List.replicate m 0)).toArray 3)=w8 at*;have HW8:=qqh hW8;clear hW8;generalize hL:w7.heap.size=L at*;have HL:=qqh hL;clear hL;go_loopw[30] (fun s30 wr=>∃i:Nat,i<=m/\s30=.int .i64 i/\yJ wr g b (1+(ss.take i).sum)/\wr.heap[L]?=some (.cells (ints (fillI (numsAt b 1 ss) i)).toArray 3 (0,0))/\Upd (fun j=>j=g\/j=L) w8 wr) (fun s30 _=>m-(intOf s30).toNat)
  case atStart=>exact⟨0,qYf _,rfl,by simpa using H8.o.2.2.1,by rw[H8.o.2.1];simp[fillI,natsI,zC,H8.o.2.2.2.2.2.2.2.2.2.2.1],uur _ _⟩
  case round=>
   obtain⟨i,hi,rfl,hR,hL,hu⟩:=hrel;obtain⟨hua,hgL,hR8,a1,a3,a4,hs7,gslt,u7,hss,hm,hN⟩:=H8.o;by_cases hlt:i<m
   .have hil:i<ss.length:=by omega
    have x1:wr.cell? ⟨gs,i,none⟩=some (.int .i64 (ss[i]:Int)):=hu.cellv (hua.cellv (hs7 i hil) (fun h=>h)) (by omega);have hsi:=hss.1 ss[i] (qyz hil);obtain⟨t1,t2⟩:=tV ss hil;have hng:¬L=g:=by omega
    have hcx:∃v,wr.cell? ⟨L,i,none⟩=some v:=by
     rw[za hL];exact⟨_,qxe (by rw[qXm,yq,uu _ (by rw[zC];omega),zC];omega)⟩
    have hnx:Hid ((ints (fillI (numsAt b 1 ss) i)).toArray.setIfInBounds i (.int .i64 ((numB ((b.drop (1+(ss.take i).sum)).take ss[i]):Nat):Int))=(ints (fillI (numsAt b 1 ss) (i+1))).toArray):=by
     show _=_;rw[qXi,vS,<-vr b 1 ss i hil,uv _ (by rw[zC];exact hil)]
    have hsum:Hid (1+(ss.take (i+1)).sum=1+(ss.take i).sum+ss[i]):=by show _=_;omega
    have b1:(0:Int)<=(i:Int)/\(i:Int)<(m:Int):=by omega
    have hbd:1+(ss.take i).sum+ss[i]<=60:=by omega
    have HX2:=Y6 hR hL hu hsi hbd hcx;clear hua hgL hR8 a1 a3 a4 hs7 gslt u7 hss hm hN t1 t2 hR hL hu hcx hbd hsi;obtain⟨b1,b2⟩:=b1;generalize ss[i]=si at*;go_wp2_with fail
    refine(rv HX2.o.1 si HX2.o.2.2.2.1.1 HX2.o.2.2.2.1.2 HX2.o.2.2.2.2.1).mono ?_;rintro e w9 ⟨rfl,hR9,hU9⟩;have hL9:=(hU9.block L (zd HX2.o.2.1) hng).trans HX2.o.2.1;obtain⟨v0,hv0⟩:=HX2.o.2.2.2.2.2;have c9:=hU9.cellv hv0 hng;have z9:=zf hL9 i;have hL10:=zh hL9 i (.int .i64 ((numB ((b.drop (1+(ss.take i).sum)).take si):Nat):Int));rw[hnx.out]at hL10;have hR10:=hR9.keep (zi w9 L i (.int .i64 ((numB ((b.drop (1+(ss.take i).sum)).take si):Nat):Int))) (fun e=>hng e.symm);rw[<-hsum.out]at hR10;have hU10:Upd (fun j=>j=g\/j=L) w8 (w9.setCell ⟨L,i,none⟩ (.int .i64 ((numB ((b.drop (1+(ss.take i).sum)).take si):Nat):Int))):=
     HX2.o.2.2.1.trans ((hU9.mono (fun _ _ h=> .inl h)).trans ((zi _ _ _ _).mono (fun _ _ h=> .inr h)))
    have HZ:=Y3 hR10 hL10 hU10;clear hL9 hv0 hL10 hR10 hU10 hU9 hR9;go_wp2
    go_roundw
    case rel=>exact⟨i+1,by omega,by go_num,HZ.o.1,HZ.o.2.1,HZ.o.2.2⟩
    case measure=>simp[intOf];omega
   .obtain rfl:i=m:=by omega
    rw[qXp (by omega)]at hR;have hl5:i=(numsAt b 1 ss).length:=by rw[zC];omega
    rw[show fillI (numsAt b 1 ss) i=natsI (numsAt b 1 ss) by rw[hl5];exact uw _]at hL;clear hl5;have u8r:Upd (fun j=>j=g\/j=L) w7 wr:=(hua.mono (fun _ _ h=>h.elim)).trans hu;have hLw:w.heap.size+4<=L:=hM7;have hlw:Below w.heap.size w wr:=by
     refine zj (zj (qxl _ w) u7 (qXv _) (fun k e=>by omega)) u8r (qXv _) (fun k e=>by omega)
    have e1:=(u8r.block _ (zd a1) (by omega)).trans a1;have e3:=(u8r.block _ (zd a3) (by omega)).trans a3;have e4:=(u8r.block _ (zd a4) (by omega)).trans a4;have hErr:∀W,Below wr.heap.size wr W->W.rangeAt (w.heap.size+1+1+1) 0 Z/\W.there (w.heap.size+1+1) 0 7/\Below w.heap.size w W:=fun W hW=>by
     have f3:=(hW.block _ (zd e3)).trans e3;refine⟨zg ((hW.block _ (zd e4)).trans e4),fun j hj=>?_,hlw.trans (hW.mono hlw.size)⟩;rw[za f3,zf f3];exact⟨by rw[qYe,qxe (by have:=hZl.out;simp;omega)];rfl,rfl⟩
    have m0:wr.cell? ⟨w.heap.size,0,none⟩=some (.int .i64 (k:Int)):=za e1 0;have m3:wr.cell? ⟨w.heap.size,3,none⟩=some (.func (.func fm) #[] cm):=za e1 3;have m4:wr.cell? ⟨w.heap.size,4,none⟩=some (.func (.func fb) #[] cb):=za e1 4;have HE:=Y6 hErr m3 m4 hR (zg hL) hlw;obtain⟨rz,tz,hbz⟩:=hErr wr (qxl _ _);clear hua hgL hR8 a1 a3 a4 hs7 gslt u7 hss hm hN hR hL hu u8r hlw e1 e3 e4 hErr m3 m4;by_cases hkk:kb=k
    .have hq:((kb:Int)==(k:Int))=true:=by rw[hkk];simp
     have hq2:((kb:Int) !=(k:Int))=false:=by rw[hkk];simp
     have HKK:=qqh hkk;clear hkk rz tz hbz;go_wp2_with fail
     refine(JG HE.o.2.2.2.1).mono ?_;rintro e w10 ⟨rfl,hb10⟩;obtain⟨rz,tz,hbz⟩:=HE.o.1 w10 hb10;have m3:=(uuo (S:=fun _=>False) hb10).cellv HE.o.2.1 (fun h=>h);have m4:=(uuo (S:=fun _=>False) hb10).cellv HE.o.2.2.1 (fun h=>h);have rL:=Below.range hb10 HE.o.2.2.2.2.1;have H10:=Y3 hb10 rL m4;clear rL m4 hb10;have HBz:=qqh hbz;clear hbz;by_cases hen:endB b (1+ss.sum)=true
     .have he0:endC b (1+ss.sum)=0:=if_pos hen;rw[he0];clear he0 rz tz;have HEN:=qqh hen;clear hen;go_wp2_with fail
      refine(H.o.2.2.1 w10 L i rfl HBz.out H10.o.2.1).mono ?_;rintro e w11 ⟨rfl,hb11⟩;obtain⟨rz,tz,hbz11⟩:=HE.o.1 w11 (H10.o.1.trans (hb11.mono H10.o.1.size));have m4:=(uuo (S:=fun _=>False) hb11).cellv H10.o.2.2 (fun h=>h);have rL:=Below.range hb11 H10.o.2.1;have HBz11:=qqh hbz11;have HRL:=qqh rL;have HBz11b:=qqh hb11;clear rL hbz11 hb11;cases mb with
      |true=>
       have HR:Hid (okGet b k ss true=true):=by
        show _=_;simp only[okGet,HS.o,HEN.o,decide_true,qxp,Bool.and_true,qYz];have:=HK.o;rw[qyc]at this;rw[<-this,HKK.o]
       clear rz tz;go_wp2_with fail
       refine(H.o.2.2.2.1 HR.o w11 L i rfl HBz11.out HRL.o).mono ?_;rintro e w12 ⟨rfl,hb12⟩;obtain⟨-,tz,hbz12⟩:=HE.o.1 w12 ((H10.o.1.trans ((HBz11b.out).mono H10.o.1.size)).trans (hb12.mono (by have:=H10.o.1.size;have:=HBz11b.out.size;omega)));have hdl:ds.length=7:=by have h1:=HC.o.1;rw[yo]at h1;injection h1 with h1;exact h1.symm
       have hst:w12.there (w.heap.size+1+1) 0 ds.toArray.size:=by rw[show ds.toArray.size=7 by simpa using hdl];exact tz
       have hst2:w12.there (w.heap.size+1+1) 0 ds.length:=by rw[hdl];exact tz
       have hsz2:(Tryz.prog.info? 40).map (·.size)=some ds.toArray.size:=by rw[show ds.toArray.size=7 by simpa using hdl];exact yo
       have HST:=Y4 hst hsz2 hst2 hbz12;clear hst hsz2 hst2 hdl hbz12 tz hb12;go_wp2_with (first
        |(refine qZi rfl _ _ _ rfl _ _ ds.toArray rfl rfl HST.o.1 HST.o.2.1 (qYu HC.o.2.1) ?_)
        |fail)
       exact qYw (zn rfl _ _ (w.heap.size+1+1) 0 ds _ rfl (qYr _ _ _ _ HST.o.2.2.1) Tryz.underlying40 rfl HC.o.1) rfl
        ⟨⟨ds,fun _=>rfl,fun h=>(by rw[HR.o]at h;cases h),by rw[show yK b k ss true=0 from if_pos HR.o];rfl⟩,zj HST.o.2.2.2 (zp _ (w.heap.size+1+1) 0 _) (qXv _) (fun k e=>by omega)⟩
      |false=>
       have HR:Hid (okGet b k ss false=false):=by show _=_;simp[okGet]
       go_wp2_with (first
        |(refine qZg rfl _ _ rfl _ _ rfl _ _ rz Tryz.underlying40 rfl hsZ.out ?_)
        |(refine qZi rfl _ _ _ rfl _ _ Z.toArray rfl rfl (by rw[hZs.out];exact tz) hsA.out hZ1.out ?_)
        |fail)
       exact qYw (zn rfl _ _ (w.heap.size+1+1) 0 Z _ rfl (qYr _ _ _ _ (by first|(rw[hZs.out];exact tz)|(rw[hZl.out];exact tz))) Tryz.underlying40 rfl hsZ.out) rfl
        ⟨⟨_,fun h=>(by rw[HR.o]at h;cases h),fun _=>rfl,by rw[yL HS.o HR.o,HZ.o];rfl⟩,zj HBz11.out (zp _ (w.heap.size+1+1) 0 _) (qXv _) (fun k e=>by omega)⟩
     .have he0:endC b (1+ss.sum)=12:=if_neg hen;rw[he0];clear he0;have HR:Hid (okGet b k ss mb=false):=by show _=_;simp[okGet,hen]
      clear hen;go_wp2_with (first
       |(refine qZg rfl _ _ rfl _ _ rfl _ _ rz Tryz.underlying40 rfl hsZ.out ?_)
       |(refine qZi rfl _ _ _ rfl _ _ Z.toArray rfl rfl (by rw[hZs.out];exact tz) hsA.out hZ1.out ?_)
       |fail)
      exact qYw (zn rfl _ _ (w.heap.size+1+1) 0 Z _ rfl (qYr _ _ _ _ (by first|(rw[hZs.out];exact tz)|(rw[hZl.out];exact tz))) Tryz.underlying40 rfl hsZ.out) rfl
       ⟨⟨_,fun h=>(by rw[HR.o]at h;cases h),fun _=>rfl,by rw[yL HS.o HR.o,HZ.o];rfl⟩,zj HBz.out (zp _ (w.heap.size+1+1) 0 _) (qXv _) (fun k e=>by omega)⟩
    .have hq:((kb:Int)==(k:Int))=false:=by rw[qYv];omega
     have hq2:((kb:Int) !=(k:Int))=true:=by rw[bne_iff_ne];omega
     have HR:Hid (okGet b k ss mb=false):=by
      show _=_;have:=HK.o;rw[qyc]at this;simp[okGet,<-this,hkk]
     have HBz:=qqh hbz;clear hkk hbz;go_wp2_with (first
      |(refine qZg rfl _ _ rfl _ _ rfl _ _ rz Tryz.underlying40 rfl hsZ.out ?_)
      |(refine qZi rfl _ _ _ rfl _ _ Z.toArray rfl rfl (by rw[hZs.out];exact tz) hsA.out hZ1.out ?_)
      |fail)
     exact qYw (zn rfl _ _ (w.heap.size+1+1) 0 Z _ rfl (qYr _ _ _ _ (by first|(rw[hZs.out];exact tz)|(rw[hZl.out];exact tz))) Tryz.underlying40 rfl hsZ.out) rfl
      ⟨⟨_,fun h=>(by rw[HR.o]at h;cases h),fun _=>rfl,by rw[yL HS.o HR.o,HZ.o];rfl⟩,zj HBz.out (zp _ (w.heap.size+1+1) 0 _) (qXv _) (fun k e=>by omega)⟩
 .have hsc:sealedC b=13:=if_neg hsl;have hres:=vt (k:=k) (ss:=ss) (mb:=mb) hsl;rw[hsc];have HR:=qqh hres;clear hsc hsl hres;obtain⟨g1,g2,g3,g4,u5,z4,z5⟩:=H5.o;have r4:=zg g4;have hth:w5.there (w.heap.size+1+1) 0 7:=fun j hj=>by
   rw[za g3,zf g3];exact⟨by rw[qYe,qxe (by have:=hZl.out;simp;omega)];rfl,rfl⟩
  have HU:=qqh u5;clear g1 g2 g3 g4 u5 z4 z5;go_wp2_with (first
   |(refine qZg rfl _ _ rfl _ _ rfl _ _ r4 Tryz.underlying40 rfl hsZ.out ?_)
   |(refine qZi rfl _ _ _ rfl _ _ Z.toArray rfl rfl (by rw[hZs.out];exact hth) hsA.out hZ1.out ?_)
   |fail)
  refine qYw (zn rfl _ _ (w.heap.size+1+1) 0 Z _ rfl (qYr _ _ _ _ (by first|(rw[hZs.out];exact hth)|(rw[hZl.out];exact hth))) Tryz.underlying40 rfl hsZ.out) rfl
   ⟨⟨_,fun h=>(by rw[HR.o.1]at h;cases h),fun _=>rfl,by rw[HR.o.2,HZ.o];rfl⟩,zj (Upd.below HU.o) (zp w5 (w.heap.size+1+1) 0 _) (qXv _) (fun k e=>by omega)⟩
def numsS(b:Bk):List Nat:=numsAt b 1 szS
def okS(b:Bk):Bool:=okGet b 1 szS (mayS (natsI (numsS b)))
def cdS(b:Bk):Int:=yK b 1 szS (mayS (natsI (numsS b)))
def YQ(w:World)(b:Bk):Ending->World->Prop:=wN w (okS b) (dsS (natsI (numsS b))) zeroS (cdS b)
theorem Us{w:World}{gs gt:Nat}(hF:QL w gs gt)(hN:Nib w)(b:Bk)(hb:b.length=64):
  Calls Tryz.prog 129 #[XV gs gt,.agg (bkC b).toArray] w (YQ w b):=by
 obtain⟨hs,hB⟩:=hF;refine QP (w:=w) b hb 1 szS ⟨by simp[szS],by decide⟩ 7 rfl (by decide) gs 7 196 127 #[.pointer (some ⟨gt,0,none⟩)] #[] (.func (.func 125) #[] #[]) (mayS (natsI (numsS b))) (dsS (natsI (numsS b)))
  (by rw[Zo];exact yo) (Zp _) hs hN (fun _ _=>rfl) (fun _ _=>rfl) ?_ ?_
 .intro W gl c hc hW hr;subst hc;exact YM _ (by show(natsI (numsAt b 1 _)).length=7;simp[natsI,zC,szS]) (qXv _) (by decide) (hB.below hW) hr
 .intro _ W gl c hc hW hr;subst hc;exact Et _ (by show(natsI (numsAt b 1 _)).length=7;simp[natsI,zC,szS]) hr
theorem QQ{w:World}(hN:Nib w)(b:Bk)(hb:b.length=64):
  Calls Tryz.prog 68 #[.agg (bkC b).toArray] w (YQ w b):=by
 have HN:=qqh hN;have Hb:=qqh hb;clear hN hb;go_enter Tryz.func68,Tryz.ntmps68
 go_wp2_with fail
 change Code.wp _ _ _ _ ((w.alloc (.cells (bkC b).toArray 54)).alloc (.cells zeroS.toArray 40))
 have hr:((w.alloc (.cells (bkC b).toArray 54)).alloc (.cells zeroS.toArray 40)).rangeAt w.heap.size 0 (bkC b):=qYp (zg (zc w _ rfl)) _;have hg:((w.alloc (.cells (bkC b).toArray 54)).alloc (.cells zeroS.toArray 40)).heap[w.heap.size+1]?=some (.cells zeroS.toArray 40):=zc _ _ (by simp);have hu:Upd (fun _=>False) w ((w.alloc (.cells (bkC b).toArray 54)).alloc (.cells zeroS.toArray 40)):=((uur _ w).alloc _).alloc _;generalize (w.alloc (.cells (bkC b).toArray 54)).alloc (.cells zeroS.toArray 40)=w2 at*;have hb2:Below w.heap.size w w2:=Upd.below hu;refine qZj (S:=fun W=>W.rangeAt w.heap.size 0 (bkC b)) (by kernel_rfl) (by rw[qYq];exact hr) (fun hHeld=>?_);refine Wl.l 1 (fun w h=>h) Tryz.underlying54 (zt _ Hb.out) hHeld ?_;refine Wl.r 0 (fun K hK=>?_);go_simp
 refine(qO _).mono ?_;rintro e w3 ⟨gs,gt,rfl,hF,hb3⟩;have hb3':Below w2.heap.size w2 w3:=yg hb3;refine hK.o _ _ (Below.range hb3 hHeld) (fun hHeld2=>?_);clear hK K;refine Wl.r 2 (fun K hK=>?_);go_simp
 refine(Us hF ((HN.o.keep hu (fun h=>h)).below hb3') b Hb.out).mono ?_;rintro e w4 ⟨⟨rs,hr1,hr2,rfl⟩,hb4⟩;have hb4':Below w2.heap.size w2 w4:=hb3'.trans (hb4.mono hb3'.size);have hg4:=(hb4'.block _ (zd hg)).trans hg;have hth:w4.there (w.heap.size+1) 0 7:=fun j hj=>by
  rw[za hg4,zf hg4];exact⟨by rw[qYe,qxe (by rw[qXm];exact hj)];rfl,rfl⟩
 have hrl:rs.length=7/\∀v∈rs,v.oneCell'=true:=by
  cases hk:okS b with
  |true=>rw[hr1 hk];exact⟨Zo _,Zp _⟩
  |false=>rw[hr2 hk];exact⟨rfl,qxw.1 (by simpa using zS_one:zeroS.all (·.oneCell')=true)⟩
 have hst:w4.there (w.heap.size+1) 0 rs.toArray.size:=by rw[show rs.toArray.size=7 by simpa using hrl.1];exact hth
 have hst2:w4.there (w.heap.size+1) 0 rs.length:=by rw[hrl.1];exact hth
 have hsz2:(Tryz.prog.info? 40).map (·.size)=some rs.toArray.size:=by rw[show rs.toArray.size=7 by simpa using hrl.1];exact yo
 have hsz3:(Tryz.prog.info? 40).map (·.size)=some rs.length:=by rw[hrl.1];exact yo
 have hU5:Below w.heap.size w (w4.setCells (w.heap.size+1) 0 rs):=zj (hb2.trans (hb4'.mono hu.size)) (zp w4 (w.heap.size+1) 0 _) (qXv _) (fun k e=>by omega);refine hK.o _ _ (Below.range hb4 hHeld2) (fun hHeld3=>?_);clear hK K;refine Wl.i [3,4] ?_;iterate 2 refine Wl.t hHeld3 ?_
 refine Wl.o ?_;refine Wl.r 5 (fun K hK=>?_);rw[if_pos (by rfl)];refine qZk _ _ _ rfl _ _ (List.toArray _) rfl rfl (hst) (hsz2) (qYu hrl.2) ?_;simp only[Act.put,qXi];refine hK.o _ _ ((zp w4 (w.heap.size+1) 0 rs).range hHeld3 (by omega)) (fun hHeld4=>?_);clear hK K;refine Wl.r 6 (fun K hK=>?_);go_simp
 refine hK.o _ _ (hHeld4) (fun _=>?_);clear hK K;refine Wl.d ?_;have HE:=Y5 hU5 hst2 hsz3 hr1 hr2;clear hst hst2 hsz2 hsz3 hU5 hth hg4 hb4 hb4' hb3 hb3' hHeld hHeld2 hHeld3 hHeld4 hF hr hg hu hb2 hr1 hr2 hrl;go_wp2
 exact qYw (zn rfl _ _ (w.heap.size+1) 0 rs _ rfl (qYr _ _ _ _ HE.o.2.1) Tryz.underlying40 rfl HE.o.2.2.1) rfl ⟨⟨rs,HE.o.2.2.2.1,HE.o.2.2.2.2,rfl⟩,HE.o.1⟩
end Go.Proofs.YtfhfbpmlnjdfoaaGreatDoor
