/- Functions that -/
import Derived.Test.YtbnpkobbnjihjaaGreatDoorG09
set_option maxRecDepth 100000
set_option maxHeartbeats 4000000
namespace Go.Proofs.YtbnpkobbnjihjaaGreatDoor
open Go Go.RowKit Tryz
variable{w w':World}{b n l base fi:Nat}{S:Nat->Prop}{F:List Bk}{O:List (Nat×Bk)}{P:List Int}
theorem XE{P:Prop}(h:P:=by
 have hmf:=qqf;have HF:=Y3 hf hR hxs;clear hf hR hxs;have hr:=zf (zc w (.cells xs.toArray n1d) rfl)
 go_enter_defers q2d,q3d
 go_wp2_with (first
  |(refine qZa rfl _ _ rfl _ _ rfl _ _ (qYj (qYj hr _) _) q4d rfl HF.o.2.2 ?_)
  |fail)
 show Calls _ _ _ (((w.alloc (.cells xs.toArray n1d)).alloc (.cells (bkC zB).toArray 54)).alloc (.cells #[.int .i64 0] 34)) _;obtain⟨h1,h2,h3,h4,h5⟩:=yU w (.cells xs.toArray n1d) (.cells (bkC zB).toArray 54) (.cells #[.int .i64 0] 34);clear hr;generalize ((w.alloc (.cells xs.toArray n1d)).alloc (.cells (bkC zB).toArray 54)).alloc (.cells #[.int .i64 0] 34)=w3 at*;refine(HF.o.1 w3 (Upd.below h5)).mono ?_;rintro e w4 ⟨ys,cd,hRR,rfl,hb4⟩;have g2:=(hb4.block _ (zd h2)).trans h2;have g3:=(hb4.block _ (zd h3)).trans h3;have hyl:=HF.o.2.1 ys cd hRR;have hth:w4.there (w.heap.size+1) 0 64:=fun j hj=>by
  rw[za g2,zg g2];exact⟨by rw[qXy,qxe oD];rfl,rfl⟩
 have hst:w4.there (w.heap.size+1) 0 ys.toArray.size:=by rw[show ys.toArray.size=64 by simpa using hyl.1];exact hth
 have hsz2:(prog.info? 54).map (·.size)=some ys.toArray.size:=by rw[show ys.toArray.size=64 by simpa using hyl.1];exact zI
 have g3':=((zo w4 (w.heap.size+1) 0 ys).block (w.heap.size+1+1) (zd g3) oM).trans g3;have c3:(w4.setCells (w.heap.size+1) 0 ys).cell? ⟨w.heap.size+1+1,0,none⟩=some (.int .i64 0):=za g3' 0;have z3:=zg g3' 0;have HX:=Y8 hst hsz2 hyl hRR hb4 h5 h4 hth;clear hst hsz2 hyl hRR hb4 h5 h4 h1 h2 h3 g2 g3 hth;go_wp2_with (first
  |(refine qZc rfl _ _ _ rfl _ _ ys.toArray rfl rfl HX.o.1 HX.o.2.1 (qYo HX.o.2.2.1.2) ?_)
  |fail)
 refine leaves_cons (f:=n5d) (args:= #[.pointer (some ⟨w.heap.size+1,0,none⟩),.pointer (some ⟨w.heap.size+1+1,0,none⟩)]) oe jN ?_;refine(q6d _ _ _).mono ?_;rintro e u' w'' ⟨rfl,rfl,rfl⟩;simp[Leaves,settle];have hst2:w4.there (w.heap.size+1) 0 ys.length:=by rw[HX.o.2.2.1.1];exact HX.o.2.2.2.2.2.2.2
 have r1:=qYl w4 (w.heap.size+1) 0 ys hst2;have r2:((w4.setCells (w.heap.size+1) 0 ys).setCell ⟨w.heap.size+1+1,0,none⟩ (.int .i64 cd)).rangeAt (w.heap.size+1) 0 ys:=zE r1 oM;have c4:((w4.setCells (w.heap.size+1) 0 ys).setCell ⟨w.heap.size+1+1,0,none⟩ (.int .i64 cd)).cell? ⟨w.heap.size+1+1,0,none⟩=some (.int .i64 cd):=World.cell?_setCell_same _ _ _ c3;refine⟨_,sG rfl _ _ (w.heap.size+1) 0 ys _ rfl r2 underlying54 rfl (by rw[HX.o.2.2.1.1];exact zI) (w.heap.size+1+1) _ rfl (rJ c4),⟨ys,cd,HX.o.2.2.2.1,rfl,?_⟩⟩;refine zj (zj ((Upd.below HX.o.2.2.2.2.2.1).trans (HX.o.2.2.2.2.1.mono HX.o.2.2.2.2.2.1.size)) (zo w4 (w.heap.size+1) 0 ys) (qXp _) (fun k e=>oM)) (zi _ (w.heap.size+1+1) 0 _) (qXp _) (fun k e=>oM)):P:=h
theorem vm{P:Prop}(h:P:=by
 have hmf:=qqf;have HF:=Y2 hf hxs;clear hf hxs;have hr:=zf (zc w (.cells xs.toArray n1d) rfl)
 go_enter_defers zcV,zcW
 go_wp2_with (first
  |(refine qZa rfl _ _ rfl _ _ rfl _ _ (qYj (qYj hr _) _) q4d rfl HF.o.2 ?_)
  |fail)
 obtain⟨h1,h2,h3,h4,h5⟩:=yU w (.cells xs.toArray n1d) (.cells #[.int .i64 0] 3) (.cells #[.int .i64 0] 34);clear hr;generalize ((w.alloc (.cells xs.toArray n1d)).alloc (.cells #[.int .i64 0] 3)).alloc (.cells #[.int .i64 0] 34)=w3 at*;refine(HF.o.1 w3 (Upd.below h5)).mono ?_;rintro e w4 ⟨rfl,hb4⟩;have g2:=(hb4.block _ (zd h2)).trans h2;have g3:=(hb4.block _ (zd h3)).trans h3;have c2:w4.cell? ⟨w.heap.size+1,0,none⟩=some (.int .i64 0):=za g2 0;have z2:=zg g2 0;have c3:w4.cell? ⟨w.heap.size+1+1,0,none⟩=some (.int .i64 0):=za g3 0;have z3:=zg g3 0;have HX:=Y2 hb4 h5;clear hb4 h5 h4 h1 h2 h3 g2 g3;go_wp2
 refine leaves_cons (f:=zcX) (args:= #[.pointer (some ⟨w.heap.size+1,0,none⟩),.pointer (some ⟨w.heap.size+1+1,0,none⟩)]) oe jN ?_;refine(zcY _ _ _).mono ?_;rintro e u' w'' ⟨rfl,rfl,rfl⟩;have d1:((w4.setCell ⟨w.heap.size+1,0,none⟩ (.int .i64 n)).setCell ⟨w.heap.size+1+1,0,none⟩ (.int .i64 cd)).cell? ⟨w.heap.size+1,0,none⟩=some (.int .i64 n):=zt (World.cell?_setCell_same _ _ _ c2) oM;have d2:((w4.setCell ⟨w.heap.size+1,0,none⟩ (.int .i64 n)).setCell ⟨w.heap.size+1+1,0,none⟩ (.int .i64 cd)).cell? ⟨w.heap.size+1+1,0,none⟩=some (.int .i64 cd):=World.cell?_setCell_same _ _ _ (zt c3 oM);have d3:Below w.heap.size w ((w4.setCell ⟨w.heap.size+1,0,none⟩ (.int .i64 n)).setCell ⟨w.heap.size+1+1,0,none⟩ (.int .i64 cd)):=
  zj (zj ((Upd.below HX.o.2).trans (HX.o.1.mono HX.o.2.size)) (zi w4 (w.heap.size+1) 0 _) (qXp _) (fun k e=>oM)) (zi _ (w.heap.size+1+1) 0 _) (qXp _) (fun k e=>oM)
 generalize (w4.setCell ⟨w.heap.size+1,0,none⟩ (.int .i64 n)).setCell ⟨w.heap.size+1+1,0,none⟩ (.int .i64 cd)=w5 at*;simp[Leaves,settle,results,zcZ,SZ d1,rJ d2,asAddr,Sem.run_bind,Result.andThen];exact⟨rfl,d3⟩):P:=h
namespace fGuardI
def zL:List Value:=[Value.int .i64 0,Value.int .i64 0,Value.int .i64 0,Value.int .i64 0]
end fGuardI
theorem sG{P:Program}{k:Func}{p q:Tmp}{j s:TypeId}(A:k.results= #[.cell p j,.cell q s])(h:Array Value)(w:World)(b o:Nat)(cs:List Value)(d:TypeDesc)
  (D:h.getD p undef=.pointer (some ⟨b,o,none⟩)) (E:w.rangeAt b o cs) (G:P.underlying j=some d) (H:d.isRow=true) (J:(P.info? j).map (·.size)=some cs.length)
  (g:Nat) (v:Value) (K:h.getD q undef=.pointer (some ⟨g,0,none⟩)) (L:(loadVar s ⟨g,0,none⟩).run P w=.ok v w):
  (results k h).run P w=.ok (.tuple #[.agg cs.toArray,v]) w:=by
 have M:h[p]?.getD undef=.pointer (some ⟨b,o,none⟩):=by simpa using D
 have N:h[q]?.getD undef=.pointer (some ⟨g,0,none⟩):=by simpa using K
 simp[results,A,M,N,asAddr,run_loadVar_mid w b o j cs d E G H J,L,Sem.run_bind,Result.andThen]
theorem rJ{g:Nat}{cd:Int}(h:w.cell? ⟨g,0,none⟩=some (.int .i64 cd)):(loadVar 34 ⟨g,0,none⟩).run prog w=.ok (.int .i64 cd) w:=by
 simp[go_sem,h]
theorem SZ{g:Nat}{cd:Int}(h:w.cell? ⟨g,0,none⟩=some (.int .i64 cd)):(loadVar 3 ⟨g,0,none⟩).run prog w=.ok (.int .i64 cd) w:=by
 simp[go_sem,h]
def tI(w:World)(R:List Value->Int->Prop)(e:Ending)(w':World):Prop:=∃ys cd,R ys cd/\e=.returned (.tuple #[.agg ys.toArray,.int .i64 cd])/\Below w.heap.size w w'
def xi(w:World)(n cd:Int)(e:Ending)(w':World):Prop:=e=.returned (.tuple #[.int .i64 n,.int .i64 cd])/\Below w.heap.size w w'
theorem uQ(p q:Value)(w:World):
  CallsD prog 350 #[p,q] .returning w fun e j w'=>e=.returned (.tuple #[])/\j=.returning/\w'=w:=by
 refine callsD_of_wpS func350 rfl fun k cs s=>?_;apply wpS_seq;apply wpS_region;simp[wpOpsS,go_sem,recoverD,s,ntmps350,Exit.thenS];refine wpS_cond (t:=false) ou ?_;simp only[Bool.false_eq_true,if_false];refine wpS_of_wp (wp_skip ?_);cases k
 simp_all[bodyPostS,results,results350]
namespace fGuardI
abbrev n1d:Nat:=107
theorem q2d:type_of% @func280:= @func280
theorem q3d:type_of% @ntmps280:= @ntmps280
theorem q4d:type_of% @underlying107:= @underlying107
abbrev n5d:Nat:=350
theorem q6d:type_of% @uQ:= @uQ
end fGuardI
open fGuardI in
theorem UY(xs:List Value)(hxs:(prog.info? 107).map (·.size)=some xs.length)(p:Nat)(s:Array Value)(ent:∀args w,(callFunc p args).run prog w=.ok (.enter p args) w)
  (R:List Value->Int->Prop) (hR:∀ys cd,R ys cd->ys.length=64/\∀v∈ys,v.oneCell'=true)
  (hf:∀q,Below w.heap.size w q->Calls prog p (#[.agg xs.toArray]++s) q (tI q R)):
  Calls prog 280 #[.func (.func p) #[] s,.agg xs.toArray] w (tI w R):=XE
namespace fGuardI
end fGuardI
theorem uR(p q:Value)(w:World):
  CallsD prog 384 #[p,q] .returning w fun e j w'=>e=.returned (.tuple #[])/\j=.returning/\w'=w:=by
 refine callsD_of_wpS func384 rfl fun k cs s=>?_;apply wpS_seq;apply wpS_region;simp[wpOpsS,go_sem,recoverD,s,ntmps384,Exit.thenS];refine wpS_cond (t:=false) ou ?_;simp only[Bool.false_eq_true,if_false];refine wpS_of_wp (wp_skip ?_);cases k
 simp_all[bodyPostS,results,results384]
namespace fGuardI
theorem zcV:type_of% @func331:= @func331
theorem zcW:type_of% @ntmps331:= @ntmps331
abbrev zcX:Nat:=384
theorem zcY:type_of% @uR:= @uR
theorem zcZ:type_of% @results331:= @results331
end fGuardI
open fGuardI in
theorem UZ{w:World}(xs:List Value)(hxs:(prog.info? 107).map (·.size)=some xs.length)(j:Nat)(q:Array Value)(ent:∀args w,(callFunc j args).run prog w=.ok (.enter j args) w)
  (n cd:Int) (hf:∀p,Below w.heap.size w p->Calls prog j (#[.agg xs.toArray]++q) p (xi p n cd)):
  Calls prog 331 #[.func (.func j) #[] q,.agg xs.toArray] w (xi w n cd):=vm
namespace fGuardC
def zL:List Value:=[Value.int .i64 0,Value.int .i64 0,Value.int .i64 0,Value.int .i64 0,Value.int .i64 0,Value.int .i64 0]
end fGuardC
theorem VA:(prog.info? 213).map (·.size)=some 6:=kR
theorem uS(p q:Value)(w:World):
  CallsD prog 432 #[p,q] .returning w fun e j w'=>e=.returned (.tuple #[])/\j=.returning/\w'=w:=by
 refine callsD_of_wpS func432 rfl fun k cs s=>?_;apply wpS_seq;apply wpS_region;simp[wpOpsS,go_sem,recoverD,s,ntmps432,Exit.thenS];refine wpS_cond (t:=false) ou ?_;simp only[Bool.false_eq_true,if_false];refine wpS_of_wp (wp_skip ?_);cases k
 simp_all[bodyPostS,results,results432]
namespace fGuardC
abbrev n1d:Nat:=213
theorem q2d:type_of% @func412:= @func412
theorem q3d:type_of% @ntmps412:= @ntmps412
theorem q4d:type_of% @underlying213:= @underlying213
abbrev n5d:Nat:=432
theorem q6d:type_of% @uS:= @uS
end fGuardC
namespace fGuardC
end fGuardC
theorem uT(p q:Value)(w:World):
  CallsD prog 351 #[p,q] .returning w fun e j w'=>e=.returned (.tuple #[])/\j=.returning/\w'=w:=by
 refine callsD_of_wpS func351 rfl fun k cs s=>?_;apply wpS_seq;apply wpS_region;simp[wpOpsS,go_sem,recoverD,s,ntmps351,Exit.thenS];refine wpS_cond (t:=false) ou ?_;simp only[Bool.false_eq_true,if_false];refine wpS_of_wp (wp_skip ?_);cases k
 simp_all[bodyPostS,results,results351]
namespace fGuardC
theorem zcV:type_of% @func282:= @func282
theorem zcW:type_of% @ntmps282:= @ntmps282
abbrev zcX:Nat:=351
theorem zcY:type_of% @uT:= @uT
theorem zcZ:type_of% @results282:= @results282
end fGuardC
open fGuardC in
theorem Ta{w:World}(xs:List Value)(hxs:(prog.info? 213).map (·.size)=some xs.length)(j:Nat)(q:Array Value)(ent:∀args w,(callFunc j args).run prog w=.ok (.enter j args) w)
  (n cd:Int) (hf:∀p,Below w.heap.size w p->Calls prog j (#[.agg xs.toArray]++q) p (xi p n cd)):
  Calls prog 282 #[.func (.func j) #[] q,.agg xs.toArray] w (xi w n cd):=vm
namespace fGuardF
def zL:List Value:=[Value.int .i64 0,Value.int .i64 0,Value.int .i64 0,Value.int .i64 0,Value.int .i64 0,Value.int .i64 0,Value.int .i64 0,Value.int .i64 0,Value.int .i64 0,Value.int .i64 0,Value.int .i64 0,Value.int .i64 0,Value.int .i64 0]
end fGuardF
theorem VB:(prog.info? 221).map (·.size)=some 13:=kR
theorem uU(p q:Value)(w:World):
  CallsD prog 433 #[p,q] .returning w fun e j w'=>e=.returned (.tuple #[])/\j=.returning/\w'=w:=by
 refine callsD_of_wpS func433 rfl fun k cs s=>?_;apply wpS_seq;apply wpS_region;simp[wpOpsS,go_sem,recoverD,s,ntmps433,Exit.thenS];refine wpS_cond (t:=false) ou ?_;simp only[Bool.false_eq_true,if_false];refine wpS_of_wp (wp_skip ?_);cases k
 simp_all[bodyPostS,results,results433]
namespace fGuardF
abbrev n1d:Nat:=221
theorem q2d:type_of% @func413:= @func413
theorem q3d:type_of% @ntmps413:= @ntmps413
theorem q4d:type_of% @underlying221:= @underlying221
abbrev n5d:Nat:=433
theorem q6d:type_of% @uU:= @uU
end fGuardF
namespace fGuardF
end fGuardF
theorem uV(p q:Value)(w:World):
  CallsD prog 352 #[p,q] .returning w fun e j w'=>e=.returned (.tuple #[])/\j=.returning/\w'=w:=by
 refine callsD_of_wpS func352 rfl fun k cs s=>?_;apply wpS_seq;apply wpS_region;simp[wpOpsS,go_sem,recoverD,s,ntmps352,Exit.thenS];refine wpS_cond (t:=false) ou ?_;simp only[Bool.false_eq_true,if_false];refine wpS_of_wp (wp_skip ?_);cases k
 simp_all[bodyPostS,results,results352]
namespace fGuardF
theorem zcV:type_of% @func285:= @func285
theorem zcW:type_of% @ntmps285:= @ntmps285
abbrev zcX:Nat:=352
theorem zcY:type_of% @uV:= @uV
theorem zcZ:type_of% @results285:= @results285
end fGuardF
open fGuardF in
theorem Tb{w:World}(xs:List Value)(hxs:(prog.info? 221).map (·.size)=some xs.length)(j:Nat)(q:Array Value)(ent:∀args w,(callFunc j args).run prog w=.ok (.enter j args) w)
  (n cd:Int) (hf:∀p,Below w.heap.size w p->Calls prog j (#[.agg xs.toArray]++q) p (xi p n cd)):
  Calls prog 285 #[.func (.func j) #[] q,.agg xs.toArray] w (xi w n cd):=vm
theorem wL{P:Prop}(h:P:=by
 have ent:=hfi.1;have H:=Y3 hx hfi.2 hx0;have hua:Upd (fun _=>False) w (w.alloc (.cells xs.toArray n1e)):=(uur _ _).alloc _;have hr:=zf (zc w (.cells xs.toArray n1e) rfl);have c0:=hua.jU hg id;have c5:=hua.jU h.c.2.2.2.2.2 id;have HU:=qqh hua;clear hx hfi h hg hua hx0;go_enter q2e,q3e
 go_wp2_with fail
 generalize w.alloc (.cells xs.toArray n1e)=w1 at*;obtain⟨m,hm⟩:=qqe (w.heap.size);rw[<-hm];rw[<-hm]at hr;have HM:=qqh hm;clear hm;refine qZd (S:=fun W=>W.cell? ⟨g,0,none⟩=some (.pointer (some ⟨l,0,none⟩))/\W.cell? ⟨l,5,none⟩=some (.func (.func fi) #[] #[])/\W.rangeAt m 0 xs) kR (⟨by rw[qYi];exact c0,by rw[qYi];exact c5,by rw[qYk];exact hr⟩) (fun hHeld=>?_);refine Wl.i [0,1,2,3] ?_;iterate 4 refine Wl.t hHeld ?_
 refine Wl.o ?_;refine Wl.l 4 (fun w h=>h.2.2) q4e H.o.1 hHeld ?_;refine Wl.r 5 (fun K hK=>?_);go_simp
 refine(H.o.2.1 _ a xs H.o.2.2 H.o.1).mono ?_;rintro e w2 ⟨rfl,hb2⟩;refine hK.o _ _ (⟨(uuo (S:=fun _=>False) hb2).jU hHeld.1 id,(uuo (S:=fun _=>False) hb2).jU hHeld.2.1 id,Below.range hb2 hHeld.2.2⟩) (fun hHeld2=>?_);clear hK K;refine Wl.r 6 (fun K hK=>?_);go_simp
 refine hK.o _ _ (hHeld2) (fun _=>?_);clear hK K;refine Wl.r 7 (fun K hK=>?_);go_simp
 refine hK.o _ _ (hHeld2) (fun _=>?_);clear hK K;refine Wl.d ?_;have HB:=qqh (yj hb2);have hlt:=HU.o.size;clear hb2 hHeld hHeld2 c0 c5 hr;go_wp2
 go_ret2
 exact⟨rfl,(Upd.below HU.o).trans (HB.o.mono HU.o.size)⟩):P:=h
theorem XF{P:Prop}(h:P:=by
 have hmf:=qqf;have hu:Upd (fun _=>False) w ((w.alloc (.cells #[.pointer (some ⟨l,0,none⟩)] n5e)).alloc (.cells xs.toArray n1e)):=((uur _ w).alloc _).alloc _;have c0:((w.alloc (.cells #[.pointer (some ⟨l,0,none⟩)] n5e)).alloc (.cells xs.toArray n1e)).cell? ⟨w.heap.size,0,none⟩=some (.pointer (some ⟨l,0,none⟩)):=zl (za (zc w _ rfl) 0) _;have hr:((w.alloc (.cells #[.pointer (some ⟨l,0,none⟩)] n5e)).alloc (.cells xs.toArray n1e)).rangeAt (w.heap.size+1) 0 xs:=zf (zc _ _ oe);have H:=Y5 (h.keep hu id) hfi hx0 hx hu;clear h hfi hx0 hx hu;go_enter q6e,q7e
 go_wp2_with (first
  |(refine qZa rfl _ _ rfl _ _ rfl _ _ hr q4e rfl H.o.2.2.2.1 ?_)
  |fail)
 generalize (w.alloc (.cells #[.pointer (some ⟨l,0,none⟩)] n5e)).alloc (.cells xs.toArray n1e)=w2 at*;refine(q8e xs H.o.2.2.2.1 n9e #[.pointer (some ⟨w.heap.size,0,none⟩)] (fun _ _=>rfl) a 0 ?_).mono ?_
 .intro W hW;exact zda (H.o.1.below hW) ((uuo (S:=fun _=>False) hW).jU c0 id) H.o.2.1 a xs H.o.2.2.1 H.o.2.2.2.1
 .rintro e w3 ⟨rfl,hb3⟩;have HB:=qqh hb3;clear hb3 c0 hr;go_wp2
  go_ret2
  exact⟨rfl,(Upd.below H.o.2.2.2.2).trans (HB.o.mono H.o.2.2.2.2.size)⟩):P:=h
theorem vn{P:Prop}(h:P:=by
 have hfl:=h.good.fl;have e1:=VC zdb _ _ _ zdc;have e2:=VC zdd _ _ _ zde;have e3:=VC zdf _ _ _ zdg;have q1:decide ((base:Int)<0)=false:=oe;have q2:decide ((n:Int)<1)=false:=by simp;omega
 have q3:decide ((F.length:Int)<(base:Int))=false:=by simp;omega
 have q4:decide ((F.length:Int)-(base:Int)<(n:Int))=false:=by simp;omega
 have H:=qqh h;clear h;go_enter zdh,zdi
 go_wp2_with (first|(go_at_call 55;refine(tT H.o).mono ?_;rintro e w' ⟨rfl,rfl⟩))
 go_ret2
 exact⟨rfl,⟨zc _ _ rfl⟩,(qxl _ _).alloc (qXp _) _⟩):P:=h
structure LogI(w:World)(l b base n fi:Nat):Prop where
 str:w.heap[l]?=some (.cells #[.pointer (some ⟨b,0,none⟩),.int .i64 (base:Int),.int .i64 (n:Int),.func (.func 116) #[] #[],.func (.func 117) #[] #[],.func (.func fi) #[] #[]] 303 (0,0))
theorem LogI.lt(h:LogI w l b base n fi):l<w.heap.size:=zd h.str
theorem LogI.keep(h:LogI w l b base n fi)(j:Upd S w w')(k:¬S l):LogI w' l b base n fi:=⟨(j.block l h.lt k).trans h.str⟩
theorem LogI.below(h:LogI w l b base n fi)(j:Below w.heap.size w w'):LogI w' l b base n fi:=h.keep (uuo (S:=fun _=>False) j) id
theorem LogI.c(h:LogI w l b base n fi):w.cell? ⟨l,0,none⟩=some (.pointer (some ⟨b,0,none⟩))/\w.cell? ⟨l,1,none⟩=some (.int .i64 (base:Int))/\w.cell? ⟨l,2,none⟩=some (.int .i64 (n:Int))/\
  w.cell? ⟨l,3,none⟩=some (.func (.func 116) #[] #[])/\w.cell? ⟨l,4,none⟩=some (.func (.func 117) #[] #[])/\w.cell? ⟨l,5,none⟩=some (.func (.func fi) #[] #[]):=
 ⟨za h.str 0,za h.str 1,za h.str 2,za h.str 3,za h.str 4,za h.str 5⟩
def ZY(fi:Nat):Prop:=(∀args w,(callFunc fi args).run prog w=.ok (.enter fi args) w)/\∀(W:World) (a:Int) (xs:List Value),xs[0]?=some (.int .i64 a)->(prog.info? 107).map (·.size)=some xs.length->
 Calls prog fi #[.agg xs.toArray] W fun e W'=>e=.returned (.int .i64 a)/\Below W.heap.size W W'
namespace fLogI
abbrev n1e:Nat:=107
theorem q2e:type_of% @func332:= @func332
theorem q3e:type_of% @ntmps332:= @ntmps332
theorem q4e:type_of% @underlying107:= @underlying107
end fLogI
open fLogI in
theorem XG{w:World}{l g b base n fi:Nat}(h:LogI w l b base n fi)(hg:w.cell? ⟨g,0,none⟩=some (.pointer (some ⟨l,0,none⟩)))(hfi:ZY fi)(a:Int)(xs:List Value)(hx0:xs[0]?=some (.int .i64 a))(hx:(prog.info? 107).map (·.size)=some xs.length):
  Calls prog 332 #[.agg xs.toArray,.pointer (some ⟨g,0,none⟩)] w (xi w a 0):=wL
namespace fLogI
abbrev n5e:Nat:=89
theorem q6e:type_of% @func264:= @func264
theorem q7e:type_of% @ntmps264:= @ntmps264
theorem q8e:type_of% @UZ:= @UZ
abbrev n9e:Nat:=332
theorem zda:type_of% @XG:= @XG
end fLogI
open fLogI in
theorem zav(h:LogI w l b base n fi)(hfi:ZY fi)(a:Int)(xs:List Value)(hx0:xs[0]?=some (.int .i64 a))(hx:(prog.info? 107).map (·.size)=some xs.length):
  Calls prog 264 #[.pointer (some ⟨l,0,none⟩),.agg xs.toArray] w (xi w a 0):=XF
theorem VC(T:TypeId)(a b c)(k:prog.underlying T=some (.func a b c))(w:World)(h:Fn)(xs j:Array Value):(binOp .eql T (.func h xs j) .nilFunc).run prog w=.ok (.bool false) w:=by
 have:∀d,(Op.equalIn (d+1) T (.func h xs j) .nilFunc).run prog w=.ok false w:=fun d=>by simp[Op.equalIn,run_underlying k]
 simp only[binOp];simp[Op.equal,Op.maxDepth,this 9999]
namespace fLogI
abbrev zdb:Nat:=207
theorem zdc:type_of% @underlying207:= @underlying207
abbrev zdd:Nat:=208
theorem zde:type_of% @underlying208:= @underlying208
abbrev zdf:Nat:=209
theorem zdg:type_of% @underlying209:= @underlying209
theorem zdh:type_of% @func115:= @func115
theorem zdi:type_of% @ntmps115:= @ntmps115
end fLogI
open fLogI in
theorem zaw(h:Dv S w b F O P)(base n:Nat)(j:1<=n)(k:base+n<=F.length)(fi:Nat):
  Calls prog 115 #[.pointer (some ⟨b,0,none⟩),.int .i64 (base:Int),.int .i64 (n:Int),.func (.func 116) #[] #[],.func (.func 117) #[] #[],.func (.func fi) #[] #[]] w
   fun e w'=>e=.returned (.tuple #[.pointer (some ⟨w.heap.size,0,none⟩),.int .i64 0])/\LogI w' w.heap.size b base n fi/\Below w.heap.size w w':=vn
structure LogC(w:World)(l b base n fi:Nat):Prop where
 str:w.heap[l]?=some (.cells #[.pointer (some ⟨b,0,none⟩),.int .i64 (base:Int),.int .i64 (n:Int),.func (.func 120) #[] #[],.func (.func 121) #[] #[],.func (.func fi) #[] #[]] 313 (0,0))
theorem LogC.lt(h:LogC w l b base n fi):l<w.heap.size:=zd h.str
theorem LogC.keep(h:LogC w l b base n fi)(j:Upd S w w')(k:¬S l):LogC w' l b base n fi:=⟨(j.block l h.lt k).trans h.str⟩
theorem LogC.c(h:LogC w l b base n fi):w.cell? ⟨l,0,none⟩=some (.pointer (some ⟨b,0,none⟩))/\w.cell? ⟨l,1,none⟩=some (.int .i64 (base:Int))/\w.cell? ⟨l,2,none⟩=some (.int .i64 (n:Int))/\
  w.cell? ⟨l,3,none⟩=some (.func (.func 120) #[] #[])/\w.cell? ⟨l,4,none⟩=some (.func (.func 121) #[] #[])/\w.cell? ⟨l,5,none⟩=some (.func (.func fi) #[] #[]):=
 ⟨za h.str 0,za h.str 1,za h.str 2,za h.str 3,za h.str 4,za h.str 5⟩
def zdj(fi:Nat):Prop:=(∀args w,(callFunc fi args).run prog w=.ok (.enter fi args) w)/\∀(W:World) (a:Int) (xs:List Value),xs[0]?=some (.int .i64 a)->(prog.info? 213).map (·.size)=some xs.length->
 Calls prog fi #[.agg xs.toArray] W fun e W'=>e=.returned (.int .i64 a)/\Below W.heap.size W W'
namespace fLogC
abbrev n1e:Nat:=213
theorem q2e:type_of% @func283:= @func283
theorem q3e:type_of% @ntmps283:= @ntmps283
theorem q4e:type_of% @underlying213:= @underlying213
end fLogC
open fLogC in
theorem XH{w:World}{l g b base n fi:Nat}(h:LogC w l b base n fi)(hg:w.cell? ⟨g,0,none⟩=some (.pointer (some ⟨l,0,none⟩)))(hfi:zdj fi)(a:Int)(xs:List Value)(hx0:xs[0]?=some (.int .i64 a))(hx:(prog.info? 213).map (·.size)=some xs.length):
  Calls prog 283 #[.agg xs.toArray,.pointer (some ⟨g,0,none⟩)] w (xi w a 0):=wL
namespace fLogC
abbrev n5e:Nat:=90
theorem q6e:type_of% @func224:= @func224
theorem q7e:type_of% @ntmps224:= @ntmps224
theorem q8e:type_of% @Ta:= @Ta
abbrev n9e:Nat:=283
theorem zda:type_of% @XH:= @XH
end fLogC
namespace fLogC
abbrev zdb:Nat:=214
theorem zdc:type_of% @underlying214:= @underlying214
abbrev zdd:Nat:=215
theorem zde:type_of% @underlying215:= @underlying215
abbrev zdf:Nat:=216
theorem zdg:type_of% @underlying216:= @underlying216
theorem zdh:type_of% @func119:= @func119
theorem zdi:type_of% @ntmps119:= @ntmps119
end fLogC
open fLogC in
theorem zax(h:Dv S w b F O P)(base n:Nat)(j:1<=n)(k:base+n<=F.length)(fi:Nat):
  Calls prog 119 #[.pointer (some ⟨b,0,none⟩),.int .i64 (base:Int),.int .i64 (n:Int),.func (.func 120) #[] #[],.func (.func 121) #[] #[],.func (.func fi) #[] #[]] w
   fun e w'=>e=.returned (.tuple #[.pointer (some ⟨w.heap.size,0,none⟩),.int .i64 0])/\LogC w' w.heap.size b base n fi/\Below w.heap.size w w':=vn
structure LogF(w:World)(l b base n fi:Nat):Prop where
 str:w.heap[l]?=some (.cells #[.pointer (some ⟨b,0,none⟩),.int .i64 (base:Int),.int .i64 (n:Int),.func (.func 124) #[] #[],.func (.func 125) #[] #[],.func (.func fi) #[] #[]] 322 (0,0))
theorem LogF.lt(h:LogF w l b base n fi):l<w.heap.size:=zd h.str
theorem LogF.keep(h:LogF w l b base n fi)(j:Upd S w w')(k:¬S l):LogF w' l b base n fi:=⟨(j.block l h.lt k).trans h.str⟩
theorem LogF.c(h:LogF w l b base n fi):w.cell? ⟨l,0,none⟩=some (.pointer (some ⟨b,0,none⟩))/\w.cell? ⟨l,1,none⟩=some (.int .i64 (base:Int))/\w.cell? ⟨l,2,none⟩=some (.int .i64 (n:Int))/\
  w.cell? ⟨l,3,none⟩=some (.func (.func 124) #[] #[])/\w.cell? ⟨l,4,none⟩=some (.func (.func 125) #[] #[])/\w.cell? ⟨l,5,none⟩=some (.func (.func fi) #[] #[]):=
 ⟨za h.str 0,za h.str 1,za h.str 2,za h.str 3,za h.str 4,za h.str 5⟩
def zdk(fi:Nat):Prop:=(∀args w,(callFunc fi args).run prog w=.ok (.enter fi args) w)/\∀(W:World) (a:Int) (xs:List Value),xs[0]?=some (.int .i64 a)->(prog.info? 221).map (·.size)=some xs.length->
 Calls prog fi #[.agg xs.toArray] W fun e W'=>e=.returned (.int .i64 a)/\Below W.heap.size W W'
namespace fLogF
abbrev n1e:Nat:=221
theorem q2e:type_of% @func286:= @func286
theorem q3e:type_of% @ntmps286:= @ntmps286
theorem q4e:type_of% @underlying221:= @underlying221
end fLogF
open fLogF in
theorem XI{w:World}{l g b base n fi:Nat}(h:LogF w l b base n fi)(hg:w.cell? ⟨g,0,none⟩=some (.pointer (some ⟨l,0,none⟩)))(hfi:zdk fi)(a:Int)(xs:List Value)(hx0:xs[0]?=some (.int .i64 a))(hx:(prog.info? 221).map (·.size)=some xs.length):
  Calls prog 286 #[.agg xs.toArray,.pointer (some ⟨g,0,none⟩)] w (xi w a 0):=wL
namespace fLogF
abbrev n5e:Nat:=91
theorem q6e:type_of% @func226:= @func226
theorem q7e:type_of% @ntmps226:= @ntmps226
theorem q8e:type_of% @Tb:= @Tb
abbrev n9e:Nat:=286
theorem zda:type_of% @XI:= @XI
end fLogF
namespace fLogF
abbrev zdb:Nat:=222
theorem zdc:type_of% @underlying222:= @underlying222
abbrev zdd:Nat:=223
theorem zde:type_of% @underlying223:= @underlying223
abbrev zdf:Nat:=224
theorem zdg:type_of% @underlying224:= @underlying224
theorem zdh:type_of% @func123:= @func123
theorem zdi:type_of% @ntmps123:= @ntmps123
end fLogF
open fLogF in
theorem zay(h:Dv S w b F O P)(base n:Nat)(j:1<=n)(k:base+n<=F.length)(fi:Nat):
  Calls prog 123 #[.pointer (some ⟨b,0,none⟩),.int .i64 (base:Int),.int .i64 (n:Int),.func (.func 124) #[] #[],.func (.func 125) #[] #[],.func (.func fi) #[] #[]] w
   fun e w'=>e=.returned (.tuple #[.pointer (some ⟨w.heap.size,0,none⟩),.int .i64 0])/\LogF w' w.heap.size b base n fi/\Below w.heap.size w w':=vn
theorem zy{p:Nat}{cs:Array Value}{t:TypeId}(h:w.heap[p]?=some (.cells cs t (0,0)))(j:n<=cs.size):w.there p 0 n:=fun k q=>by
 rw[za h,zg h];exact⟨by rw[qXy,qxe oM];rfl,rfl⟩
theorem yn{p:Nat}{x y:Bk}{t:TypeId}(h:w.heap[p]?=some (.cells (bkC x).toArray t (0,0)))(hx:x.length=64)(hy:y.length=64):(w.setCells p 0 (bkC y)).heap[p]?=some (.cells (bkC y).toArray t (0,0)):=by
 obtain⟨k,h2,s,q⟩:=zC (bkC y) 0 w p _ t (0,0) h;rw[h2];have:k=(bkC y).toArray:=by
  apply qxd
  intro j;have e:(bkC y).toArray[j]?=(bkC y)[j]?:=oe;rw[q j,e,zn,hy,zm _ hx];by_cases v:j<64
  .rw [if_pos ⟨oM,oM,oM⟩];rfl
  .rw [if_neg oM,qxf (by rw[zm _ hx];omega),qyk (by rw[zn,hy];omega)]
 rw[this]
def Ja(T:Nat->Prop)(b:Nat)(F:List Bk)(O:List (Nat×Bk))(P:List Int)(s:Nat)(w2:World)(s8 s6:Value)(wx:World):Prop:=
 ∃q z cd,s8=.pointer (some ⟨q,0,none⟩)/\s6=.int .i64 cd/\wx.heap[q]?=some (.cells (bkC z).toArray 54 (0,0))/\w2.heap.size<=q/\z=(if fate P=1 then zB else curB F O s)/\cd=(if fate P=1 then 19 else 0)/\z.length=64/\
  Dv (fun j=>T j/\j≠q) wx b F O P.tail/\Upd T w2 wx
theorem vq{P:Prop}(h:P:=by
 obtain⟨Z,hZ⟩:∃Z:List Value,Z=zL:=⟨_,rfl⟩
 have hal:=ZZ;rw[<-hZ];simp only[<-hZ]at hal;have HZZ:Hid (Z=zL/\Z.length=n1z/\Z.toArray.size=n1z/\(prog.info? n2z).map (·.size)=some Z.toArray.size/\(Z.toArray).all (·.oneCell')=true/\(prog.info? n2z).map (·.size)=some Z.length/\∀u∈Z,u.oneCell'=true):=⟨hZ,by rw[hZ];rfl,by rw[hZ];rfl,by rw[hZ];exact q3z,by rw[hZ];exact Tc,by rw[hZ];exact q3z,by rw[hZ];exact zL_one⟩
 clear hZ;have hgA:((w.alloc (.cells Z.toArray n2z)).alloc (.cells Z.toArray n2z)).heap[w.heap.size]?=some (.cells Z.toArray n2z):=by rw[qxk _ _ _ oe];exact zc w _ rfl
 have hgB:((w.alloc (.cells Z.toArray n2z)).alloc (.cells Z.toArray n2z)).heap[w.heap.size+1]?=some (.cells Z.toArray n2z):=zc _ _ oe;have hu1:Upd (fun _=>False) w ((w.alloc (.cells Z.toArray n2z)).alloc (.cells Z.toArray n2z)):=((uur _ w).alloc _).alloc _;have hs1:((w.alloc (.cells Z.toArray n2z)).alloc (.cells Z.toArray n2z)).heap.size=w.heap.size+2:=oe;have hl1:=hl.keep hu1 id;have hN1:=hN.keep hu1 id;have hfl:=hd.good.fl;obtain⟨c0,c1,c2,-,c4,-⟩:=hl1.c;have hd1:Dv (fun j=>S j/\j≠w.heap.size/\j≠w.heap.size+1) ((w.alloc (.cells Z.toArray n2z)).alloc (.cells Z.toArray n2z)) b F O P:=
  (((hd.but (qXp _)).but (q:=w.heap.size+1) oM).keep hu1 (fun _ _ h=>h)).wide (fun j h=>⟨h.1.1,h.1.2,h.2⟩)
 have hn1:∀j,w.heap.size+2<=j->S j/\j≠w.heap.size/\j≠w.heap.size+1:=fun j hj=>⟨hn j oM,oM,oM⟩
 have HAS:Hid (S w.heap.size):=hn _ (qXp _);have hllt:=hl.lt;have HL:=Y8 hl1 hN1 hu1 hd1 hn1 hSl hSN hs1;clear hl hd hn hSl hN hSN hl1 hN1 hu1 hd1 hn1;go_enter q4z,q5z
 .have z1:decide ((an:Int)<0)=false:=oe;have z2:decide ((n:Int)<=(an:Int))=false:=by simp;omega
  go_wp2_with (first
   |(refine zT rfl _ rfl _ hal ?_)
   |fail)
  generalize (w.alloc (.cells Z.toArray n2z)).alloc (.cells Z.toArray n2z)=w1 at*;obtain⟨T,hT⟩:∃T:Nat->Prop,T=fun j=>S j/\j≠w.heap.size/\j≠w.heap.size+1:=⟨_,rfl⟩
  obtain⟨hl1,hN1,hu1,hd1,hn1,hSl,hSN,-⟩:=HL.o;have hTS:∀j,T j->S j:=fun j h=>by rw[hT]at h;exact h.1
  have hTA:¬T w.heap.size:=fun h=>by rw[hT]at h;exact h.2.1 rfl
  have hTA':∀j,T j->j≠w.heap.size:=fun j h e=>hTA (e▸h);have hTB:¬T (w.heap.size+1):=fun h=>by rw[hT]at h;exact h.2.2 rfl
  have hTl:¬T l:=fun h=>hSl (hTS l h);have hTN:¬T 1:=fun h=>hSN (hTS _ h);rw[<-hT]at hd1;replace hn1:∀j,w1.heap.size<=j->T j:=fun j hj=>by rw[hT];exact hn1 j oM
  have HT:=Y13 hTS hTA hTB hTl hTN hd1 hn1 hu1 hl1 hN1 hgA hgB hTA';have hl1lt:=hl1.lt;clear hT hTS hTA hTB hTl hTN hd1 hn1 hu1 hl1 hN1 hgA hgB hSl hSN hTA' hs1
  go_cut [7,8] (fun s7 s8 wx=>Ja T b F O P (base+an) w1 s7 s8 wx)
  case first=>
   have e1:IntKind.i64.wrap ((base:Int)+(an:Int))=((base+an:Nat):Int):=qxt _ oM;refine qZd (S:=fun W=>W.cell? ⟨l,0,none⟩=some (.pointer (some ⟨b,0,none⟩))/\W.cell? ⟨l,1,none⟩=some (.int .i64 (base:Int))) kR (⟨by rw[qYi];exact c0,by rw[qYi];exact c1⟩) (fun hHeld=>?_);refine Wl.i [0,1,2,3,4,5,6,7,8,9] ?_;iterate 10 refine Wl.t hHeld ?_
   refine Wl.o ?_;refine qYy (rs:=[10,14]) kR oe ?_;refine qxb rfl (fun K hK=>?_) (qxb rfl (fun K hK=>?_) qxc)
   .go_simp
    refine(wE (HT.o.2.2.2.2.2.1.keep ((uur (fun _=>False) w1).drew) (fun _ _ h=>h)) (HT.o.2.2.2.2.2.2.1) (base+an) oM).mono ?_;rintro e w7 ⟨z2,cd2,rfl,hz2,hcd2,hz2l,hd7,hu7⟩;have HZ2:=Y2 hz2 hcd2;clear hz2 hcd2;refine hK.o _ _ (⟨hu7.jU hHeld.1 HT.o.2.2.2.1,hu7.jU hHeld.2 HT.o.2.2.2.1⟩) (fun hHeld2=>?_);clear hK K;refine Wl.i [11,12,13] ?_;iterate 3 refine Wl.t hHeld2 ?_
    refine Wl.o ?_;refine Wl.r 14 (fun K hK=>?_);go_simp
    show K _ (w7.alloc (.cells (bkC zB).toArray 54));have hg8:=zc w7 (.cells (bkC zB).toArray 54) rfl;have hu8:Upd (fun _=>False) w7 (w7.alloc (.cells (bkC zB).toArray 54)):=(uur _ _).alloc _;have hw67:w1.heap.size<=w7.heap.size:=hu7.size;have hd8:=(hd7.but (qXp _)).keep hu8 (fun _ _ h=>h);have hU8:Upd T w1 (w7.alloc (.cells (bkC zB).toArray 54)):=((uur _ w1).drew.trans hu7).trans (hu8.mono fE);refine hK.o _ _ (⟨hu8.jU hHeld2.1 id,hu8.jU hHeld2.2 id⟩) (fun hHeld3=>?_);clear hK K;generalize w7.heap.size=q at*;generalize w7.alloc (.cells (bkC zB).toArray 54)=w8 at*;refine Wl.r 15 (fun K hK=>?_);rw[if_pos oA];refine qZe _ _ _ rfl _ _ (List.toArray _) rfl rfl ox ju (qYo (zu _)) ?_;simp only[Act.put,qXd];refine hK.o _ _ (⟨zD hHeld3.1 oM,zD hHeld3.2 oM⟩) (fun hHeld4=>?_);clear hK K;refine Wl.r 16 (fun K hK=>?_);go_simp
    refine hK.o _ _ (hHeld4) (fun _=>?_);clear hK K;refine Wl.d ?_;clear hHeld4 e1;go_wp2_with fail
    go_meet
    case rel=>exact⟨q,z2,cd2,rfl,rfl,yn hg8 zG hz2l,hw67,HZ2.o.1,HZ2.o.2,hz2l,hd8.keep (zo w8 q 0 (bkC z2)) (fun j h e=>h.2 e),hU8.trans ((zo w8 q 0 (bkC z2)).mono (fun j _ e=>e▸HT.o.2.2.2.2.2.2.1 _ hw67))⟩
   .go_simp
    show K _ (w1.drew.alloc (.cells (bkC zB).toArray 54));have hg7:(w1.drew.alloc (.cells (bkC zB).toArray 54)).heap[w1.heap.size]?=some (.cells (bkC zB).toArray 54):=zc w1.drew _ rfl;have hu7a:Upd (fun _=>False) w1 (w1.drew.alloc (.cells (bkC zB).toArray 54)):=((uur _ w1).drew).alloc _;have hd7a:Dv (fun j=>T j/\j≠w1.heap.size) (w1.drew.alloc (.cells (bkC zB).toArray 54)) b F O P:=(HT.o.2.2.2.2.2.1.but (qXp _)).keep hu7a (fun _ _ h=>h);have hs7a:(w1.drew.alloc (.cells (bkC zB).toArray 54)).heap.size=w1.heap.size+1:=oe;refine hK.o _ _ (⟨hu7a.jU c0 id,hu7a.jU c1 id⟩) (fun hHeld2=>?_);clear hK K;generalize w1.drew.alloc (.cells (bkC zB).toArray 54)=w7a at*;refine Wl.r 10 (fun K hK=>?_);go_simp
    refine(wE (hd7a) (fun j hj=>⟨HT.o.2.2.2.2.2.2.1 j oM,oM⟩) (base+an) oM).mono ?_;rintro e w7 ⟨z2,cd2,rfl,hz2,hcd2,hz2l,hd7,hu7⟩;have HZ2:=Y2 hz2 hcd2;clear hz2 hcd2;have hg8:=(hu7.block w1.heap.size (zd hg7) (fun h=>h.2 rfl)).trans hg7;refine hK.o _ _ (⟨hu7.jU hHeld2.1 (fun h=>HT.o.2.2.2.1 h.1),hu7.jU hHeld2.2 (fun h=>HT.o.2.2.2.1 h.1)⟩) (fun hHeld3=>?_);clear hK K;refine Wl.i [11,12,13] ?_;iterate 3 refine Wl.t hHeld3 ?_
    refine Wl.o ?_;refine Wl.r 15 (fun K hK=>?_);rw[if_pos oA];refine qZe _ _ _ rfl _ _ (List.toArray _) rfl rfl ox ju (qYo (zu _)) ?_;simp only[Act.put,qXd];refine hK.o _ _ (⟨zD hHeld3.1 oM,zD hHeld3.2 oM⟩) (fun hHeld4=>?_);clear hK K;refine Wl.r 16 (fun K hK=>?_);go_simp
    refine hK.o _ _ (hHeld4) (fun _=>?_);clear hK K;refine Wl.d ?_;clear hHeld4 e1;go_wp2_with fail
    go_meet
    case rel=>exact⟨w1.heap.size,z2,cd2,rfl,rfl,yn hg8 zG hz2l,qXp _,HZ2.o.1,HZ2.o.2,hz2l,hd7.keep (zo w7 w1.heap.size 0 (bkC z2)) (fun j h e=>h.2 e),((hu7a.mono fE).trans (hu7.mono (fun j _ h=>h.1))).trans ((zo w7 w1.heap.size 0 (bkC z2)).mono (fun j _ e=>e▸HT.o.2.2.2.2.2.2.1 _ (qXp _)))⟩
  case rest=>
   obtain⟨q,v,cd2,rfl,rfl,hgq,hq,hv,hcd2,hvl,hdx,hux⟩:=hcut;have hgA:=(hux.block _ (zd HT.o.2.2.2.2.2.2.2.2.2.2.1) HT.o.2.1).trans HT.o.2.2.2.2.2.2.2.2.2.2.1;have hgB:=(hux.block _ (zd HT.o.2.2.2.2.2.2.2.2.2.2.2.1) HT.o.2.2.1).trans HT.o.2.2.2.2.2.2.2.2.2.2.2.1;have hlx:=HT.o.2.2.2.2.2.2.2.2.1.keep hux HT.o.2.2.2.1;have hNx:=HT.o.2.2.2.2.2.2.2.2.2.1.keep hux HT.o.2.2.2.2.1;have hUx:Upd S w wc:=(HT.o.2.2.2.2.2.2.2.1.mono fE).trans (hux.mono (fun j _ h=>HT.o.1 j h));have hdT:Dv T wc b F O P.tail:=hdx.wide (fun j h=>h.1);have rq:=zf hgq;have c4':=hlx.c.2.2.2.2.1;have HQ:=Y9 hdT hUx hlx hNx hgA hgB hvl hv hcd2;have hqlt:=zd hgq;have hAlt:=zd hgA;have hBlt:=zd hgB;have hllx:=hlx.lt;have rB:=zf hgB;have tA:=zy (n:=n1z) hgA oH;clear hgq hq hv hcd2 hvl hdx hux hlx hNx hUx hdT hgA hgB c0 c1 c2 c4;have e0:cd2=0:=by rw[HQ.o.2.2.2.2.2.2.2.2,if_neg hf]
   have ez:v=curB F O (base+an):=by rw[HQ.o.2.2.2.2.2.2.2.1,if_neg hf]
   subst e0;have h0:v=zB:=ez.trans hz;have hq0:∀W,(Op.equalIn 10000 54 (.agg (bkC v).toArray) (.agg #[.int .u8 0,.int .u8 0,.int .u8 0,.int .u8 0,.int .u8 0,.int .u8 0,.int .u8 0,.int .u8 0,.int .u8 0,.int .u8 0,.int .u8 0,.int .u8 0,.int .u8 0,.int .u8 0,.int .u8 0,.int .u8 0,.int .u8 0,.int .u8 0,.int .u8 0,.int .u8 0,.int .u8 0,.int .u8 0,.int .u8 0,.int .u8 0,.int .u8 0,.int .u8 0,.int .u8 0,.int .u8 0,.int .u8 0,.int .u8 0,.int .u8 0,.int .u8 0,.int .u8 0,.int .u8 0,.int .u8 0,.int .u8 0,.int .u8 0,.int .u8 0,.int .u8 0,.int .u8 0,.int .u8 0,.int .u8 0,.int .u8 0,.int .u8 0,.int .u8 0,.int .u8 0,.int .u8 0,.int .u8 0,.int .u8 0,.int .u8 0,.int .u8 0,.int .u8 0,.int .u8 0,.int .u8 0,.int .u8 0,.int .u8 0,.int .u8 0,.int .u8 0,.int .u8 0,.int .u8 0,.int .u8 0,.int .u8 0,.int .u8 0,.int .u8 0])).run prog W=.ok (v==zB) W:=qr v zB HQ.o.2.2.2.2.2.2.1 zG;have hb0:(v==zB)=true:=by simpa using h0
   have HD:Hid (Dv (fun j=>T j/\j≠w.heap.size) wc b F O P.tail/\Upd S w wc):=⟨(HQ.o.1).wide (fun j h=>⟨h,HT.o.2.2.2.2.2.2.2.2.2.2.2.2 j h⟩),HQ.o.2.1⟩
   clear h0 ez;go_wp2_with (first
    |(refine qZa rfl _ _ rfl _ _ rfl _ _ rq underlying54 rfl (zv _ HQ.o.2.2.2.2.2.2.1) ?_)
    |(refine qZa rfl _ _ rfl _ _ rfl _ _ rB q6z rfl HZZ.o.2.2.2.2.2.1 ?_)
    |(refine qZc rfl _ _ _ rfl _ _ Z.toArray rfl rfl (by rw[HZZ.o.2.2.1];exact tA) HZZ.o.2.2.2.1 HZZ.o.2.2.2.2.1 ?_)
    |fail)
   refine qYq (zp rfl _ _ w.heap.size 0 Z _ rfl (qYl _ _ _ _ jH) q6z rfl HZZ.o.2.2.2.2.2.1) rfl ?_;exact⟨rfl,HD.o.1.keep (zo _ w.heap.size 0 _) (fun j h e=>h.2 e)|>.wide (fun j h=>HT.o.1 j h.1),HD.o.2.trans ((zo _ w.heap.size 0 _).mono (fun j _ e=>e▸HAS.o))⟩):P:=h
theorem vr{P:Prop}(h:P:=by
 have hfl:=hd.good.fl;obtain⟨-,-,c2,-⟩:=hl.c;have H:=Y7 hl hd hn hSl hN hSN hz;clear hl hd hn hSl hN hSN hz;go_enter q7z,q8z
 go_wp2
 go_step3
 go_wp2
 go_step3
 go_wp2
 go_loopg[4,5,15] n (fun gk s4 s5 s15 wr=>∃i:Nat,i+gk=n/\s15=.int .i64 i/\s5=.int .i64 0/\s4=.slice none 0 0/\Dv S wr b F O []/\Upd S w wr)
 case atStart=>exact⟨0,oM,rfl,rfl,rfl,H.o.2.1,uur _ _⟩
 case round=>
  obtain⟨i,hi,rfl,rfl,rfl,hd,hU⟩:=hrel;obtain⟨hl,-,hn,hSl,hN,hSN,hz⟩:=H.o;by_cases hlt:i<n
  .have HG:=qqh (q9z (hl.keep hU hSl) hd (fun j hj=>hn j (qXr hU.size hj)) hSl (hN.keep hU hSN) hSN hbn de hlt (hz i hlt));have HU:=qqh hU;have k1:(i:Int)<(n:Int):=oM;clear hl hd hn hSl hN hSN hz hU;go_wp2_with fail
   refine HG.o.mono ?_;rintro e w9 ⟨rfl,hd9,hU9⟩;have H9:=Y2 hd9 (HU.o.trans hU9);clear hd9 hU9 HG;generalize hZZ:zL=Z at*;have hsz:Hid ((prog.info? n2z).map (·.size)=some Z.length/\Z.length=n1z/\∀u∈Z,u.oneCell'=true):=by subst hZZ;exact⟨q3z,rfl,zL_one⟩
   replace hZZ:=qqh hZZ;go_wp2_with (first
    |(refine zk rfl _ _ _ rfl _ _ _ rfl rfl (by rw[hsz.out.2.1];rfl) hsz.out.1 hsz.out.2.2 ?_)
    |fail)
   obtain⟨hd9,hU9⟩:=H9.o;have hua:Upd (fun _=>False) w9 (w9.alloc (.cells Z.toArray n2z)):=(uur _ _).alloc _;have hd10:=hd9.new hua;have hU10:=hU9.trans (hua.mono fE);generalize w9.alloc (.cells Z.toArray n2z)=w10 at*;go_roundg (gk-1)
   case measure=>omega
   case rel=>exact⟨i+1,oM,by go_num,rfl,rfl,hd10,hU10⟩
  .obtain rfl:i=n:=oM;have k1:¬((i:Int)<(i:Int)):=oM;have HE:=Y2 hd hU;clear hl hd hn hSl hN hSN hz hU;go_wp2_with fail
   try rw[qxq]
   go_ret2
   exact⟨rfl,HE.o.1,HE.o.2⟩):P:=h
def zdl(S:Nat->Prop)(w:World)(b:Nat)(F:List Bk)(O:List (Nat×Bk))(P:List Int)(zs:List Value)(cd:Int)(e:Ending)(w':World):Prop:=
 e=.returned (.tuple #[.agg zs.toArray,.int .i64 cd])/\Dv S w' b F O P/\Upd S w w'
def Qy(S:Nat->Prop)(w:World)(b:Nat)(F:List Bk)(O:List (Nat×Bk))(cd:Int)(e:Ending)(w':World):Prop:=
 e=.returned (.tuple #[.slice none 0 0,.int .i64 cd])/\Dv S w' b F O []/\Upd S w w'
namespace fLogZI
def zL:List Value:=[Value.int .i64 0,Value.int .i64 0,Value.int .i64 0,Value.int .i64 0]
theorem Tc:(zL.toArray).all (·.oneCell')=true:=by simp[zL,Value.oneCell']
theorem zL_one:∀u∈zL,u.oneCell'=true:=by intro u h;simp[zL]at h;subst h;rfl
theorem ZZ(w:World):(Instr.alloc 107 true (.tuple #[])).run prog w=.ok (.pointer (some ⟨w.heap.size,0,none⟩)) (w.alloc (.cells zL.toArray 107)):=by
 kernel_rfl
end fLogZI
namespace fLogZI
abbrev n1z:Nat:=4
abbrev n2z:Nat:=107
theorem q3z:type_of% @wv:= @wv
theorem q4z:type_of% @func199:= @func199
theorem q5z:type_of% @ntmps199:= @ntmps199
theorem q6z:type_of% @underlying107:= @underlying107
end fLogZI
open fLogZI in
theorem Td{S:Nat->Prop}{w:World}{l b base n fi:Nat}{F:List Bk}{O:List (Nat×Bk)}{P:List Int}(hl:LogI w l b base n fi)(hd:Dv S w b F O P)(hn:∀j,w.heap.size<=j->S j)(hSl:¬S l)(hN:Nib w)
  (hSN:¬S 1) (k:base+n<=F.length) (hf:¬fate P=1) {an:Nat} (p:an<n) (hz:curB F O (base+an)=zB):
  Calls prog 199 #[.pointer (some ⟨l,0,none⟩),.int .i64 (an:Int)] w (zdl S w b F O P.tail zL 14):=vq
namespace fLogZI
theorem q7z:type_of% @func127:= @func127
theorem q8z:type_of% @ntmps127:= @ntmps127
theorem q9z:type_of% @Td:= @Td
end fLogZI
open fLogZI in
theorem zaz(hl:LogI w l b base n fi)(hd:Dv S w b F O [])(hn:∀j,w.heap.size<=j->S j)(hSl:¬S l)(hN:Nib w)
  (hSN:¬S 1) (hbn:base+n<=F.length) (hz:∀i,i<n->curB F O (base+i)=zB):
  Calls prog 127 #[.pointer (some ⟨l,0,none⟩)] w (Qy S w b F O 0):=vr
namespace fLogZC
def zL:List Value:=[Value.int .i64 0,Value.int .i64 0,Value.int .i64 0,Value.int .i64 0,Value.int .i64 0,Value.int .i64 0]
theorem Tc:(zL.toArray).all (·.oneCell')=true:=by simp[zL,Value.oneCell']
theorem zL_one:∀u∈zL,u.oneCell'=true:=by intro u h;simp[zL]at h;subst h;rfl
theorem ZZ(w:World):(Instr.alloc 213 true (.tuple #[])).run prog w=.ok (.pointer (some ⟨w.heap.size,0,none⟩)) (w.alloc (.cells zL.toArray 213)):=by
 kernel_rfl
end fLogZC
namespace fLogZC
abbrev n1z:Nat:=6
abbrev n2z:Nat:=213
theorem q3z:type_of% @VA:= @VA
theorem q4z:type_of% @func154:= @func154
theorem q5z:type_of% @ntmps154:= @ntmps154
theorem q6z:type_of% @underlying213:= @underlying213
end fLogZC
open fLogZC in
theorem Ya{S:Nat->Prop}{w:World}{l b base n fi:Nat}{F:List Bk}{O:List (Nat×Bk)}{P:List Int}(hl:LogC w l b base n fi)(hd:Dv S w b F O P)(hn:∀j,w.heap.size<=j->S j)(hSl:¬S l)(hN:Nib w)
  (hSN:¬S 1) (k:base+n<=F.length) (hf:¬fate P=1) {an:Nat} (p:an<n) (hz:curB F O (base+an)=zB):
  Calls prog 154 #[.pointer (some ⟨l,0,none⟩),.int .i64 (an:Int)] w (zdl S w b F O P.tail zL 14):=vq
namespace fLogZC
theorem q7z:type_of% @func160:= @func160
theorem q8z:type_of% @ntmps160:= @ntmps160
theorem q9z:type_of% @Ya:= @Ya
end fLogZC
open fLogZC in
theorem zaA(hl:LogC w l b base n fi)(hd:Dv S w b F O [])(hn:∀j,w.heap.size<=j->S j)(hSl:¬S l)(hN:Nib w)
  (hSN:¬S 1) (hbn:base+n<=F.length) (hz:∀i,i<n->curB F O (base+i)=zB):
  Calls prog 160 #[.pointer (some ⟨l,0,none⟩)] w (Qy S w b F O 0):=vr
namespace fLogZF
def zL:List Value:=[Value.int .i64 0,Value.int .i64 0,Value.int .i64 0,Value.int .i64 0,Value.int .i64 0,Value.int .i64 0,Value.int .i64 0,Value.int .i64 0,Value.int .i64 0,Value.int .i64 0,Value.int .i64 0,Value.int .i64 0,Value.int .i64 0]
theorem Tc:(zL.toArray).all (·.oneCell')=true:=by simp[zL,Value.oneCell']
theorem zL_one:∀u∈zL,u.oneCell'=true:=by intro u h;simp[zL]at h;subst h;rfl
theorem ZZ(w:World):(Instr.alloc 221 true (.tuple #[])).run prog w=.ok (.pointer (some ⟨w.heap.size,0,none⟩)) (w.alloc (.cells zL.toArray 221)):=by
 kernel_rfl
end fLogZF
namespace fLogZF
abbrev n1z:Nat:=13
abbrev n2z:Nat:=221
theorem q3z:type_of% @VB:= @VB
theorem q4z:type_of% @func155:= @func155
theorem q5z:type_of% @ntmps155:= @ntmps155
theorem q6z:type_of% @underlying221:= @underlying221
end fLogZF
open fLogZF in
theorem Yb{S:Nat->Prop}{w:World}{l b base n fi:Nat}{F:List Bk}{O:List (Nat×Bk)}{P:List Int}(hl:LogF w l b base n fi)(hd:Dv S w b F O P)(hn:∀j,w.heap.size<=j->S j)(hSl:¬S l)(hN:Nib w)
  (hSN:¬S 1) (k:base+n<=F.length) (hf:¬fate P=1) {an:Nat} (p:an<n) (hz:curB F O (base+an)=zB):
  Calls prog 155 #[.pointer (some ⟨l,0,none⟩),.int .i64 (an:Int)] w (zdl S w b F O P.tail zL 14):=vq
namespace fLogZF
theorem q7z:type_of% @func200:= @func200
theorem q8z:type_of% @ntmps200:= @ntmps200
theorem q9z:type_of% @Yb:= @Yb
end fLogZF
open fLogZF in
theorem zaB(hl:LogF w l b base n fi)(hd:Dv S w b F O [])(hn:∀j,w.heap.size<=j->S j)(hSl:¬S l)(hN:Nib w)
  (hSN:¬S 1) (hbn:base+n<=F.length) (hz:∀i,i<n->curB F O (base+i)=zB):
  Calls prog 200 #[.pointer (some ⟨l,0,none⟩)] w (Qy S w b F O 0):=vr
end Go.Proofs.YtbnpkobbnjihjaaGreatDoor
