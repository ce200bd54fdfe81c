/- Functions that -/
import Derived.Test.YtfhfbpmlnjdfoaaGreatDoorG13
set_option maxRecDepth 100000
set_option maxHeartbeats 2000000
namespace Go.Proofs.YtfhfbpmlnjdfoaaGreatDoor
open Go Go.RowKit Tryz
theorem xN{P:Program}{fn:Func}{p q:Tmp}{ty ty2:TypeId}(h:fn.results= #[.cell p ty,.cell q ty2])(tmps:Array Value)(w:World)(b o:Nat)(cs:List Value)(d:TypeDesc)
  (hp:tmps.getD p undef=.pointer (some ⟨b,o,none⟩)) (hc:w.rangeAt b o cs) (hu:P.underlying ty=some d) (hd:d.isRow=true) (hi:(P.info? ty).map (·.size)=some cs.length)
  (g:Nat) (v:Value) (hq:tmps.getD q undef=.pointer (some ⟨g,0,none⟩)) (hv:(loadVar ty2 ⟨g,0,none⟩).run P w=.ok v w):
  (results fn tmps).run P w=.ok (.tuple #[.agg cs.toArray,v]) w:=by
 have hp':tmps[p]?.getD undef=.pointer (some ⟨b,o,none⟩):=by simpa using hp
 have hq':tmps[q]?.getD undef=.pointer (some ⟨g,0,none⟩):=by simpa using hq
 simp[results,h,hp',hq',asAddr,run_loadVar_mid w b o ty cs d hc hu hd hi,hv,Sem.run_bind,Result.andThen]
theorem vX{w:World}{g:Nat}{cd:Int}(h:w.cell? ⟨g,0,none⟩=some (.int .i64 cd)):(loadVar 28 ⟨g,0,none⟩).run prog w=.ok (.int .i64 cd) w:=by
 simp[go_sem,h]
def yX(w:World)(R:List Value->Int->Prop)(e:Ending)(w':World):Prop:=∃ys cd,R ys cd/\e=.returned (.tuple #[.agg ys.toArray,.int .i64 cd])/\Below w.heap.size w w'
namespace fGuardI
end fGuardI
open fGuardI in
theorem ZJ(p q:Value)(w:World):
  CallsD prog 286 #[p,q] .returning w fun e u' w'=>e=.returned (.tuple #[])/\u'=.returning/\w'=w:=by
 refine callsD_of_wpS func286 rfl fun c₀ cs hu=>?_;apply wpS_seq;apply wpS_region;simp[wpOpsS,go_sem,recoverD,hu,ntmps286,Exit.thenS];refine wpS_cond (t:=false) oG ?_;simp only[Bool.false_eq_true,if_false];refine wpS_of_wp (wp_skip ?_);cases c₀
 simp_all[bodyPostS,results,results286]
theorem VM{w:World}(xs:List Value)(hxs:(prog.info? 54).map (·.size)=some xs.length)(ff:Nat)(cc:Array Value)(ent:∀args w,(callFunc ff args).run prog w=.ok (.enter ff args) w)
  (R:List Value->Int->Prop) (hR:∀ys cd,R ys cd->ys.length=4/\∀v∈ys,v.oneCell'=true)
  (hf:∀W,Below w.heap.size w W->Calls prog ff (#[.agg xs.toArray]++cc) W (yX W R)):
  Calls prog 220 #[.func (.func ff) #[] cc,.agg xs.toArray] w (yX w R):=by
 have hmf:=qqf;have HF:=Y3 hf hR hxs;clear hf hR hxs;have hr:=zh (zc w (.cells xs.toArray 54) rfl)
 go_enter_defers func220,ntmps220
 go_wp2_with (first
  |(refine qZg rfl _ _ rfl _ _ rfl _ _ (qYp (qYp hr _) _) underlying54 rfl HF.o.2.2 ?_)
  |fail)
 show Calls _ _ _ (((w.alloc (.cells xs.toArray 54)).alloc (.cells [Value.int .i64 0,Value.int .i64 0,Value.int .i64 0,Value.int .i64 0].toArray 154)).alloc (.cells #[.int .i64 0] 28)) _;obtain⟨h1,h2,h3,h4,h5⟩:=yJ w (.cells xs.toArray 54) (.cells [Value.int .i64 0,Value.int .i64 0,Value.int .i64 0,Value.int .i64 0].toArray 154) (.cells #[.int .i64 0] 28);clear hr;generalize ((w.alloc (.cells xs.toArray 54)).alloc (.cells [Value.int .i64 0,Value.int .i64 0,Value.int .i64 0,Value.int .i64 0].toArray 154)).alloc (.cells #[.int .i64 0] 28)=w3 at*;refine(HF.o.1 w3 (Upd.below h5)).mono ?_;rintro e w4 ⟨ys,cd,hRR,rfl,hb4⟩;have g2:=(hb4.block _ (zf h2)).trans h2;have g3:=(hb4.block _ (zf h3)).trans h3;have hyl:=HF.o.2.1 ys cd hRR;have hth:w4.there (w.heap.size+1) 0 4:=fun j hj=>by
  rw[za g2,zg g2];exact⟨by rw[qYe,qxe ow];rfl,rfl⟩
 have hst:w4.there (w.heap.size+1) 0 ys.toArray.size:=by rw[show ys.toArray.size=4 by simpa using hyl.1];exact hth
 have hsz2:(prog.info? 154).map (·.size)=some ys.toArray.size:=by rw[show ys.toArray.size=4 by simpa using hyl.1];exact uS
 have g3':=((zq w4 (w.heap.size+1) 0 ys).block (w.heap.size+1+1) (zf g3) oM).trans g3;have c3:(w4.setCells (w.heap.size+1) 0 ys).cell? ⟨w.heap.size+1+1,0,none⟩=some (.int .i64 0):=za g3' 0;have z3:=zg g3' 0;have HX:=Y8 hst hsz2 hyl hRR hb4 h5 h4 hth;clear hst hsz2 hyl hRR hb4 h5 h4 h1 h2 h3 g2 g3 hth;go_wp2_with (first
  |(refine qZi rfl _ _ _ rfl _ _ ys.toArray rfl rfl HX.o.1 HX.o.2.1 (qYu HX.o.2.2.1.2) ?_)
  |fail)
 refine leaves_cons (f:=286) (args:= #[.pointer (some ⟨w.heap.size+1,0,none⟩),.pointer (some ⟨w.heap.size+1+1,0,none⟩)]) oe jM ?_;refine(ZJ _ _ _).mono ?_;rintro e u' w'' ⟨rfl,rfl,rfl⟩;simp[Leaves,settle];have hst2:w4.there (w.heap.size+1) 0 ys.length:=by rw[HX.o.2.2.1.1];exact HX.o.2.2.2.2.2.2.2
 have r1:=qYr w4 (w.heap.size+1) 0 ys hst2;have r2:((w4.setCells (w.heap.size+1) 0 ys).setCell ⟨w.heap.size+1+1,0,none⟩ (.int .i64 cd)).rangeAt (w.heap.size+1) 0 ys:=zA r1 oM;have c4:((w4.setCells (w.heap.size+1) 0 ys).setCell ⟨w.heap.size+1+1,0,none⟩ (.int .i64 cd)).cell? ⟨w.heap.size+1+1,0,none⟩=some (.int .i64 cd):=World.cell?_setCell_same _ _ _ c3;refine⟨_,xN rfl _ _ (w.heap.size+1) 0 ys _ rfl r2 underlying154 rfl (by rw[HX.o.2.2.1.1];exact uS) (w.heap.size+1+1) _ rfl (vX c4),⟨ys,cd,HX.o.2.2.2.1,rfl,?_⟩⟩;refine zk (zk ((Upd.below HX.o.2.2.2.2.2.1).trans (HX.o.2.2.2.2.1.mono HX.o.2.2.2.2.2.1.size)) (zq w4 (w.heap.size+1) 0 ys) (qXv _) (fun k e=>oM)) (zj _ (w.heap.size+1+1) 0 _) (qXv _) (fun k e=>oM)
namespace fGuardI
end fGuardI
theorem ZK:(prog.info? 159).map (·.size)=some 6:=kR
namespace fGuardC
end fGuardC
open fGuardC in
theorem ZL(p q:Value)(w:World):
  CallsD prog 289 #[p,q] .returning w fun e u' w'=>e=.returned (.tuple #[])/\u'=.returning/\w'=w:=by
 refine callsD_of_wpS func289 rfl fun c₀ cs hu=>?_;apply wpS_seq;apply wpS_region;simp[wpOpsS,go_sem,recoverD,hu,ntmps289,Exit.thenS];refine wpS_cond (t:=false) oG ?_;simp only[Bool.false_eq_true,if_false];refine wpS_of_wp (wp_skip ?_);cases c₀
 simp_all[bodyPostS,results,results289]
theorem VN{w:World}(xs:List Value)(hxs:(prog.info? 54).map (·.size)=some xs.length)(ff:Nat)(cc:Array Value)(ent:∀args w,(callFunc ff args).run prog w=.ok (.enter ff args) w)
  (R:List Value->Int->Prop) (hR:∀ys cd,R ys cd->ys.length=6/\∀v∈ys,v.oneCell'=true)
  (hf:∀W,Below w.heap.size w W->Calls prog ff (#[.agg xs.toArray]++cc) W (yX W R)):
  Calls prog 222 #[.func (.func ff) #[] cc,.agg xs.toArray] w (yX w R):=by
 have hmf:=qqf;have HF:=Y3 hf hR hxs;clear hf hR hxs;have hr:=zh (zc w (.cells xs.toArray 54) rfl)
 go_enter_defers func222,ntmps222
 go_wp2_with (first
  |(refine qZg rfl _ _ rfl _ _ rfl _ _ (qYp (qYp hr _) _) underlying54 rfl HF.o.2.2 ?_)
  |fail)
 show Calls _ _ _ (((w.alloc (.cells xs.toArray 54)).alloc (.cells [Value.int .i64 0,Value.int .i64 0,Value.int .i64 0,Value.int .i64 0,Value.int .i64 0,Value.int .i64 0].toArray 159)).alloc (.cells #[.int .i64 0] 28)) _;obtain⟨h1,h2,h3,h4,h5⟩:=yJ w (.cells xs.toArray 54) (.cells [Value.int .i64 0,Value.int .i64 0,Value.int .i64 0,Value.int .i64 0,Value.int .i64 0,Value.int .i64 0].toArray 159) (.cells #[.int .i64 0] 28);clear hr;generalize ((w.alloc (.cells xs.toArray 54)).alloc (.cells [Value.int .i64 0,Value.int .i64 0,Value.int .i64 0,Value.int .i64 0,Value.int .i64 0,Value.int .i64 0].toArray 159)).alloc (.cells #[.int .i64 0] 28)=w3 at*;refine(HF.o.1 w3 (Upd.below h5)).mono ?_;rintro e w4 ⟨ys,cd,hRR,rfl,hb4⟩;have g2:=(hb4.block _ (zf h2)).trans h2;have g3:=(hb4.block _ (zf h3)).trans h3;have hyl:=HF.o.2.1 ys cd hRR;have hth:w4.there (w.heap.size+1) 0 6:=fun j hj=>by
  rw[za g2,zg g2];exact⟨by rw[qYe,qxe ow];rfl,rfl⟩
 have hst:w4.there (w.heap.size+1) 0 ys.toArray.size:=by rw[show ys.toArray.size=6 by simpa using hyl.1];exact hth
 have hsz2:(prog.info? 159).map (·.size)=some ys.toArray.size:=by rw[show ys.toArray.size=6 by simpa using hyl.1];exact ZK
 have g3':=((zq w4 (w.heap.size+1) 0 ys).block (w.heap.size+1+1) (zf g3) oM).trans g3;have c3:(w4.setCells (w.heap.size+1) 0 ys).cell? ⟨w.heap.size+1+1,0,none⟩=some (.int .i64 0):=za g3' 0;have z3:=zg g3' 0;have HX:=Y8 hst hsz2 hyl hRR hb4 h5 h4 hth;clear hst hsz2 hyl hRR hb4 h5 h4 h1 h2 h3 g2 g3 hth;go_wp2_with (first
  |(refine qZi rfl _ _ _ rfl _ _ ys.toArray rfl rfl HX.o.1 HX.o.2.1 (qYu HX.o.2.2.1.2) ?_)
  |fail)
 refine leaves_cons (f:=289) (args:= #[.pointer (some ⟨w.heap.size+1,0,none⟩),.pointer (some ⟨w.heap.size+1+1,0,none⟩)]) oe jM ?_;refine(ZL _ _ _).mono ?_;rintro e u' w'' ⟨rfl,rfl,rfl⟩;simp[Leaves,settle];have hst2:w4.there (w.heap.size+1) 0 ys.length:=by rw[HX.o.2.2.1.1];exact HX.o.2.2.2.2.2.2.2
 have r1:=qYr w4 (w.heap.size+1) 0 ys hst2;have r2:((w4.setCells (w.heap.size+1) 0 ys).setCell ⟨w.heap.size+1+1,0,none⟩ (.int .i64 cd)).rangeAt (w.heap.size+1) 0 ys:=zA r1 oM;have c4:((w4.setCells (w.heap.size+1) 0 ys).setCell ⟨w.heap.size+1+1,0,none⟩ (.int .i64 cd)).cell? ⟨w.heap.size+1+1,0,none⟩=some (.int .i64 cd):=World.cell?_setCell_same _ _ _ c3;refine⟨_,xN rfl _ _ (w.heap.size+1) 0 ys _ rfl r2 underlying159 rfl (by rw[HX.o.2.2.1.1];exact ZK) (w.heap.size+1+1) _ rfl (vX c4),⟨ys,cd,HX.o.2.2.2.1,rfl,?_⟩⟩;refine zk (zk ((Upd.below HX.o.2.2.2.2.2.1).trans (HX.o.2.2.2.2.1.mono HX.o.2.2.2.2.2.1.size)) (zq w4 (w.heap.size+1) 0 ys) (qXv _) (fun k e=>oM)) (zj _ (w.heap.size+1+1) 0 _) (qXv _) (fun k e=>oM)
namespace fGuardC
end fGuardC
theorem ZM:(prog.info? 165).map (·.size)=some 13:=kR
namespace fGuardF
end fGuardF
open fGuardF in
theorem ZN(p q:Value)(w:World):
  CallsD prog 292 #[p,q] .returning w fun e u' w'=>e=.returned (.tuple #[])/\u'=.returning/\w'=w:=by
 refine callsD_of_wpS func292 rfl fun c₀ cs hu=>?_;apply wpS_seq;apply wpS_region;simp[wpOpsS,go_sem,recoverD,hu,ntmps292,Exit.thenS];refine wpS_cond (t:=false) oG ?_;simp only[Bool.false_eq_true,if_false];refine wpS_of_wp (wp_skip ?_);cases c₀
 simp_all[bodyPostS,results,results292]
theorem VO{w:World}(xs:List Value)(hxs:(prog.info? 54).map (·.size)=some xs.length)(ff:Nat)(cc:Array Value)(ent:∀args w,(callFunc ff args).run prog w=.ok (.enter ff args) w)
  (R:List Value->Int->Prop) (hR:∀ys cd,R ys cd->ys.length=13/\∀v∈ys,v.oneCell'=true)
  (hf:∀W,Below w.heap.size w W->Calls prog ff (#[.agg xs.toArray]++cc) W (yX W R)):
  Calls prog 224 #[.func (.func ff) #[] cc,.agg xs.toArray] w (yX w R):=by
 have hmf:=qqf;have HF:=Y3 hf hR hxs;clear hf hR hxs;have hr:=zh (zc w (.cells xs.toArray 54) rfl)
 go_enter_defers func224,ntmps224
 go_wp2_with (first
  |(refine qZg rfl _ _ rfl _ _ rfl _ _ (qYp (qYp hr _) _) underlying54 rfl HF.o.2.2 ?_)
  |fail)
 show Calls _ _ _ (((w.alloc (.cells xs.toArray 54)).alloc (.cells [Value.int .i64 0,Value.int .i64 0,Value.int .i64 0,Value.int .i64 0,Value.int .i64 0,Value.int .i64 0,Value.int .i64 0,Value.int .i64 0,Value.int .i64 0,Value.int .i64 0,Value.int .i64 0,Value.int .i64 0,Value.int .i64 0].toArray 165)).alloc (.cells #[.int .i64 0] 28)) _;obtain⟨h1,h2,h3,h4,h5⟩:=yJ w (.cells xs.toArray 54) (.cells [Value.int .i64 0,Value.int .i64 0,Value.int .i64 0,Value.int .i64 0,Value.int .i64 0,Value.int .i64 0,Value.int .i64 0,Value.int .i64 0,Value.int .i64 0,Value.int .i64 0,Value.int .i64 0,Value.int .i64 0,Value.int .i64 0].toArray 165) (.cells #[.int .i64 0] 28);clear hr;generalize ((w.alloc (.cells xs.toArray 54)).alloc (.cells [Value.int .i64 0,Value.int .i64 0,Value.int .i64 0,Value.int .i64 0,Value.int .i64 0,Value.int .i64 0,Value.int .i64 0,Value.int .i64 0,Value.int .i64 0,Value.int .i64 0,Value.int .i64 0,Value.int .i64 0,Value.int .i64 0].toArray 165)).alloc (.cells #[.int .i64 0] 28)=w3 at*;refine(HF.o.1 w3 (Upd.below h5)).mono ?_;rintro e w4 ⟨ys,cd,hRR,rfl,hb4⟩;have g2:=(hb4.block _ (zf h2)).trans h2;have g3:=(hb4.block _ (zf h3)).trans h3;have hyl:=HF.o.2.1 ys cd hRR;have hth:w4.there (w.heap.size+1) 0 13:=fun j hj=>by
  rw[za g2,zg g2];exact⟨by rw[qYe,qxe ow];rfl,rfl⟩
 have hst:w4.there (w.heap.size+1) 0 ys.toArray.size:=by rw[show ys.toArray.size=13 by simpa using hyl.1];exact hth
 have hsz2:(prog.info? 165).map (·.size)=some ys.toArray.size:=by rw[show ys.toArray.size=13 by simpa using hyl.1];exact ZM
 have g3':=((zq w4 (w.heap.size+1) 0 ys).block (w.heap.size+1+1) (zf g3) oM).trans g3;have c3:(w4.setCells (w.heap.size+1) 0 ys).cell? ⟨w.heap.size+1+1,0,none⟩=some (.int .i64 0):=za g3' 0;have z3:=zg g3' 0;have HX:=Y8 hst hsz2 hyl hRR hb4 h5 h4 hth;clear hst hsz2 hyl hRR hb4 h5 h4 h1 h2 h3 g2 g3 hth;go_wp2_with (first
  |(refine qZi rfl _ _ _ rfl _ _ ys.toArray rfl rfl HX.o.1 HX.o.2.1 (qYu HX.o.2.2.1.2) ?_)
  |fail)
 refine leaves_cons (f:=292) (args:= #[.pointer (some ⟨w.heap.size+1,0,none⟩),.pointer (some ⟨w.heap.size+1+1,0,none⟩)]) oe jM ?_;refine(ZN _ _ _).mono ?_;rintro e u' w'' ⟨rfl,rfl,rfl⟩;simp[Leaves,settle];have hst2:w4.there (w.heap.size+1) 0 ys.length:=by rw[HX.o.2.2.1.1];exact HX.o.2.2.2.2.2.2.2
 have r1:=qYr w4 (w.heap.size+1) 0 ys hst2;have r2:((w4.setCells (w.heap.size+1) 0 ys).setCell ⟨w.heap.size+1+1,0,none⟩ (.int .i64 cd)).rangeAt (w.heap.size+1) 0 ys:=zA r1 oM;have c4:((w4.setCells (w.heap.size+1) 0 ys).setCell ⟨w.heap.size+1+1,0,none⟩ (.int .i64 cd)).cell? ⟨w.heap.size+1+1,0,none⟩=some (.int .i64 cd):=World.cell?_setCell_same _ _ _ c3;refine⟨_,xN rfl _ _ (w.heap.size+1) 0 ys _ rfl r2 underlying165 rfl (by rw[HX.o.2.2.1.1];exact ZM) (w.heap.size+1+1) _ rfl (vX c4),⟨ys,cd,HX.o.2.2.2.1,rfl,?_⟩⟩;refine zk (zk ((Upd.below HX.o.2.2.2.2.2.1).trans (HX.o.2.2.2.2.1.mono HX.o.2.2.2.2.2.1.size)) (zq w4 (w.heap.size+1) 0 ys) (qXv _) (fun k e=>oM)) (zj _ (w.heap.size+1+1) 0 _) (qXv _) (fun k e=>oM)
namespace fGuardF
end fGuardF
theorem wT{P:Prop}(h:P:=by
 have hfl:=h.good.fl;have e1:=WL AO _ _ _ AP;have e2:=WL AQ _ _ _ AR;have e3:=WL AS _ _ _ AT;have q1:decide ((base:Int)<0)=false:=oe;have q2:decide ((n:Int)<1)=false:=by simp;omega
 have q3:decide ((F.length:Int)<(base:Int))=false:=by simp;omega
 have q4:decide ((F.length:Int)-(base:Int)<(n:Int))=false:=by simp;omega
 have H:=qqh h;clear h;go_enter AU,AV
 go_wp2_with (first|(go_at_call 47;refine(wJ H.o).mono ?_;rintro e w' ⟨rfl,rfl⟩))
 go_ret2
 exact⟨rfl,⟨zc _ _ rfl⟩,(qxl _ _).alloc (qXv _) _⟩):P:=h
structure LogI(w:World)(l b base n fi:Nat):Prop where
 str:w.heap[l]?=some (.cells #[.pointer (some ⟨b,0,none⟩),.int .i64 (base:Int),.int .i64 (n:Int),.func (.func 138) #[] #[],.func (.func 139) #[] #[],.func (.func fi) #[] #[]] 254 (0,0))
theorem LogI.lt{w:World}{l b base n fi:Nat}(h:LogI w l b base n fi):l<w.heap.size:=zf h.str
theorem LogI.keep{w w':World}{l b base n fi:Nat}(h:LogI w l b base n fi){S:Nat->Prop}(hu:Upd S w w')(hs:¬S l):LogI w' l b base n fi:=⟨(hu.block l h.lt hs).trans h.str⟩
theorem LogI.below{w w':World}{l b base n fi:Nat}(h:LogI w l b base n fi)(hb:Below w.heap.size w w'):LogI w' l b base n fi:=h.keep (uuo (S:=fun _=>False) hb) id
theorem LogI.c{w:World}{l b base n fi:Nat}(h:LogI w l b base n fi):w.cell? ⟨l,0,none⟩=some (.pointer (some ⟨b,0,none⟩))/\w.cell? ⟨l,1,none⟩=some (.int .i64 (base:Int))/\w.cell? ⟨l,2,none⟩=some (.int .i64 (n:Int))/\
  w.cell? ⟨l,3,none⟩=some (.func (.func 138) #[] #[])/\w.cell? ⟨l,4,none⟩=some (.func (.func 139) #[] #[])/\w.cell? ⟨l,5,none⟩=some (.func (.func fi) #[] #[]):=
 ⟨za h.str 0,za h.str 1,za h.str 2,za h.str 3,za h.str 4,za h.str 5⟩
namespace fLogI
end fLogI
namespace fLogI
end fLogI
theorem WL(T:TypeId)(a b c)(h:prog.underlying T=some (.func a b c))(w:World)(fn:Fn)(xs ys:Array Value):(binOp .eql T (.func fn xs ys) .nilFunc).run prog w=.ok (.bool false) w:=by
 have:∀d,(Op.equalIn (d+1) T (.func fn xs ys) .nilFunc).run prog w=.ok false w:=fun d=>by simp[Op.equalIn,run_underlying h]
 simp only[binOp];simp[Op.equal,Op.maxDepth,this 9999]
namespace fLogI
abbrev AO:Nat:=235
theorem AP:type_of% @underlying235:= @underlying235
abbrev AQ:Nat:=236
theorem AR:type_of% @underlying236:= @underlying236
abbrev AS:Nat:=237
theorem AT:type_of% @underlying237:= @underlying237
theorem AU:type_of% @func137:= @func137
theorem AV:type_of% @ntmps137:= @ntmps137
end fLogI
open fLogI in
theorem JO{S:Nat->Prop}{w:World}{b:Nat}{F:List Bk}{O:List (Nat×Bk)}{P:List Int}(h:Dv S w b F O P)(base n:Nat)(hn:1<=n)(hbn:base+n<=F.length)(fi:Nat):
  Calls prog 137 #[.pointer (some ⟨b,0,none⟩),.int .i64 (base:Int),.int .i64 (n:Int),.func (.func 138) #[] #[],.func (.func 139) #[] #[],.func (.func fi) #[] #[]] w
   fun e w'=>e=.returned (.tuple #[.pointer (some ⟨w.heap.size,0,none⟩),.int .i64 0])/\LogI w' w.heap.size b base n fi/\Below w.heap.size w w':=wT
structure LogC(w:World)(l b base n fi:Nat):Prop where
 str:w.heap[l]?=some (.cells #[.pointer (some ⟨b,0,none⟩),.int .i64 (base:Int),.int .i64 (n:Int),.func (.func 142) #[] #[],.func (.func 143) #[] #[],.func (.func fi) #[] #[]] 258 (0,0))
theorem LogC.lt{w:World}{l b base n fi:Nat}(h:LogC w l b base n fi):l<w.heap.size:=zf h.str
theorem LogC.keep{w w':World}{l b base n fi:Nat}(h:LogC w l b base n fi){S:Nat->Prop}(hu:Upd S w w')(hs:¬S l):LogC w' l b base n fi:=⟨(hu.block l h.lt hs).trans h.str⟩
theorem LogC.below{w w':World}{l b base n fi:Nat}(h:LogC w l b base n fi)(hb:Below w.heap.size w w'):LogC w' l b base n fi:=h.keep (uuo (S:=fun _=>False) hb) id
theorem LogC.c{w:World}{l b base n fi:Nat}(h:LogC w l b base n fi):w.cell? ⟨l,0,none⟩=some (.pointer (some ⟨b,0,none⟩))/\w.cell? ⟨l,1,none⟩=some (.int .i64 (base:Int))/\w.cell? ⟨l,2,none⟩=some (.int .i64 (n:Int))/\
  w.cell? ⟨l,3,none⟩=some (.func (.func 142) #[] #[])/\w.cell? ⟨l,4,none⟩=some (.func (.func 143) #[] #[])/\w.cell? ⟨l,5,none⟩=some (.func (.func fi) #[] #[]):=
 ⟨za h.str 0,za h.str 1,za h.str 2,za h.str 3,za h.str 4,za h.str 5⟩
namespace fLogC
end fLogC
namespace fLogC
end fLogC
namespace fLogC
abbrev AO:Nat:=240
theorem AP:type_of% @underlying240:= @underlying240
abbrev AQ:Nat:=241
theorem AR:type_of% @underlying241:= @underlying241
abbrev AS:Nat:=242
theorem AT:type_of% @underlying242:= @underlying242
theorem AU:type_of% @func141:= @func141
theorem AV:type_of% @ntmps141:= @ntmps141
end fLogC
open fLogC in
theorem JP{S:Nat->Prop}{w:World}{b:Nat}{F:List Bk}{O:List (Nat×Bk)}{P:List Int}(h:Dv S w b F O P)(base n:Nat)(hn:1<=n)(hbn:base+n<=F.length)(fi:Nat):
  Calls prog 141 #[.pointer (some ⟨b,0,none⟩),.int .i64 (base:Int),.int .i64 (n:Int),.func (.func 142) #[] #[],.func (.func 143) #[] #[],.func (.func fi) #[] #[]] w
   fun e w'=>e=.returned (.tuple #[.pointer (some ⟨w.heap.size,0,none⟩),.int .i64 0])/\LogC w' w.heap.size b base n fi/\Below w.heap.size w w':=wT
structure LogF(w:World)(l b base n fi:Nat):Prop where
 str:w.heap[l]?=some (.cells #[.pointer (some ⟨b,0,none⟩),.int .i64 (base:Int),.int .i64 (n:Int),.func (.func 146) #[] #[],.func (.func 147) #[] #[],.func (.func fi) #[] #[]] 262 (0,0))
theorem LogF.lt{w:World}{l b base n fi:Nat}(h:LogF w l b base n fi):l<w.heap.size:=zf h.str
theorem LogF.keep{w w':World}{l b base n fi:Nat}(h:LogF w l b base n fi){S:Nat->Prop}(hu:Upd S w w')(hs:¬S l):LogF w' l b base n fi:=⟨(hu.block l h.lt hs).trans h.str⟩
theorem LogF.below{w w':World}{l b base n fi:Nat}(h:LogF w l b base n fi)(hb:Below w.heap.size w w'):LogF w' l b base n fi:=h.keep (uuo (S:=fun _=>False) hb) id
theorem LogF.c{w:World}{l b base n fi:Nat}(h:LogF w l b base n fi):w.cell? ⟨l,0,none⟩=some (.pointer (some ⟨b,0,none⟩))/\w.cell? ⟨l,1,none⟩=some (.int .i64 (base:Int))/\w.cell? ⟨l,2,none⟩=some (.int .i64 (n:Int))/\
  w.cell? ⟨l,3,none⟩=some (.func (.func 146) #[] #[])/\w.cell? ⟨l,4,none⟩=some (.func (.func 147) #[] #[])/\w.cell? ⟨l,5,none⟩=some (.func (.func fi) #[] #[]):=
 ⟨za h.str 0,za h.str 1,za h.str 2,za h.str 3,za h.str 4,za h.str 5⟩
namespace fLogF
end fLogF
namespace fLogF
end fLogF
namespace fLogF
abbrev AO:Nat:=245
theorem AP:type_of% @underlying245:= @underlying245
abbrev AQ:Nat:=246
theorem AR:type_of% @underlying246:= @underlying246
abbrev AS:Nat:=247
theorem AT:type_of% @underlying247:= @underlying247
theorem AU:type_of% @func145:= @func145
theorem AV:type_of% @ntmps145:= @ntmps145
end fLogF
open fLogF in
theorem JQ{S:Nat->Prop}{w:World}{b:Nat}{F:List Bk}{O:List (Nat×Bk)}{P:List Int}(h:Dv S w b F O P)(base n:Nat)(hn:1<=n)(hbn:base+n<=F.length)(fi:Nat):
  Calls prog 145 #[.pointer (some ⟨b,0,none⟩),.int .i64 (base:Int),.int .i64 (n:Int),.func (.func 146) #[] #[],.func (.func 147) #[] #[],.func (.func fi) #[] #[]] w
   fun e w'=>e=.returned (.tuple #[.pointer (some ⟨w.heap.size,0,none⟩),.int .i64 0])/\LogF w' w.heap.size b base n fi/\Below w.heap.size w w':=wT
theorem zF{w:World}{p:Nat}{cs:Array Value}{t:TypeId}(h:w.heap[p]?=some (.cells cs t (0,0))){n:Nat}(hn:n<=cs.size):w.there p 0 n:=fun j hj=>by
 rw[za h,zg h];exact⟨by rw[qYe,qxe oM];rfl,rfl⟩
theorem wU{w:World}{p:Nat}{x y:Bk}{t:TypeId}(h:w.heap[p]?=some (.cells (bkC x).toArray t (0,0)))(hx:x.length=64)(hy:y.length=64):(w.setCells p 0 (bkC y)).heap[p]?=some (.cells (bkC y).toArray t (0,0)):=by
 obtain⟨cur',h2,h3,h4⟩:=zC (bkC y) 0 w p _ t (0,0) h;rw[h2];have:cur'=(bkC y).toArray:=by
  apply qxd
  intro k;have e:(bkC y).toArray[k]?=(bkC y)[k]?:=oe;rw[h4 k,e,zo,hy,zp _ hx];by_cases hk:k<64
  .rw [if_pos ⟨oM,oM,oM⟩];rfl
  .rw [if_neg oM,qxf (by rw[zp _ hx];omega),qyo (by rw[zo,hy];omega)]
 rw[this]
def Ri(T:Nat->Prop)(b:Nat)(F:List Bk)(O:List (Nat×Bk))(P:List Int)(s:Nat)(w2:World)(s8 s6:Value)(wx:World):Prop:=
 ∃q z cd,s8=.pointer (some ⟨q,0,none⟩)/\s6=.int .i64 cd/\wx.heap[q]?=some (.cells (bkC z).toArray 54 (0,0))/\w2.heap.size<=q/\z=(if fate P=1 then zB else curB F O s)/\cd=(if fate P=1 then 19 else 0)/\z.length=64/\
  Dv (fun j=>T j/\j≠q) wx b F O P.tail/\Upd T w2 wx
def AW(S:Nat->Prop)(w:World)(b:Nat)(F:List Bk)(O:List (Nat×Bk))(r:List Value×Int)(e:Ending)(w':World):Prop:=e=.returned (.tuple #[.agg r.1.toArray,.int .i64 r.2])/\Dv S w' b F O []/\Upd S w w'
def supR(n:CaN)(F G:List Bk)(y:Bk):List Value×Int:=if okS y=true then(if F.length=n.size/\G.length=n.bl then(n.C,0)else(zeroS,22))else(zeroS,cdS y)
theorem ZO:∀w:World,(Instr.alloc 40 true (.tuple #[])).run prog w=.ok (.pointer (some ⟨w.heap.size,0,none⟩)) (w.alloc (.cells zeroS.toArray 40)):=by
 intro w;kernel_rfl
theorem ZP:∀w:World,(Instr.build 40 #[]).run prog w=.ok (.agg zeroS.toArray) w:=by
 intro w;kernel_rfl
theorem yB{ops:Array Oper}{rest:List Oper}{op:Oper}{a:Act}{w:World}{Q:Exit->Act->World->Prop}(hgd:op.guard=none)(t:TypeId)(ho:op.op=.build t #[]){v:Value}
  (hrun:∀w:World,(Instr.build t #[]).run prog w=.ok v w)
  (h:wpList prog ops Q rest (a.put op.dst v) w):wpList prog ops Q (op::rest) a w:=by
 refine qZh hgd fun K' hK'=>?_;unfold Oper.wp;simp only[execOp,ho,qzp,qzo,qYm,hrun,qYl];exact hK' _ _ h
theorem AX{y:Bk}(h:okS y=false):cdS y=12\/cdS y=13:=by
 unfold okS at h;unfold cdS yO;rw[h,if_neg oe];split
 .exact .inl rfl
 .exact .inr rfl
theorem Rj{S T:Nat->Prop}{w:World}{b bb:Nat}{F G:List Bk}{O Q:List (Nat×Bk)}{P:List Int}(hd:Dv S w b F O [])(hn:∀j,w.heap.size<=j->S j)(hb:Dv T w bb G Q P)(hT:∀j,T j->¬S j)(hN:Nib w)(hgS:¬S 0)(hF:0<F.length)
  (n:CaN) (hok:n.Ok) (hy:okS (curB F O 0)=true->dsS (natsI (numsS (curB F O 0)))=n.C):
  Calls prog 21 #[ptr b,ptr bb] w (AW S w b F O (supR n F G (curB F O 0))):=by
 obtain⟨Z,hZ⟩:=qqe (zeroS);have hal:=ZO;have hbu:=ZP;simp only[<-hZ]at hal hbu;have HZZ:Hid (Z=zeroS/\Z.length=7/\Z.toArray.size=7/\(prog.info? 40).map (·.size)=some Z.toArray.size/\(Z.toArray).all (·.oneCell')=true/\(prog.info? 40).map (·.size)=some Z.length/\∀u∈Z,u.oneCell'=true):=
  ⟨hZ,by rw[hZ];rfl,by rw[hZ];rfl,by rw[hZ];exact yz,by rw[hZ];exact qX,by rw[hZ];exact yz,by rw[hZ];exact qxw.1 (by simp[zeroS,Value.oneCell'])⟩
 obtain⟨y,hyy⟩:=qqe (curB F O 0);obtain⟨R,hR⟩:=qqe (supR n F G (curB F O 0));rw[<-hR];rw[<-hyy]at hR hy;have hyl:y.length=64:=by rw[hyy];exact qv hd.good 0
 obtain⟨w1,hw1⟩:=qqe (w.alloc (.cells Z.toArray 40));have hu1:=qqu hw1;have g1:=qqg hw1;have z1:w1.heap.size=w.heap.size+1:=by rw[hw1];simp
 have hd1:=(hd.but (qXv _)).keep hu1 (fun _ _ h=>h);have hn1:∀j,w1.heap.size<=j->S j/\j≠w.heap.size:=fun j hj=>⟨hn j oM,oM⟩
 have HRd:=qqh (vT hd1 hn1 0 hF);have H:=Y9 hd1 hn1 hb hT hN hgS hok hy hR;have H1:=Y6 hw1 hu1 g1 z1 hyy (hn _ (qXv _));have hsy:=zw y hyl;clear hd hn hb hT hN hgS hF hok hy hR hd1 hn1 hw1 hu1 g1 z1 hyy hZ;go_enter func21,ntmps21
 go_wp2_with (first
  |(refine zY rfl _ rfl _ hal ?_)
  |fail)
 rw[<-H1.o.1];refine HRd.out.mono ?_;rintro e w2 ⟨y2,cd2,rfl,hy2,hcd2,-,hd2,hu2⟩;rw[if_neg de]at hy2 hcd2;rw[<-H1.o.2.2.2.2.1]at hy2;subst hy2 hcd2;have g2:=(hu2.block _ (zf H1.o.2.2.1) (fun h=>h.2 rfl)).trans H1.o.2.2.1;obtain⟨w3,hw3⟩:=qqe (w2.alloc (.cells (bkC y2).toArray 54));have hu3:=qqu hw3;have r3:w3.rangeAt w2.heap.size 0 (bkC y2):=by rw[hw3];exact zh (zc w2 _ rfl)
 have U3:Upd (fun j=>S j/\j≠w.heap.size) w1 w3:=hu2.trans (hu3.mono fE);have hN3:Nib w3:=(H.o.2.2.2.2.1.keep H1.o.2.1 id).keep U3 (fun h=>H.o.2.2.2.2.2.1 h.1);have HG:=qqh (Rh hN3 y2 hyl);have H3:=Y5 hw3 U3 (hd2.new hu3) (hu3.j6 g2) hN3;rw[hw3]at r3;clear hd2 hu2 g2 hu3 U3 hN3 hw3 HRd;go_wp2_with (first
  |(refine zl rfl _ _ _ rfl _ _ (bkC y2) rfl rfl jO hsy (zx y2) ?_)
  |(refine qZg rfl _ _ rfl _ _ rfl _ _ r3 underlying54 rfl hsy ?_)
  |fail)
 rw[<-H3.o.1];refine HG.o.mono ?_;rintro e w4 ⟨⟨rs,hr1,hr2,rfl⟩,hb4⟩;have hu4:=qqb hb4;have hrs:Hid (rs.length=7/\∀v∈rs,v.oneCell'=true):=by
  cases hk:okS y2 with
  |true=>rw[hr1 hk];exact⟨qk _,ql _⟩
  |false=>rw[hr2 hk];exact⟨rfl,qxw.1 (by simp[zeroS,Value.oneCell']:zeroS.all (·.oneCell')=true)⟩
 have hsr:Hid ((prog.info? 40).map (·.size)=some rs.length):=by show _=_;rw[hrs.out.1];exact yz
 obtain⟨w5,hw5⟩:=qqe (w4.alloc (.cells rs.toArray 40));have hu5:=qqu hw5;have U5:Upd (fun j=>S j/\j≠w.heap.size) w1 w5:=H3.o.2.1.trans ((hu4.trans hu5).mono fE);have d5:=H3.o.2.2.1.new (hu4.trans hu5);have g5:=(hu4.trans hu5).j6 H3.o.2.2.2.1;have r5:w5.rangeAt w4.heap.size 0 rs:=by rw[hw5];exact zh (zc w4 _ rfl)
 have tA:=zF (n:=7) g5 ov;have HE:Hid (∀W',Upd (fun j=>j=w.heap.size) w5 W'->Dv S W' b F O []/\Upd S w W'):=fun W' hu=>⟨(d5.keep hu (fun j h e=>h.2 e)).wide (fun j h=>h.1),((H1.o.2.1.mono fE).trans (U5.mono (fun _ _ h=>h.1))).trans (hu.mono (fun j _ e=>by rw[e];exact H1.o.2.2.2.2.2))⟩
 have H5:=Y5 hw5 d5 g5 r5 U5;have HR12:=Y2 hr1 hr2;clear hb4 hu4 hu5 U5 d5 g5 r3 hr1 hr2 HG;rw[hw5]at tA r5;have tA7:(w4.alloc (.cells rs.toArray 40)).there w.heap.size 0 Z.toArray.size:=by rw[HZZ.o.2.2.1];exact tA
 cases hk:okS y2 with
 |false=>
  have e1:R=(zeroS,cdS y2):=by rw[H.o.2.2.2.2.2.2.2.2];unfold supR;rw[hk,if_neg oe]
  have hcd:=AX hk;have HK:=Y2 e1 hcd;have q0:¬cdS y2=0:=by rcases hcd with h|h<;>rw[h]<;>decide
  have q1:(cdS y2==0)=false:=by simpa using q0
  have q2:(cdS y2 !=0)=true:=by simpa using q0
  clear e1 hcd hw5 hk;generalize cdS y2=cd at*;go_wp2_with (first
   |(refine zY rfl _ rfl _ hal ?_)
   |(refine zl rfl _ _ _ rfl _ _ rs rfl rfl (by rw[HZZ.o.2.2.1,hrs.out.1]) hsr.out hrs.out.2 ?_)
   |(refine yB rfl _ rfl hbu ?_)
   |(refine qZi rfl _ _ _ rfl _ _ Z.toArray rfl rfl tA7 HZZ.o.2.2.2.1 HZZ.o.2.2.2.2.1 ?_)
   |fail)
  rw[HK.o.1];refine qYw (zt rfl _ _ w.heap.size 0 Z _ rfl (qYr _ _ _ _ jR) underlying40 rfl HZZ.o.2.2.2.2.2.1) rfl ?_;rw[<-H5.o.1];have h:=HE.o _ (zq w5 w.heap.size 0 Z);exact⟨by rw[HZZ.o.1];rfl,h.1,h.2⟩
 |true=>
  have e0:cdS y2=0:=by unfold okS at hk;unfold cdS yO;rw[hk,if_pos rfl]
  have er:rs=n.C:=(HR12.o.1 hk).trans (H.o.2.2.2.2.2.2.2.1 hk);have e1:R=if F.length=n.size/\G.length=n.bl then(n.C,0)else(zeroS,22):=by rw[H.o.2.2.2.2.2.2.2.2];unfold supR;rw[if_pos hk]
  have HK:=Y2 er e1;obtain⟨V,hV⟩:=qqe (layC n.sl n.jo n.pa n.lo);have HPl:Hid (Calls prog 14 #[.agg rs.toArray] w5 fun e w'=>e=.returned (.tuple #[.agg V.toArray,.int .i64 0])/\Below w5.heap.size w5 w'):=by
   show Calls _ _ _ _ _;rw[er,hV];obtain⟨b1,b2,s1,s2,j1,j2,l1,l2,a1,a2,p1,p2,z⟩:=H.o.2.2.2.2.2.2.1;exact ui n.id n.bl n.sl n.jo n.pa n.lo n.ba b1 b2 s1 s2 j1 j2 l1 l2 a1 a2 p1 p2 z w5
  have hV7:V.length=7:=by rw[hV];rfl
  have HV:=Y4 (show(prog.info? 43).map (·.size)=some V.length by rw[hV];exact xH) (show∀v∈V,v.oneCell'=true by rw[hV];exact uE _ _ _ _) hV7 hV;rw[e0];clear e0 er e1 hV hV7 hw5 hk;go_wp2_with (first
   |(refine zY rfl _ rfl _ hal ?_)
   |(refine zl rfl _ _ _ rfl _ _ rs rfl rfl (by rw[HZZ.o.2.2.1,hrs.out.1]) hsr.out hrs.out.2 ?_)
   |(refine qZg rfl _ _ rfl _ _ rfl _ _ r5 underlying40 rfl hsr.out ?_)
   |fail)
  rw[<-H5.o.1];refine HPl.out.mono ?_;rintro e w6 ⟨rfl,hb6⟩;have hu6:=qqb hb6;obtain⟨w7,hw7⟩:=qqe (w6.alloc (.cells V.toArray 43));have hu7:=qqu hw7;have u57:=hu6.trans hu7;have g7:=u57.j6 H5.o.2.2.1;have r7:=u57.range H5.o.2.2.2.1 id;have v7:w7.rangeAt w6.heap.size 0 V:=by rw[hw7];exact zh (zc w6 _ rfl)
  have b7:=((H.o.2.2.1.new H1.o.2.1).keep H5.o.2.2.2.2 (fun j h h'=>H.o.2.2.2.1 j h h'.1)).new u57;have d7:=H5.o.2.1.new u57;have hM:=Qm d7 b7 n.id n.bl n.sl n.jo n.pa n.lo n.ba;rw[show superC n.id n.bl n.sl n.jo n.pa n.lo n.ba=rs from HK.o.1.symm,<-HV.o.2.2.2]at hM;obtain⟨mc,hmc⟩:=qqe (qx F G (sizeN n.sl n.jo n.pa n.lo) n.bl);rw[<-hmc]at hM;replace hM:=qqh hM;have tA2:=zF (n:=7) g7 ov;have H7:=Y6 hw7 u57 g7 d7 hmc (show w5.heap.size<=w6.heap.size from hu6.size);have hV7:=HV.o.2.2.1;rw[hw7]at r7 v7 tA2;clear hb6 hu6 hu7 u57 g7 d7 b7 hw7 hmc tA tA7 r5;go_wp2_with (first
   |(refine zl rfl _ _ _ rfl _ _ V rfl rfl (by rw[hV7];rfl) HV.o.1 HV.o.2.1 ?_)
   |(refine qZg rfl _ _ rfl _ _ rfl _ _ r7 underlying40 rfl hsr.out ?_)
   |(refine qZg rfl _ _ rfl _ _ rfl _ _ v7 underlying43 rfl HV.o.1 ?_)
   |fail)
  rw[<-H7.o.1];refine hM.out.mono ?_;rintro e w8 ⟨rfl,hu8⟩;have g8:=hu8.j6 H7.o.2.2.1;have t8:=zF (n:=7) g8 ov;have r8:w8.rangeAt w4.heap.size 0 rs:=by
   have:=(H7.o.2.1.trans hu8).range H5.o.2.2.2.1 id;exact this
  have HE8:Hid (∀W',Upd (fun j=>j=w.heap.size) w8 W'->Dv S W' b F O []/\Upd S w W'):=fun W' hu=>HE.o W' ((((H7.o.2.1.trans hu8).mono fE)).trans hu)|>.imp id id
  clear hu8 g8 r7 v7 tA2 hM;by_cases hc:F.length=n.size/\G.length=n.bl
  .have e0:mc=0:=by rw[H7.o.2.2.2.2.1];exact if_pos hc
   have e2:R=(n.C,0):=by rw[HK.o.2,if_pos hc]
   have HX:=qqh e2;have t8r:w8.there w.heap.size 0 rs.toArray.size:=by rw[show rs.toArray.size=7 by simpa using hrs.out.1];exact t8
   have t8l:w8.there w.heap.size 0 rs.length:=by rw[hrs.out.1];exact t8
   have hs2:Hid ((prog.info? 40).map (·.size)=some rs.toArray.size):=by show _=_;rw[show rs.toArray.size=7 by simpa using hrs.out.1];exact yz
   subst e0;clear e2 hc;go_wp2_with (first
    |(refine qZg rfl _ _ rfl _ _ rfl _ _ r8 underlying40 rfl hsr.out ?_)
    |(refine qZi rfl _ _ _ rfl _ _ rs.toArray rfl rfl t8r hs2.out (qYu hrs.out.2) ?_)
    |fail)
   rw[HX.o];refine qYw (zt rfl _ _ w.heap.size 0 rs _ rfl (qYr _ _ _ _ t8l) underlying40 rfl hsr.out) rfl ?_;have h:=HE8.o _ (zq w8 w.heap.size 0 rs);exact⟨by rw[HK.o.1];rfl,h.1,h.2⟩
  .have e0:mc=22:=by rw[H7.o.2.2.2.2.1];exact if_neg hc
   have e2:R=(zeroS,22):=by rw[HK.o.2,if_neg hc]
   have HX:=qqh e2;have t8z:w8.there w.heap.size 0 Z.toArray.size:=by rw[HZZ.o.2.2.1];exact t8
   subst e0;clear e2 hc;go_wp2_with (first
    |(refine yB rfl _ rfl hbu ?_)
    |(refine qZi rfl _ _ _ rfl _ _ Z.toArray rfl rfl t8z HZZ.o.2.2.2.1 HZZ.o.2.2.2.2.1 ?_)
    |fail)
   rw[HX.o];refine qYw (zt rfl _ _ w.heap.size 0 Z _ rfl (qYr _ _ _ _ (by rw[HZZ.o.2.1];exact t8)) underlying40 rfl HZZ.o.2.2.2.2.2.1) rfl ?_;have h:=HE8.o _ (zq w8 w.heap.size 0 Z);exact⟨by rw[HZZ.o.1];rfl,h.1,h.2⟩
def zcp:List (Int×Int):=[(0,1099511627776),(0,1099511627776),(0,4096),(1,4096),(0,1048576),(0,1048576)]
theorem Rk:(prog.info? 159).map (·.size)=some 6:=kR
def AY(gs gt:Nat):Value:=.agg #[.int .i64 5,.slice (some ⟨gs,0,none⟩) 6 6,.func (.func 278) #[] #[],.func (.func 279) #[] #[.pointer (some ⟨gt,0,none⟩)],.func (.func 280) #[] #[]]
def zcq(w:World)(gs gt:Nat):Prop:=w.rangeAt gs 0 (ints [6,6,2,2,3,3])/\∃v,w.cell? ⟨gt,0,none⟩=some v/\Bnd w v zcp
theorem JR:(prog.info? 346).map (·.size)=some 5:=kR
theorem Zb(w:World):Calls prog 210 #[] w fun e w'=>∃gs gt,e=.returned (AY gs gt)/\zcq w' gs gt/\Below w.heap.size w w':=by
 have hmf:=qqf;go_enter func210,ntmps210
 go_wp2_with fail
 refine(xu).mono ?_;rintro e w1 ⟨rfl,rfl⟩;go_wp2
 obtain⟨h1,h2,h3,h4,h5,h6,h7⟩:=ur w (.cells #[.int .i64 5,.slice (some ⟨w.heap.size+1+1+1+1,0,none⟩) 6 6,.func (.func 278) #[] #[],.func (.func 279) #[] #[.pointer (some ⟨w.heap.size+1+1+1,0,none⟩)],.func (.func 280) #[] #[]] 346)
  (.cells (bndC zcp).toArray 219) (.cells #[.slice (some ⟨w.heap.size+1,0,none⟩) 6 6] 321) (.cells #[.func (.func 196) #[] #[.pointer (some ⟨w.heap.size+1+1,0,none⟩)]] 134) (.cells (ints [6,6,2,2,3,3]).toArray 3)
 refine qYw (zI rfl _ _ w.heap.size 0 [.int .i64 5,.slice (some ⟨w.heap.size+1+1+1+1,0,none⟩) 6 6,.func (.func 278) #[] #[],.func (.func 279) #[] #[.pointer (some ⟨w.heap.size+1+1+1,0,none⟩)],.func (.func 280) #[] #[]] _ rfl (zh h1) underlying346 rfl JR) rfl
  ⟨w.heap.size+1+1+1+1,w.heap.size+1+1+1,rfl,⟨zh h5,_,za h4 0,w.heap.size+1+1,w.heap.size+1,6,rfl,za h3 0,zh h2⟩,Upd.below h7⟩
def zcr:List (Int×Int):=[(0,1099511627776),(0,1099511627776),(0,4096),(1,4096),(1,8)]
theorem Rl:(prog.info? 165).map (·.size)=some 13:=kR
def szF:List Nat:=[6,6,2,2,1,3,3,3,3,3,3,3,3]
def AZ(gs gt:Nat):Value:=.agg #[.int .i64 6,.slice (some ⟨gs,0,none⟩) 13 13,.func (.func 281) #[] #[],.func (.func 282) #[] #[.pointer (some ⟨gt,0,none⟩)],.func (.func 284) #[] #[]]
def zcs(w:World)(gs gt:Nat):Prop:=w.rangeAt gs 0 (ints (natsI szF))/\∃v,w.cell? ⟨gt,0,none⟩=some v/\Bnd w v zcr
theorem JS:(prog.info? 353).map (·.size)=some 5:=kR
theorem uG(w:World):Calls prog 213 #[] w fun e w'=>∃gs gt,e=.returned (AZ gs gt)/\zcs w' gs gt/\Below w.heap.size w w':=by
 have hmf:=qqf;go_enter func213,ntmps213
 go_wp2_with fail
 refine(xu).mono ?_;rintro e w1 ⟨rfl,rfl⟩;go_wp2
 obtain⟨h1,h2,h3,h4,h5,h6,h7⟩:=ur w (.cells #[.int .i64 6,.slice (some ⟨w.heap.size+1+1+1+1,0,none⟩) 13 13,.func (.func 281) #[] #[],.func (.func 282) #[] #[.pointer (some ⟨w.heap.size+1+1+1,0,none⟩)],.func (.func 284) #[] #[]] 353)
  (.cells (bndC zcr).toArray 219) (.cells #[.slice (some ⟨w.heap.size+1,0,none⟩) 5 5] 321) (.cells #[.func (.func 196) #[] #[.pointer (some ⟨w.heap.size+1+1,0,none⟩)]] 134) (.cells (ints (natsI szF)).toArray 3)
 refine qYw (zI rfl _ _ w.heap.size 0 [.int .i64 6,.slice (some ⟨w.heap.size+1+1+1+1,0,none⟩) 13 13,.func (.func 281) #[] #[],.func (.func 282) #[] #[.pointer (some ⟨w.heap.size+1+1+1,0,none⟩)],.func (.func 284) #[] #[]] _ rfl (zh h1) underlying353 rfl JS) rfl
  ⟨w.heap.size+1+1+1+1,w.heap.size+1+1+1,rfl,⟨zh h5,_,za h4 0,w.heap.size+1+1,w.heap.size+1,5,rfl,za h3 0,zh h2⟩,Upd.below h7⟩
theorem wV{P:Prop}(h:P:=by
 have H:=qqh hN;have HC:=qqh hb;clear hN hb;have hr:((w.alloc (.cells #[.int .i64 (k:Int),.slice (some ⟨gs,0,none⟩) m cl,tv,.func (.func fm) #[] cm,.func (.func fb) #[] cb] n1u)).alloc (.cells (bkC b).toArray 54)).rangeAt (w.heap.size+1) 0 (bkC b):=zh (zc _ _ oe);go_enter q2u,q3u
 go_wp2_with (first
  |(refine qZg rfl _ _ rfl _ _ rfl _ _ (qYp (qYp hr _) _) underlying54 rfl (zw _ HC.o) ?_)
  |fail)
 show Calls _ _ _ ((((w.alloc (.cells #[.int .i64 (k:Int),.slice (some ⟨gs,0,none⟩) m cl,tv,.func (.func fm) #[] cm,.func (.func fb) #[] cb] n1u)).alloc (.cells (bkC b).toArray 54)).alloc (.cells zL.toArray n4u)).alloc (.cells zL.toArray n4u)) _;obtain⟨Z,hZ⟩:∃Z:List Value,Z=zL:=⟨_,rfl⟩
 rw[<-hZ];have hZs:Hid (Z.toArray.size=n5u):=by show _=_;rw[hZ];rfl
 have hZl:Hid (Z.length=n5u):=by show _=_;rw[hZ];rfl
 have hsZ:Hid ((prog.info? n4u).map (·.size)=some Z.length):=by show _=_;rw[hZ];exact q6u
 have hsA:Hid ((prog.info? n4u).map (·.size)=some Z.toArray.size):=by show _=_;rw[hZ];exact q6u
 have hZ1:Hid ((Z.toArray).all (·.oneCell')=true):=by show _=_;rw[hZ];exact qZ
 have HZ:=qqh hZ;clear hZ;obtain⟨h1,h2,h3,h4,h5,h6⟩:=xC w (.cells #[.int .i64 (k:Int),.slice (some ⟨gs,0,none⟩) m cl,tv,.func (.func fm) #[] cm,.func (.func fb) #[] cb] n1u) (.cells (bkC b).toArray 54) (.cells Z.toArray n4u) (.cells Z.toArray n4u);clear hr;generalize (((w.alloc (.cells #[.int .i64 (k:Int),.slice (some ⟨gs,0,none⟩) m cl,tv,.func (.func fm) #[] cm,.func (.func fb) #[] cb] n1u)).alloc (.cells (bkC b).toArray 54)).alloc (.cells Z.toArray n4u)).alloc (.cells Z.toArray n4u)=w4 at*;refine(qF b HC.o (H.o.keep h6 id)).mono ?_;rintro e w5 ⟨rfl,hb5⟩;have hu5:=qqb hb5;have g1:=(hu5.block _ (zf h1) id).trans h1;have g2:=(hu5.block _ (zf h2) id).trans h2;have g3:=(hu5.block _ (zf h3) id).trans h3;have g4:=(hu5.block _ (zf h4) id).trans h4;have hz5:=hu5.size;have H5:=Y7 g1 g2 g3 g4 (h6.trans hu5) h5 hz5;clear h1 h2 h3 h4 h5 h6 g1 g2 g3 g4 hu5 hb5 hz5;have hsc:sealedC b=13:=if_neg hsl;rw[hsc];clear hsc hsl;obtain⟨g1,g2,g3,g4,u5,z4,z5⟩:=H5.o;have r4:=zh g4;have hth:w5.there (w.heap.size+1+1) 0 n5u:=fun j hj=>by
  rw[za g3,zg g3];exact⟨by rw[qYe,qxe jS];rfl,rfl⟩
 have HU:=qqh u5;clear g1 g2 g3 g4 u5 z4 z5;go_wp2_with (first
  |(refine qZg rfl _ _ rfl _ _ rfl _ _ r4 q7u rfl hsZ.out ?_)
  |(refine qZi rfl _ _ _ rfl _ _ Z.toArray rfl rfl (by rw[hZs.out];exact hth) hsA.out hZ1.out ?_)
  |fail)
 refine qYw (zt rfl _ _ (w.heap.size+1+1) 0 Z _ rfl (qYr _ _ _ _ (by first|(rw[hZs.out];exact hth)|(rw[hZl.out];exact hth))) q7u rfl hsZ.out) rfl
  ⟨⟨_,fun h=>(nomatch h),fun _=>rfl,by rw[HZ.o];rfl⟩,zk (Upd.below HU.o) (zq w5 (w.heap.size+1+1) 0 _) (qXv _) (fun k e=>oM)⟩):P:=h
theorem wW{P:Prop}(h:P:=by
 have HN:=qqh hN;have Hb:=qqh hb;clear hN hb;go_enter q8u,q9u
 go_wp2_with fail
 change Code.wp _ _ _ _ ((w.alloc (.cells (bkC b).toArray 54)).alloc (.cells zL.toArray n4u))
 have hr:((w.alloc (.cells (bkC b).toArray 54)).alloc (.cells zL.toArray n4u)).rangeAt w.heap.size 0 (bkC b):=qYp (zh (zc w _ rfl)) _;have hg:((w.alloc (.cells (bkC b).toArray 54)).alloc (.cells zL.toArray n4u)).heap[w.heap.size+1]?=some (.cells zL.toArray n4u):=zc _ _ oe;have hu:Upd (fun _=>False) w ((w.alloc (.cells (bkC b).toArray 54)).alloc (.cells zL.toArray n4u)):=((uur _ w).alloc _).alloc _;generalize (w.alloc (.cells (bkC b).toArray 54)).alloc (.cells zL.toArray n4u)=w2 at*;have hb2:Below w.heap.size w w2:=Upd.below hu;refine qZj (S:=fun W=>W.rangeAt w.heap.size 0 (bkC b)) kR oE (fun hHeld=>?_);refine Wl.l 1 (fun w h=>h) underlying54 (zw _ Hb.out) hHeld ?_;refine Wl.r 0 (fun K hK=>?_);go_simp
 refine(zaa _).mono ?_;rintro e w3 ⟨gs,gt,rfl,hF,hb3⟩;have hb3':Below w2.heap.size w2 w3:=yu hb3;refine hK.o _ _ (Below.range hb3 hHeld) (fun hHeld2=>?_);clear hK K;refine Wl.r 2 (fun K hK=>?_);go_simp
 refine(zab b Hb.out hsl zac n5u gs n5u _ _ _ _ _ ((HN.o.keep hu id).below hb3')).mono ?_;rintro e w4 ⟨⟨rs,hr1,hr2,rfl⟩,hb4⟩;have hb4':Below w2.heap.size w2 w4:=hb3'.trans (hb4.mono hb3'.size);have hg4:=(hb4'.block _ (zf hg)).trans hg;have hth:w4.there (w.heap.size+1) 0 n5u:=fun j hj=>by
  rw[za hg4,zg hg4];exact⟨by rw[qYe,qxe (by simpa[zL]using hj)];rfl,rfl⟩
 have hrl:rs.length=n5u/\∀v∈rs,v.oneCell'=true:=by rw[hr2 rfl];exact⟨rfl,wE⟩
 have HR2:Hid (rs=zL):=hr2 rfl;clear hr1 hr2;have hst:w4.there (w.heap.size+1) 0 rs.toArray.size:=by rw[show rs.toArray.size=n5u by simpa using hrl.1];exact hth
 have hst2:w4.there (w.heap.size+1) 0 rs.length:=by rw[hrl.1];exact hth
 have hsz2:(prog.info? n4u).map (·.size)=some rs.toArray.size:=by rw[show rs.toArray.size=n5u by simpa using hrl.1];exact q6u
 have hsz3:(prog.info? n4u).map (·.size)=some rs.length:=by rw[hrl.1];exact q6u
 have hU5:Below w.heap.size w (w4.setCells (w.heap.size+1) 0 rs):=zk (hb2.trans (hb4'.mono hu.size)) (zq w4 (w.heap.size+1) 0 _) (qXv _) (fun k e=>oM);refine hK.o _ _ (Below.range hb4 hHeld2) (fun hHeld3=>?_);clear hK K;refine Wl.i [3,4] ?_;iterate 2 refine Wl.t hHeld3 ?_
 refine Wl.o ?_;refine Wl.r 5 (fun K hK=>?_);rw[if_pos oD];refine qZk _ _ _ rfl _ _ (List.toArray _) rfl rfl (hst) (hsz2) (qYu hrl.2) ?_;simp only[Act.put,qXi];refine hK.o _ _ ((zq w4 (w.heap.size+1) 0 rs).range hHeld3 oM) (fun hHeld4=>?_);clear hK K;refine Wl.r 6 (fun K hK=>?_);go_simp
 refine hK.o _ _ (hHeld4) (fun _=>?_);clear hK K;refine Wl.d ?_;have HE:=Y4 hU5 hst2 hsz3 HR2;clear hst hst2 hsz2 hsz3 hU5 hth hg4 hb4 hb4' hb3 hb3' hHeld hHeld2 hHeld3 hHeld4 hF hr hg hu hb2 hrl;go_wp2
 exact qYw (zt rfl _ _ (w.heap.size+1) 0 rs _ rfl (qYr _ _ _ _ HE.o.2.1) q7u rfl HE.o.2.2.1) rfl ⟨⟨rs,fun h=>(nomatch h),fun _=>HE.o.2.2.2.out,rfl⟩,HE.o.1⟩):P:=h
namespace fUnI
def zL:List Value:=[Value.int .i64 0,.int .i64 0,.int .i64 0,.int .i64 0]
theorem qZ:(zL.toArray).all (·.oneCell')=true:=by simp[zL,Value.oneCell']
theorem wE:∀v∈zL,v.oneCell'=true:=by intro v hv;simp[zL]at hv;subst hv;rfl
end fUnI
namespace fUnI
abbrev n1u:Nat:=339
theorem q2u:type_of% @func208:= @func208
theorem q3u:type_of% @ntmps208:= @ntmps208
abbrev n4u:Nat:=154
abbrev n5u:Nat:=4
theorem q6u:type_of% @uS:= @uS
theorem q7u:type_of% @underlying154:= @underlying154
end fUnI
open fUnI in
theorem VP{w:World}(b:Bk)(hb:b.length=64)(hsl:sealB b≠b)(k m gs cl:Nat)(fm fb:Nat)(cm cb:Array Value)(tv:Value)(hN:Nib w):
  Calls prog 208 #[.agg #[.int .i64 (k:Int),.slice (some ⟨gs,0,none⟩) m cl,tv,.func (.func fm) #[] cm,.func (.func fb) #[] cb],.agg (bkC b).toArray] w
   (yy w false [] zL 13):=wV
namespace fUnI
theorem q8u:type_of% @func139:= @func139
theorem q9u:type_of% @ntmps139:= @ntmps139
theorem zaa:type_of% @tM:= @tM
theorem zab:type_of% @VP:= @VP
abbrev zac:Nat:=4
end fUnI
open fUnI in
theorem VQ{w:World}(hN:Nib w)(b:Bk)(hb:b.length=64)(hsl:sealB b≠b):
  Calls prog 139 #[.agg (bkC b).toArray] w (yy w false [] zL 13):=wW
namespace fUnT
def zL:List Value:=[Value.int .i64 0,.int .i64 0,.int .i64 0,.int .i64 0,.int .i64 0,.int .i64 0]
theorem qZ:(zL.toArray).all (·.oneCell')=true:=by simp[zL,Value.oneCell']
theorem wE:∀v∈zL,v.oneCell'=true:=by intro v hv;simp[zL]at hv;subst hv;rfl
end fUnT
namespace fUnT
abbrev n1u:Nat:=346
theorem q2u:type_of% @func211:= @func211
theorem q3u:type_of% @ntmps211:= @ntmps211
abbrev n4u:Nat:=159
abbrev n5u:Nat:=6
theorem q6u:type_of% @Rk:= @Rk
theorem q7u:type_of% @underlying159:= @underlying159
end fUnT
open fUnT in
theorem VR{w:World}(b:Bk)(hb:b.length=64)(hsl:sealB b≠b)(k m gs cl:Nat)(fm fb:Nat)(cm cb:Array Value)(tv:Value)(hN:Nib w):
  Calls prog 211 #[.agg #[.int .i64 (k:Int),.slice (some ⟨gs,0,none⟩) m cl,tv,.func (.func fm) #[] cm,.func (.func fb) #[] cb],.agg (bkC b).toArray] w
   (yy w false [] zL 13):=wV
namespace fUnT
theorem q8u:type_of% @func143:= @func143
theorem q9u:type_of% @ntmps143:= @ntmps143
theorem zaa:type_of% @Zb:= @Zb
theorem zab:type_of% @VR:= @VR
abbrev zac:Nat:=5
end fUnT
open fUnT in
theorem VS{w:World}(hN:Nib w)(b:Bk)(hb:b.length=64)(hsl:sealB b≠b):
  Calls prog 143 #[.agg (bkC b).toArray] w (yy w false [] zL 13):=wW
namespace fUnF
def zL:List Value:=[Value.int .i64 0,.int .i64 0,.int .i64 0,.int .i64 0,.int .i64 0,.int .i64 0,.int .i64 0,.int .i64 0,.int .i64 0,.int .i64 0,.int .i64 0,.int .i64 0,.int .i64 0]
theorem qZ:(zL.toArray).all (·.oneCell')=true:=by simp[zL,Value.oneCell']
theorem wE:∀v∈zL,v.oneCell'=true:=by intro v hv;simp[zL]at hv;subst hv;rfl
end fUnF
namespace fUnF
abbrev n1u:Nat:=353
theorem q2u:type_of% @func214:= @func214
theorem q3u:type_of% @ntmps214:= @ntmps214
abbrev n4u:Nat:=165
abbrev n5u:Nat:=13
theorem q6u:type_of% @Rl:= @Rl
theorem q7u:type_of% @underlying165:= @underlying165
end fUnF
open fUnF in
theorem VT{w:World}(b:Bk)(hb:b.length=64)(hsl:sealB b≠b)(k m gs cl:Nat)(fm fb:Nat)(cm cb:Array Value)(tv:Value)(hN:Nib w):
  Calls prog 214 #[.agg #[.int .i64 (k:Int),.slice (some ⟨gs,0,none⟩) m cl,tv,.func (.func fm) #[] cm,.func (.func fb) #[] cb],.agg (bkC b).toArray] w
   (yy w false [] zL 13):=wV
namespace fUnF
theorem q8u:type_of% @func147:= @func147
theorem q9u:type_of% @ntmps147:= @ntmps147
theorem zaa:type_of% @uG:= @uG
theorem zab:type_of% @VT:= @VT
abbrev zac:Nat:=6
end fUnF
open fUnF in
theorem VU{w:World}(hN:Nib w)(b:Bk)(hb:b.length=64)(hsl:sealB b≠b):
  Calls prog 147 #[.agg (bkC b).toArray] w (yy w false [] zL 13):=wW
end Go.Proofs.YtfhfbpmlnjdfoaaGreatDoor
