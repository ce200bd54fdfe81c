/- What an array is behind ops, and what a block -/
import Derived.Test.YtpejdgiccaijfaaGreatDoorG38
set_option maxRecDepth 100000
set_option maxHeartbeats 4000000
namespace Go.Proofs.YtpejdgiccaijfaaGreatDoor.scriptModels
open Go Go.RowKit Go.ChangeShapes Go.WideShapes Go.ChangeAt Go.Proofs.YtpejdgiccaijfaaGreatDoor Tryz
theorem SW(bl:Nat)(h2:bl<=40){l:List O21}{v:Value}{w:World}(hr:Rd w 5 v l.length (Sm l))(ho:Ul l):Calls prog 17 #[.int .i64 (bl:Int),v] w (tk w (modelS bl l)):=by
 by_cases h:bl=0
 .subst h;exact Sp w
 .exact EG oM h2 hr ho
theorem SX(bl:Nat)(h2:bl<=40){l:List O21}{v:Value}{w:World}(hr:Rd w 4 v l.length (l.flatMap opP)):Calls prog 18 #[.int .i64 (bl:Int),v] w (tk w (modelS bl l)):=by
 by_cases h:bl=0
 .subst h;exact Sq hr
 .exact EK oM h2 hr
theorem zdy(b x y:Int)(l:List O21)(v:Value)(w:World)(hv:Rd w 5 v l.length (Sm l))(ho:Ul l)(nib:Nib w)(tur:Tur w):
  Calls prog 5 #[.int .i64 b,v,.agg #[.int .i64 x,.int .i64 y]] w fun e w'=>e=.returned (.bool true)/\Below w.heap.size w w':=by
 obtain⟨m,hm⟩:=qqe (w.heap.size);obtain⟨w1,hw1⟩:=qqe (w.alloc (.cells #[.int .i64 x,.int .i64 y] 54));have hu1:=qqu hw1;have g1:w1.heap[m]?=some (.cells #[.int .i64 x,.int .i64 y] 54 (0,0)):=by rw[hw1,hm];exact zc w _ rfl
 have k0:w1.cell? ⟨m,0,none⟩=some (.int .i64 x):=za g1 0;have k1:w1.cell? ⟨m,1,none⟩=some (.int .i64 y):=za g1 1;have HA:=qqh (fun W (hu:Upd (fun _=>False) w1 W)=>Ae W (nib.keep (hu1.trans hu) id) (tur.keep (hu1.trans hu) id));have hle:=hv.le;unfold maxLen at hle;have hv1:=hv.keep hu1 (fun _ _ h=>h);have H:=Y5 hw1 hm hu1 hv1 ho;obtain⟨ao,cc,rfl⟩:=hv.jU;clear hw1 hm hu1 g1 nib tur hv hv1;by_cases hbad:b<0\/b>40\/(l.length:Int)>60
 .have hc:b<0\/(¬b<0/\b>40)\/(¬b<0/\¬b>40/\(l.length:Int)>60):=oM;clear hbad;rcases hc with c1|⟨c1,c2⟩|⟨c1,c2,c3⟩
  all_goals
   go_enter func5,ntmps5
   go_upto_region 1 with fail
   rw[<-H.o.1,<-H.o.2.1];go_wp2_with fail
   refine(HA.o _ (uur _ _)).mono ?_;rintro e w2 ⟨rfl,hb2⟩;have HB:=qqh (H.o.2.2.1.trans (uuo hb2));clear hb2;go_wp2
   go_ret
   exact⟨rfl,HB.o.below⟩
 .have c1:¬b<0:=fun h=>hbad (.inl h);have c2:¬b>40:=fun h=>hbad (.inr (.inl h));have c3:¬(l.length:Int)>60:=fun h=>hbad (.inr (.inr h));obtain⟨n,rfl⟩:=qxr (show 0<=b by omega);clear hbad;have hn:n<=40:=oM;have hl60:l.length<=60:=oM;have hud:=(uur (fun _=>False) w1).drew;have h64:=xJ n l;have hML:=yC n l;have HM:=qqh (SW n hn (H.o.2.2.2.1.keep hud (fun _ _ h=>h)) H.o.2.2.2.2);obtain⟨ML,hMl⟩:=qqe (modelS n l);obtain⟨F,hF⟩:=qqe (yl x y);have hFl:F.length=64:=by rw[hF];exact zX x y
  have heq:∀W:World,(binOp .eql 60 (.agg (bkC F).toArray) (.agg (bkC F).toArray)).run prog W=.ok (.bool true) W:=fun W=>by rw[qp F F hFl hFl];simp
  rw[<-hMl]at HM h64 hML;have HF:=Y6 hF hMl h64 hML hn hl60;clear hF hMl h64 hML hn hl60 hFl;go_enter func5,ntmps5
  go_upto_region 3 with fail
  rw[<-H.o.1,<-H.o.2.1];refine qZb (S:=fun W=>W.cell? ⟨m,0,none⟩=some (.int .i64 x)/\W.cell? ⟨m,1,none⟩=some (.int .i64 y)) kR (⟨by rw[qYh];exact k0,by rw[qYh];exact k1⟩) (fun hHeld=>?_);refine Wl.i [0,1,3,4] ?_;iterate 4 refine Wl.t hHeld ?_
  refine Wl.o ?_;refine Wl.r 2 (fun K hK=>?_);go_simp
  refine HM.o.mono ?_;rintro e y1 ⟨v1,rfl,z1,-,hb⟩;have hu1:=hud.trans (uuo (S:=fun _=>False) hb);have s1:=hu1.jS k0 id;have t1:=hu1.jS k1 id;have Z1:=qqh z1;have HP:=qqh (Sn (H.o.2.2.2.1.keep hu1 (fun _ _ h=>h)) HF.o.2.2.2.2.2);clear hb z1;refine hK.o _ _ (⟨s1,t1⟩) (fun hH1=>?_);clear hK K;refine Wl.r 5 (fun K hK=>?_);go_simp
  refine HP.o.mono ?_;rintro e y2 ⟨u2,rfl,z2,-,hb⟩;have Z2:=qqh (Z1.out.keep (uuo (S:=fun _=>False) hb) (fun _ _ h=>h));have hu2:=hu1.trans (uuo (S:=fun _=>False) hb);have s2:=hu2.jS k0 id;have t2:=hu2.jS k1 id;have HR:=qqh (SX n HF.o.2.2.2.2.1 z2.rd);rw[<-HF.o.2.1]at HR;clear hb z2;refine hK.o _ _ (⟨s2,t2⟩) (fun hH2=>?_);clear hK K;refine Wl.r 6 (fun K hK=>?_);go_simp
  refine HR.o.mono ?_;rintro e y3 ⟨v3,rfl,z3,-,hb⟩;have HS:=qqh (EH (Z2.out.keep (uuo (S:=fun _=>False) hb) (fun _ _ h=>h)).rd z3.rd HF.o.2.2.1);have hu3:=hu2.trans (uuo (S:=fun _=>False) hb);have s3:=hu3.jS k0 id;have t3:=hu3.jS k1 id;clear hb z3;refine hK.o _ _ (⟨s3,t3⟩) (fun hH3=>?_);clear hK K;refine Wl.r 7 (fun K hK=>?_);go_simp
  refine HS.o.mono ?_;rintro e y4 ⟨rfl,hx⟩;have hb:=hx.below;have hu4:=hu3.trans (uuo (S:=fun _=>False) hb);have s4:=hu4.jS k0 id;have t4:=hu4.jS k1 id;clear hb hx;refine hK.o _ _ (⟨s4,t4⟩) (fun hH4=>?_);clear hK K;refine Wl.i [8,9,10,11,12,14,15,16,17] ?_;iterate 9 refine Wl.t hH4 ?_
  refine Wl.o ?_;refine Wl.r 13 (fun K hK=>?_);go_simp
  refine(ZV x y _).mono ?_;rintro e y5 ⟨rfl,hb⟩;rw[<-HF.o.1];have hu5:=hu4.trans (uuo (S:=fun _=>False) hb);have s5:=hu5.jS k0 id;have t5:=hu5.jS k1 id;clear hb;refine hK.o _ _ (⟨s5,t5⟩) (fun hH5=>?_);clear hK K;refine Wl.r 18 (fun K hK=>?_);go_simp
  refine(Sk x y _).mono ?_;rintro e y6 ⟨rfl,hb⟩;rw[<-HF.o.1];have hu6:=hu5.trans (uuo (S:=fun _=>False) hb);have s6:=hu6.jS k0 id;have t6:=hu6.jS k1 id;clear hb;refine hK.o _ _ (⟨s6,t6⟩) (fun hH6=>?_);clear hK K;refine Wl.i [19] (Wl.t hH6 (Wl.o ?_));refine Wl.r 20 (fun K hK=>?_);go_simp
  refine hK.o _ _ (hH6) (fun hH7=>?_);clear hK K;refine Wl.i [21] (Wl.t hH7 (Wl.o ?_));refine Wl.r 22 (fun K hK=>?_);go_simp
  refine(HA.o _ hu6).mono ?_;rintro e y7 ⟨rfl,hb⟩;have hu7:=hu6.trans (uuo (S:=fun _=>False) hb);have s7:=hu7.jS k0 id;have t7:=hu7.jS k1 id;clear hb;refine hK.o _ _ (⟨s7,t7⟩) (fun hH8=>?_);clear hK K;refine Wl.r 23 (fun K hK=>?_);go_simp
  refine hK.o _ _ (hH8) (fun hH9=>?_);clear hK K;refine Wl.r 24 (fun K hK=>?_);go_simp
  refine hK.o _ _ (hH9) (fun hH10=>?_);clear hK K;refine Wl.d ?_;go_wp2
  go_ret
  exact⟨rfl,(H.o.2.2.1.trans hu7).below⟩
end Go.Proofs.YtpejdgiccaijfaaGreatDoor.scriptModels
