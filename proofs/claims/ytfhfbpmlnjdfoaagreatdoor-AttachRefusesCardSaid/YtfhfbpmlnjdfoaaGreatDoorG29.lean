/- lavabolaw14.Do -/
import Derived.Test.YtfhfbpmlnjdfoaaGreatDoorG28
set_option maxRecDepth 100000
set_option maxHeartbeats 4000000
namespace Go.Proofs.YtfhfbpmlnjdfoaaGreatDoor
open Go Go.RowKit Tryz
theorem zV{own own':Nat->Nat}{w w':World}{b:Nat}{o:Obj}(d:Did own own' w w')(hb:w.heap[b]?=some o)(h0:own b=0):w'.heap[b]?=some o/\own' b=0:=
 ⟨(d.upd.block _ (zf hb) (fun h=>h.1 h0)).trans hb,(d.old _ (zf hb)).trans h0⟩
structure Run14(own:Nat->Nat)(w:World)(c:Nat)(n:CaN)(p:CaP)(a:CaS)(N:Nat)(B:Nat->Prop)(pp M:Nat)(vo:Value)(xs:List Value):Prop where
 ca:CaAt own w c n p a
 gd:a.Gd n N
 ps:Pst B w pp n.bl M vo xs
 ob:∀j,B j->j<w.heap.size->own j=0/\j≠0/\j≠1
def Did14(own:Nat->Nat)(w:World)(B:Nat->Prop)(own':Nat->Nat)(w':World)(B':Nat->Prop):Prop:=
 Upd (fun j=>own j≠0\/B j) w w'/\(∀j,j<w.heap.size->own' j=own j)/\∀j,j<w.heap.size->B' j->B j
def zaF(own:Nat->Nat)(w:World)(c:Nat)(n:CaN)(p:CaP)(a':CaS)(N:Nat)(B:Nat->Prop)(pp M:Nat)(e:Ending)(w':World):Prop:=
 ∃(cd:Int) (ok:Bool),e=.returned (.tuple #[.int .i64 cd,.bool ok])/\∃own' B' vo' xs',Run14 own' w' c n p a' N B' pp M vo' xs'/\Did14 own w B own' w' B'
section
variable{own:Nat->Nat}{w w':World}{c:Nat}{n:CaN}{p:CaP}{a:CaS}{N:Nat}{B:Nat->Prop}{pp M:Nat}{vo:Value}{xs:List Value}
theorem Did14.refl(own:Nat->Nat)(w:World)(B:Nat->Prop):Did14 own w B own w B:=⟨uur _ w,fun _ _=>rfl,fun _ _ h=>h⟩
theorem Did14.trans{own2 own3:Nat->Nat}{w2 w3:World}{B2 B3:Nat->Prop}(h:Did14 own w B own2 w2 B2)(g:Did14 own2 w2 B2 own3 w3 B3):Did14 own w B own3 w3 B3:=
 ⟨h.1.new g.1 (fun i hi hs=>by
  rcases hs with hs|hs
  .rw [h.2.1 i hi]at hs;exact .inl hs
  .exact .inr (h.2.2 i hi hs)),fun j hj=>(g.2.1 j (qXy hj h.1.size)).trans (h.2.1 j hj),fun j hj hb=>h.2.2 j hj (g.2.2 j (qXy hj h.1.size) hb)⟩
theorem Run14.did{own':Nat->Nat}{a':CaS}{N':Nat}(h:Run14 own w c n p a N B pp M vo xs)(hca:CaAt own' w' c n p a')(hr:a'.Gd n N')(d:Did own own' w w'):
  Run14 own' w' c n p a' N' (fun j=>B j/\j<w.heap.size) pp M vo xs/\Did14 own w B own' w' (fun j=>B j/\j<w.heap.size):=by
 have hlt:∀j,B j->j<w.heap.size->own j=0:=fun j hb hj=>(h.ob j hb hj).1;have hps:Pst (fun j=>B j/\j<w.heap.size) w pp n.bl M vo xs:=
  {h.ps with
   bp:=⟨h.ps.bp,zf h.ps.str⟩
   bo:=fun g hg=>⟨⟨(h.ps.bo g hg).1,h.ps.o.lt hg⟩,(h.ps.bo g hg).2⟩
   bx:=fun x hx g hg=>⟨⟨(h.ps.bx x hx g hg).1,by obtain⟨L,-,-,-,hs⟩:=h.ps.els x hx;exact hs.lt hg⟩,(h.ps.bx x hx g hg).2⟩}
 refine⟨⟨hca,hr,hps.keep d.upd (fun j hj hs=>hs.1 (hlt j hj.1 hj.2)),fun j hj _=>?_⟩,d.upd.mono (fun j hj hs=> .inl hs.1),d.old,fun j hj hb=>hb.1⟩;obtain⟨h1,h2,h3⟩:=h.ob j hj.1 hj.2;exact⟨(d.old j hj.2).trans h1,h2,h3⟩
theorem Run14.past{M':Nat}{vo':Value}{xs':List Value}(h:Run14 own w c n p a N B pp M vo xs)(hP:Pst (fun j=>B j\/w.heap.size<=j) w' pp n.bl M' vo' xs')(hu:Upd (fun j=>B j\/w.heap.size<=j) w w'):
  Run14 own w' c n p a N (fun j=>(B j/\j<w.heap.size)\/w.heap.size<=j) pp M' vo' xs'/\Did14 own w B own w' (fun j=>(B j/\j<w.heap.size)\/w.heap.size<=j):=by
 have hu2:Upd (fun j=>B j/\j<w.heap.size) w w':=hu.mono (fun j hj hs=>by rcases hs with hs|hs;exact⟨hs,hj⟩;omega);have hca:=h.ca.kv hu2 (fun j hj=>h.ob j hj.1 hj.2);refine⟨⟨hca,h.gd,?_,fun j hj hlt=>?_⟩,hu.mono (fun j hj hs=>by rcases hs with hs|hs;exact .inr hs;omega),fun _ _=>rfl,fun j hj hb=>?_⟩
 .exact hP.wide (fun j hj=>by
   rcases Nat.lt_or_ge j w.heap.size with h1|h1
   .rcases hj with hb|hb
    .exact .inl ⟨hb,h1⟩
    .omega
   .exact .inr h1)
 .rcases hj with hj|hj
  .exact h.ob j hj.1 hj.2
  .have h1:=h.ca.nib.lt;have h2:=h.ca.tur.lt;exact⟨h.ca.far j hj,oM,oM⟩
 .rcases hb with hb|hb
  .exact hb.1
  .omega
theorem Run14.mono(h:Run14 own w c n p a N B pp M vo xs){N' M':Nat}(hN:N<=N')(hM:M<=M'):Run14 own w c n p a N' B pp M' vo xs:=
 ⟨h.ca,h.gd.mono hN,{h.ps with els:=fun x hx=>by obtain⟨L,h1,h2,h3⟩:=h.ps.els x hx;exact⟨L,h1,qXx h2 hM,h3⟩},h.ob⟩
theorem Run14.new(h:Run14 own w c n p a N B pp M vo xs)(hu:Upd (fun _=>False) w w'):Run14 own w' c n p a N B pp M vo xs/\Did14 own w B own w' B:=
 ⟨⟨h.ca.new hu,h.gd,h.ps.keep hu (fun _ _ h=>h),fun j hb hj=>by
  rcases Nat.lt_or_ge j w.heap.size with h1|h1
  .exact h.ob j hb h1
  .have h2:=h.ca.nib.lt;have h3:=h.ca.tur.lt;exact⟨h.ca.far j h1,oM,oM⟩⟩,hu.mono fE,fun _ _=>rfl,fun _ _ h=>h⟩
theorem does14(h:Run14 own w c n p a N B pp M vo xs)(hN:N+3*n.pa+n.jo+6<=50000)(hM:M<=1000)(hM1:1<=M)(dd blk md:Int)(nv:Nat)(hnv:nv<=255):
  Calls prog 32 #[ptr c,ptr pp,.agg #[.int .i64 dd,.int .i64 blk,.int .i64 (nv:Int),.int .i64 md]] w (zaF own w c n p (a.does14 n dd blk nv md).1 (N+3*n.pa+n.jo+6) B pp (M+2)):=by
 obtain⟨w1,hw1⟩:=qqe (w.alloc (.cells #[.int .i64 dd,.int .i64 blk,.int .i64 (nv:Int),.int .i64 md] 84));have hu1:=qqu hw1;have g1:=qqg hw1;obtain⟨q,hq⟩:=qqe (w.heap.size);have hNm:=h.ps.o.le;have hgd:=h.gd.does14 h.ca.jg h.ca.nx1 h.ca.ok.j1 dd blk nv md;obtain⟨⟨RA,RC⟩,hR⟩:∃r,r=a.does14 n dd blk nv md:=⟨_,rfl⟩
 rw[<-hR]at hgd⊢;dsimp only at hgd⊢;have HR:=Y2 hR hgd;obtain⟨ao,cap,hvo⟩:=h.ps.o.rd.j7;subst hvo;have c0:=za h.ps.str 0;simp only[qyv,qyl]at c0;have cp:=hu1.j4 c0 id;have cd0:=za g1 0;have cd1:=za g1 1;have cd2:=za g1 2;have cd3:=za g1 3;simp only[qyv,qyl,qyk]at cd0 cd1 cd2 cd3;rw[<-hq]at cd0 cd1 cd2 cd3;have H:=Y4 h hu1 g1 hw1;have HQ:=qqh hq;clear h hu1 g1 c0 hw1 hq hR hgd;go_enter func32,ntmps32
 go_wp2_with fail
 rw[<-H.o.2.2.2,<-HQ.o];refine qZj (S:=fun W=>W.cell? ⟨q,1,none⟩=some (.int .i64 blk)/\W.cell? ⟨pp,0,none⟩=some (.slice ao n.bl cap)) kR (⟨by rw[qYo];exact cd1,by rw[qYo];exact cp⟩) (fun hHeld=>?_);refine Wl.i [0,1] ?_;iterate 2 refine Wl.t hHeld ?_
 refine Wl.o ?_;obtain⟨th,hth⟩:∃th:Bool,(th=true↔0<=blk/\blk<(n.bl:Int)):=⟨decide (0<=blk/\blk<(n.bl:Int)),oe⟩
 have HT:=qqh hth;by_cases hb0:0<=blk
 case' pos=>
  refine qZf (i:=2) (v:=.bool true) rfl kR kR kR (fun _ _ _ h=>h) (Or.inl ⟨by rfl,?_⟩) hHeld ?_
  .intro W hSw;go_simp
  simp only[qzc,qyw,qyx,Act.put,qXi,qXl,qXk];refine Wl.i [3,4,5,6,7,8,9,10] ?_;iterate 8 refine Wl.t hHeld ?_
  refine Wl.o ?_;refine qZf (i:=11) (v:=.bool th) rfl kR kR kR (fun _ _ _ h=>h) (Or.inl ⟨by rfl,?_⟩) hHeld ?_
  .intro W hSw;have e:th=decide (blk<(n.bl:Int)):=by
    cases th
    .simp only[Bool.false_eq_true,false_iff,not_and]at hth;have:=hth hb0;simp;omega
    .have:=(hth.1 rfl).2;simp;omega
   subst e;go_simp
  simp only[qzc,qyw,qyx,Act.put,qXi,qXl,qXk]
 case' neg=>
  have hf:th=false:=by cases th;rfl;exact absurd (hth.1 rfl).1 hb0
  subst hf;refine qZf (i:=2) (v:=.bool false) rfl kR kR kR (fun _ _ _ h=>h) (Or.inl ⟨by rfl,?_⟩) hHeld ?_
  .intro W hSw;go_simp
  simp only[qzc,qyw,qyx,Act.put,qXi,qXl,qXk];refine Wl.i [3,4,5,6,7,8,9,10,11] ?_;iterate 9 refine Wl.t hHeld ?_
  refine Wl.o ?_
 all_goals (try clear hb0)
 all_goals try cases th
 all_goals
  clear hth;refine Wl.i [12] ?_;refine Wl.t hHeld ?_;refine Wl.o ?_;refine Wl.r 13 (fun K hK=>?_);go_simp
  refine hK.o _ _ hHeld (fun _=>?_);clear hK K;refine Wl.d ?_;have u01:Upd (fun _=>False) w w1.drew:=H.o.2.1.trans ((uur (fun _=>False) w1).drew);have R1:=H.o.1.did (H.o.1.ca.new u01) H.o.1.gd (H.o.1.ca.ki u01);have g1:w1.drew.heap[q]?=some (.cells #[.int .i64 dd,.int .i64 blk,.int .i64 (nv:Int),.int .i64 md] 84 (0,0)):=by rw[HQ.o];exact H.o.2.2.1
  have oq:own q=0:=by rw[HQ.o];exact H.o.1.ca.far _ (qXv _)
  have H1:=Y3 R1 g1 oq;have e0:w1.drew.cell? ⟨q,0,none⟩=some (.int .i64 dd):=by rw[qYo];exact cd0
  have e1:w1.drew.cell? ⟨q,1,none⟩=some (.int .i64 blk):=by rw[qYo];exact cd1
  have e2:w1.drew.cell? ⟨q,2,none⟩=some (.int .i64 (nv:Int)):=by rw[qYo];exact cd2
  have e3:w1.drew.cell? ⟨q,3,none⟩=some (.int .i64 md):=by rw[qYo];exact cd3
  generalize w1.drew=wd at*;clear cp cd0 cd1 cd2 cd3 hHeld R1 g1 oq u01;by_cases h3:dd=3
  .subst h3;have hRe:a.kh n=(RA,RC):=by rw[HR.o.1];simp[CaS.does14]
   have hcl:=vY H1.o.1.1.ca H1.o.1.1.gd.fit.w1 (by have h1:=H1.o.1.1.gd.fit.dO;have h2:=H1.o.1.1.ca.jg.len;omega);rw[hRe]at hcl;have HO:=qqh hcl;clear hcl hRe;go_wp2_with fail
   refine HO.o.mono ?_;rintro e w5 ⟨rfl,own5,hca5,d5⟩;clear e0 e1 e2 e3 HO;have R5:=H1.o.1.1.did hca5 HR.o.2 d5;have g5:=zV d5 H1.o.2.1 H1.o.2.2;have c50:=za g5.1 0;have c53:=za g5.1 3;have H5:=Y3 R5 g5 (H1.o.1.2.trans R5.2);simp only[qyv,qyl,qyk]at c50 c53;clear hca5 d5 R5 g5;have HCm:=qqh (tW H5.o.1.1.ps (by omega:M<=100000) hM1);by_cases hc:RC=0
   .subst hc;go_wp2_with fail
    refine HCm.out.mono ?_;rintro e w6 ⟨rfl,vo6,xs6,hp6,hu6⟩;have R6:=H5.o.1.1.past hp6 hu6;have H6:=Y2 R6 (H5.o.2.2.trans R6.2);clear hp6 hu6 R6 HCm c50 c53;go_wp2
    go_ret2
    exact⟨_,_,rfl,_,_,_,_,H6.o.1.1.mono oM oM,H6.o.2⟩
   .have q0:(RC==0)=false:=by simpa using hc
    have HK:=qqh hc;clear hc;go_wp2
    go_ret2
    exact⟨_,_,rfl,_,_,_,_,H5.o.1.1.mono oM oM,H5.o.2.2⟩
  by_cases h4:dd=4
  .subst h4;have hRe:a.ckpt n=(RA,RC):=by rw[HR.o.1];simp[CaS.does14]
   have hcl:=ZY H1.o.1.1.ca H1.o.1.1.gd.fit.sm (by have h1:=H1.o.1.1.gd.fit.dO;omega);rw[hRe]at hcl;have HO:=qqh hcl;clear hcl hRe;go_wp2_with fail
   refine HO.o.mono ?_;rintro e w5 ⟨rfl,own5,hca5,d5⟩;clear e0 e1 e2 e3 HO;have R5:=H1.o.1.1.did hca5 HR.o.2 d5;have g5:=zV d5 H1.o.2.1 H1.o.2.2;have c50:=za g5.1 0;have c53:=za g5.1 3;have H5:=Y3 R5 g5 (H1.o.1.2.trans R5.2);simp only[qyv,qyl,qyk]at c50 c53;clear hca5 d5 R5 g5;have HCm:=qqh (tW H5.o.1.1.ps (by omega:M<=100000) hM1);by_cases hc:RC=0
   .subst hc;go_wp2_with fail
    refine HCm.out.mono ?_;rintro e w6 ⟨rfl,vo6,xs6,hp6,hu6⟩;have R6:=H5.o.1.1.past hp6 hu6;have H6:=Y2 R6 (H5.o.2.2.trans R6.2);clear hp6 hu6 R6 HCm c50 c53;go_wp2
    go_ret2
    exact⟨_,_,rfl,_,_,_,_,H6.o.1.1.mono oM oM,H6.o.2⟩
   .have q0:(RC==0)=false:=by simpa using hc
    have HK:=qqh hc;clear hc;go_wp2
    go_ret2
    exact⟨_,_,rfl,_,_,_,_,H5.o.1.1.mono oM oM,H5.o.2.2⟩
  by_cases h6:dd=6
  .subst h6;have hRe:a.ky n blk=(RA,RC):=by rw[HR.o.1];simp[CaS.does14]
   have hcl:=TN H1.o.1.1.ca H1.o.1.1.gd oM blk;rw[hRe]at hcl;have HO:=qqh hcl;clear hcl hRe;go_wp2_with fail
   refine HO.o.mono ?_;rintro e w5 ⟨rfl,own5,hca5,d5⟩;clear e0 e1 e2 e3 HO;have R5:=H1.o.1.1.did hca5 HR.o.2 d5;have g5:=zV d5 H1.o.2.1 H1.o.2.2;have c50:=za g5.1 0;have c53:=za g5.1 3;have H5:=Y3 R5 g5 (H1.o.1.2.trans R5.2);simp only[qyv,qyl,qyk]at c50 c53;clear hca5 d5 R5 g5;by_cases hc:RC=0
   .subst hc;go_wp2
    go_ret2
    exact⟨_,_,rfl,_,_,_,_,H5.o.1.1.mono oM oM,H5.o.2.2⟩
   .have q0:(RC==0)=false:=by simpa using hc
    have HK:=qqh hc;clear hc;go_wp2
    go_ret2
    exact⟨_,_,rfl,_,_,_,_,H5.o.1.1.mono oM oM,H5.o.2.2⟩
  by_cases h5:dd=5
  .subst h5;have hRe:((CaS.kq n (nv%4) 0 a).1,(CaS.kq n (nv%4) 0 a).2.2)=(RA,RC):=by rw[HR.o.1];simp[CaS.does14]
   have hmm:nv%4*(n.pa+1)<=3*(n.pa+1):=qYb _ oM;have hev:=XE H1.o.1.1.ca H1.o.1.1.gd.fit (nv%4) oM oM;have hrem:Int.tmod (nv:Int) 4=((nv%4:Nat):Int):=by rw[Int.tmod_eq_emod_of_nonneg oM];simp
   rw[(Prod.mk.inj hRe).1,(Prod.mk.inj hRe).2,<-hrem]at hev;obtain⟨gg,hgg⟩:∃gg:Int,gg=((CaS.kq n (nv%4) 0 a).2.1:Int):=⟨_,rfl⟩
   rw[<-hgg]at hev;have HO:=qqh hev;clear hev hrem hgg hRe hmm;go_wp2_with fail
   refine HO.o.mono ?_;rintro e w5 ⟨rfl,own5,hca5,d5⟩;clear e0 e1 e2 e3 HO;have R5:=H1.o.1.1.did hca5 HR.o.2 d5;have g5:=zV d5 H1.o.2.1 H1.o.2.2;have c50:=za g5.1 0;have c53:=za g5.1 3;have H5:=Y3 R5 g5 (H1.o.1.2.trans R5.2);simp only[qyv,qyl,qyk]at c50 c53;clear hca5 d5 R5 g5;by_cases hc:RC=0
   .subst hc;go_wp2
    go_ret2
    exact⟨_,_,rfl,_,_,_,_,H5.o.1.1.mono oM oM,H5.o.2.2⟩
   .have q0:(RC==0)=false:=by simpa using hc
    have HK:=qqh hc;clear hc;go_wp2
    go_ret2
    exact⟨_,_,rfl,_,_,_,_,H5.o.1.1.mono oM oM,H5.o.2.2⟩
  by_cases h7:dd=7
  .subst h7;have hRe:(a.plan14 md nv,(0:Int))=(RA,RC):=by rw[HR.o.1];simp[CaS.does14]
   have HRA:=qqh (Prod.mk.inj hRe);have HO:=qqh (WZ H1.o.1.1.ca);have hrem:Hid ((nv:Int)%2=((nv%2:Nat):Int)):=qqh oM;clear hRe;go_wp2_with fail
   refine HO.o.mono ?_;rintro e w4 ⟨rfl,own4,h4,d4⟩;have g4:=zV d4 H1.o.2.1 H1.o.2.2;have k2:=za g4.1 2;have k3:=za g4.1 3;simp only[qyv,qyl,qyk]at k2 k3;obtain⟨xn,hxn⟩:∃xn:Int,xn=(nv:Int)%2:=⟨_,rfl⟩
   obtain⟨w5',hw5⟩:=qqe (w4.alloc (.cells #[.int .i64 xn] 3));have hu5:=qqu hw5;have hrd:Rd w5' 1 (.slice (some ⟨w4.heap.size,0,none⟩) 1 1) 1 (ints [xn]):=by rw[hw5];exact Rd.fresh w4 (ints [xn]) 3 1 rfl og
   have hx2:∀x∈[xn],0<=x/\x<=2:=fun x hx=>by rw[qzy.1 hx,hxn,hrem.out];omega
   have hp:=H1.o.1.1.gd.pd;have hb:=H1.o.1.1.gd.pb;have hs:=XO (h4.new hu5) (vk:=.slice (some ⟨w4.heap.size,0,none⟩) 1 1) (l:=[xn]) hrd hx2 (by show a.dP.length+1<=65536;omega);have ht:=Yh (h4.new hu5) (vk:=.slice (some ⟨w4.heap.size,0,none⟩) 1 1) (l:=[xn]) hrd hx2 (by show a.bP.length+1<=65536;omega);have hxr:xn=((nv%2:Nat):Int):=by rw[hxn,hrem.out]
   have HX:=Y3 hxr hw5 (d4.trans (h4.ki hu5));have HP:=Y2 hs ht;rw[hxn]at hw5;have HW5:=qqh hw5;clear hs ht hrd hx2 hu5 hw5 h4 d4 hp hb e0 e1 e2 e3 HO hxn hrem hxr;by_cases hmd:md=0
   case' pos=>
    have q1:(md !=0)=false:=by simp[hmd]
    have hr:a.plan14 md nv={a with dP:=a.dP++[xn]}:=by unfold CaS.plan14;rw[if_pos hmd,HX.o.1]
    have HC:=qqh HP.o.1
   case' neg=>
    have q1:(md !=0)=true:=by simpa using hmd
    have hr:a.plan14 md nv={a with bP:=a.bP++[xn]}:=by unfold CaS.plan14;rw[if_neg hmd,HX.o.1]
    have HC:=qqh HP.o.2
   all_goals
    have HM:=qqh hmd;rw[HRA.o.1]at hr;have Hr:=qqh hr;clear hmd HP hr;go_wp2_with fail
    rw[<-HW5.o];refine HC.o.mono ?_;rintro e w5 ⟨rfl,own5,hca5',d5'⟩;have hca5:CaAt own5 w5 c n p RA:=by rw[Hr.out];exact hca5'
    have d5:=HX.o.2.2.trans d5';clear hca5' d5' k2 k3 g4 q1;have R5:=H1.o.1.1.did hca5 HR.o.2 d5;have g5:=zV d5 H1.o.2.1 H1.o.2.2;have c50:=za g5.1 0;have c53:=za g5.1 3;have H5:=Y3 R5 g5 (H1.o.1.2.trans R5.2);simp only[qyv,qyl,qyk]at c50 c53;clear hca5 d5 R5 g5;go_wp2
    go_ret2
    exact⟨_,_,rfl,_,_,_,_,H5.o.1.1.mono oM oM,H5.o.2.2⟩
  by_cases h0:dd=0
  .subst h0;have hRe:a.kF n blk (fillB nv) md=(RA,RC):=by rw[HR.o.1];simp[CaS.does14]
   obtain⟨y,hy⟩:=qqe (fillB nv);have hyl:y.length=64:=by rw[hy];exact vF nv
   rw[<-hy]at hRe;have HF:=Y3 hy hRe (XJ nv hnv);clear hy hRe;go_wp2_with fail
   refine qZj (S:=fun W=>W.cell? ⟨q,1,none⟩=some (.int .i64 blk)/\W.cell? ⟨q,2,none⟩=some (.int .i64 (nv:Int))/\W.cell? ⟨q,3,none⟩=some (.int .i64 md)) kR (⟨by rw[qYo];exact e1,by rw[qYo];exact e2,by rw[qYo];exact e3⟩) (fun hHeld=>?_);refine Wl.i [0,1,2,3,4,6,7] ?_;iterate 7 refine Wl.t hHeld ?_
   refine Wl.o ?_;refine Wl.r 5 (fun K hK=>?_);go_simp
   refine(HF.o.2.2 wd.drew).mono ?_;rintro e w4 ⟨rfl,hb4⟩;rw[<-HF.o.1];have u4:Upd (fun _=>False) wd w4:=((uur _ wd).drew).trans (uuo hb4);have hcl:=Sc (H1.o.1.1.ca.new u4) H1.o.1.1.gd.fit oM H1.o.1.1.gd.tie blk y hyl md;rw[HF.o.2.1]at hcl;have HO:=qqh hcl;have k1:=u4.j4 e1 id;have k2:=u4.j4 e2 id;have k3:=u4.j4 e3 id;have HU:=qqh u4;refine hK.o _ _ ⟨k1,k2,k3⟩ (fun _=>?_);clear hK K hHeld u4 hcl hb4 e0 e1 e2 e3 k1 k2 k3;refine Wl.r 8 (fun K hK=>?_);go_simp
   refine HO.o.mono ?_;rintro e w5 ⟨rfl,own5,hca5,d5'⟩;have d5:=(H1.o.1.1.ca.ki HU.o).trans d5';clear HO d5';have R5:=H1.o.1.1.did hca5 HR.o.2 d5;have g5:=zV d5 H1.o.2.1 H1.o.2.2;have c50:=za g5.1 0;have c53:=za g5.1 3;have H5:=Y3 R5 g5 (H1.o.1.2.trans R5.2);simp only[qyv,qyl,qyk]at c50 c53;clear hca5 d5 R5 g5;have k1:w5.cell? ⟨q,1,none⟩=some (.int .i64 blk):=by have:=za H5.o.2.1.1 1;simpa using this
   have k2:w5.cell? ⟨q,2,none⟩=some (.int .i64 (nv:Int)):=by have:=za H5.o.2.1.1 2;simpa using this
   refine hK.o _ _ ⟨k1,k2,c53⟩ (fun hHeld=>?_);clear hK K k1 k2;refine Wl.i [9] (Wl.t hHeld (Wl.o ?_));refine Wl.d ?_;clear hHeld
   first
   |obtain⟨i,hi,hib⟩:∃i:Nat,blk=(i:Int)/\i<n.bl:=by
     have:=HT.o.1 (by first|rfl|trivial);exact⟨blk.toNat,oM,oM⟩
    subst hi;have c51:w5.cell? ⟨q,1,none⟩=some (.int .i64 (i:Int)):=by have:=za H5.o.2.1.1 1;simpa using this
    have c52:w5.cell? ⟨q,2,none⟩=some (.int .i64 (nv:Int)):=by have:=za H5.o.2.1.1 2;simpa using this
    by_cases hc:RC=0
    .subst hc;have HPw:=qqh (rK H5.o.1.1.ps (by omega:M<=100000) hib (nv:Int) oM);go_wp2_with fail
     refine HPw.out.mono ?_;rintro e w6 ⟨rfl,vo6,xs6,hp6,hu6⟩;have R6:=H5.o.1.1.past hp6 hu6;have c60:w6.cell? ⟨q,0,none⟩=some (.int .i64 0):=by
      have l5:=zf H5.o.2.1.1;refine hu6.j4 c50 (fun h=>?_);rcases h with h|h
      .have:=HQ.o;omega
      .have h:w5.heap.size<=q:=h;omega
     have H6:=Y2 R6 (H5.o.2.2.trans R6.2);clear hp6 hu6 R6 HPw c50 c51 c52 c53;go_wp2
     go_ret2
     exact⟨_,_,rfl,_,_,_,_,H6.o.1.1.mono oM oM,H6.o.2⟩
    .have q0:(RC==0)=false:=by simpa using hc
     have q1:(RC !=0)=true:=by simpa using hc
     have HK:=qqh hc;clear hc;have HPm:=qqh (rN H5.o.1.1.ps (by omega:M<=100000) hib (nv:Int) oM);by_cases hm0:0<=md
     .by_cases hm2:md<=2
      .go_wp2_with fail
       refine HPm.out.mono ?_;rintro e w6 ⟨rfl,vo6,xs6,hp6,hu6⟩;have R6:=H5.o.1.1.past hp6 hu6;have H6:=Y2 R6 (H5.o.2.2.trans R6.2);clear hp6 hu6 R6 HPm c50 c51 c52 c53;go_wp2
       go_ret2
       exact⟨_,_,rfl,_,_,_,_,H6.o.1.1.mono oM oM,H6.o.2⟩
      .clear HPm;go_wp2
       go_ret2
       exact⟨_,_,rfl,_,_,_,_,H5.o.1.1.mono oM oM,H5.o.2.2⟩
     .clear HPm;go_wp2
      go_ret2
      exact⟨_,_,rfl,_,_,_,_,H5.o.1.1.mono oM oM,H5.o.2.2⟩
   |by_cases hc:RC=0
    .subst hc;go_wp2
     go_ret2
     exact⟨_,_,rfl,_,_,_,_,H5.o.1.1.mono oM oM,H5.o.2.2⟩
    .have q0:(RC==0)=false:=by simpa using hc
     have HK:=qqh hc;clear hc;go_wp2
     go_ret2
     exact⟨_,_,rfl,_,_,_,_,H5.o.1.1.mono oM oM,H5.o.2.2⟩
  by_cases h1:dd=1
  .subst h1;have hRe:a.gone n blk=(RA,RC):=by rw[HR.o.1];simp[CaS.does14]
   have hfz:=zg H1.o.2.1 2;obtain⟨w2,hw2⟩:=qqe (wd.setCell ⟨q,2,none⟩ (.int .i64 0));have hus:Upd (fun j=>j=q) wd w2:=by rw[hw2];exact zj wd q 2 (.int .i64 0)
   have gq:w2.heap[q]?=some (.cells #[.int .i64 1,.int .i64 blk,.int .i64 0,.int .i64 md] 84 (0,0)):=by rw[hw2];have:=zi H1.o.2.1 2 (.int .i64 0);simpa using this
   have hqn:∀j,j=q->own j=0/\j≠0/\j≠1:=fun j e=>by
    subst e;refine⟨H1.o.2.2,fun e=>?_,fun e=>?_⟩
    .have:=H.o.1.ca.nib.lt;have:=HQ.o;omega
    .have:=H.o.1.ca.tur.lt;have:=HQ.o;omega
   have R2:Run14 own w2 c n p a N (fun j=>B j/\j<w.heap.size) pp M (.slice ao n.bl cap) xs:=⟨H1.o.1.1.ca.kv hus hqn,H1.o.1.1.gd,H1.o.1.1.ps.keep hus (fun j hj e=>by have:=HQ.o;omega),fun j hj hlt=>by
    have hs:=hus.size;exact H1.o.1.1.ob j hj (by have:=zf H1.o.2.1;have:=HQ.o;omega)⟩
   have D2:Did14 own w B own w2 (fun j=>B j/\j<w.heap.size):=⟨H1.o.1.2.1.new hus (fun i hi e=>by have:=HQ.o;omega),H1.o.1.2.2.1,H1.o.1.2.2.2⟩
   have H2:=Y3 R2 D2 gq;have k1:=za gq 1;simp only[qyv,qyl,qyk]at k1;have hcl:=WY R2.ca R2.gd.fit oM R2.gd.tie blk;rw[hRe]at hcl;have HO:=qqh hcl;rw[hw2]at k1;have HW2:=qqh hw2;clear hcl hRe hus gq hqn R2 D2 hw2;go_wp2_with fail
   rw[<-HW2.o];refine HO.o.mono ?_;rintro e w5 ⟨rfl,own5,hca5,d5⟩;clear e0 e1 e2 e3 HO;have R5:=H2.o.1.did hca5 HR.o.2 d5;have g5:=zV d5 H2.o.2.2 H1.o.2.2;have c50:=za g5.1 0;have c53:=za g5.1 3;have H5:=Y3 R5 g5 (H2.o.2.1.trans R5.2);simp only[qyv,qyl,qyk]at c50 c53;clear hca5 d5 R5 g5 k1 hfz
   first
   |obtain⟨i,hi,hib⟩:∃i:Nat,blk=(i:Int)/\i<n.bl:=by
     have:=HT.o.1 (by first|rfl|trivial);exact⟨blk.toNat,oM,oM⟩
    subst hi;have c51:w5.cell? ⟨q,1,none⟩=some (.int .i64 (i:Int)):=by have:=za H5.o.2.1.1 1;simpa using this
    have c52:w5.cell? ⟨q,2,none⟩=some (.int .i64 0):=by have:=za H5.o.2.1.1 2;simpa using this
    by_cases hc:RC=0
    .subst hc;have HPw:=qqh (rK H5.o.1.1.ps (by omega:M<=100000) hib 0 oM);go_wp2_with fail
     refine HPw.out.mono ?_;rintro e w6 ⟨rfl,vo6,xs6,hp6,hu6⟩;have R6:=H5.o.1.1.past hp6 hu6;have c60:w6.cell? ⟨q,0,none⟩=some (.int .i64 1):=by
      have l5:=zf H5.o.2.1.1;refine hu6.j4 c50 (fun h=>?_);rcases h with h|h
      .have:=HQ.o;omega
      .have h:w5.heap.size<=q:=h;omega
     have H6:=Y2 R6 (H5.o.2.2.trans R6.2);clear hp6 hu6 R6 HPw c50 c51 c52 c53;go_wp2
     go_ret2
     exact⟨_,_,rfl,_,_,_,_,H6.o.1.1.mono oM oM,H6.o.2⟩
    .have q0:(RC==0)=false:=by simpa using hc
     have q1:(RC !=0)=true:=by simpa using hc
     have HK:=qqh hc;clear hc;have HPm:=qqh (rN H5.o.1.1.ps (by omega:M<=100000) hib 0 oM);by_cases hm0:0<=md
     .by_cases hm2:md<=2
      .go_wp2_with fail
       refine HPm.out.mono ?_;rintro e w6 ⟨rfl,vo6,xs6,hp6,hu6⟩;have R6:=H5.o.1.1.past hp6 hu6;have H6:=Y2 R6 (H5.o.2.2.trans R6.2);clear hp6 hu6 R6 HPm c50 c51 c52 c53;go_wp2
       go_ret2
       exact⟨_,_,rfl,_,_,_,_,H6.o.1.1.mono oM oM,H6.o.2⟩
      .clear HPm;go_wp2
       go_ret2
       exact⟨_,_,rfl,_,_,_,_,H5.o.1.1.mono oM oM,H5.o.2.2⟩
     .clear HPm;go_wp2
      go_ret2
      exact⟨_,_,rfl,_,_,_,_,H5.o.1.1.mono oM oM,H5.o.2.2⟩
   |by_cases hc:RC=0
    .subst hc;go_wp2
     go_ret2
     exact⟨_,_,rfl,_,_,_,_,H5.o.1.1.mono oM oM,H5.o.2.2⟩
    .have q0:(RC==0)=false:=by simpa using hc
     have HK:=qqh hc;clear hc;go_wp2
     go_ret2
     exact⟨_,_,rfl,_,_,_,_,H5.o.1.1.mono oM oM,H5.o.2.2⟩
  by_cases h2:dd=2
  .subst h2;have hRe:((a.kt n blk).1,(a.kt n blk).2.2)=(RA,RC):=by rw[HR.o.1];simp[CaS.does14]
   have hcl:=Um H1.o.1.1.ca blk;rw[(Prod.mk.inj hRe).1,(Prod.mk.inj hRe).2]at hcl;have HO:=qqh hcl;clear hcl hRe;go_wp2_with fail
   refine HO.o.mono ?_;rintro e w4 ⟨y,cd,-,hcd,hyl,rfl,own5,hca4,d4⟩;have hcd':=hcd.symm;subst hcd';clear hcd;clear e0 e1 e2 e3 HO;obtain⟨w5,hw5⟩:=qqe (w4.alloc (.cells (bkC y).toArray 54));have hu5:=qqu hw5;have g6:=qqg hw5;have r6:=zh g6;have hsi:=zw y hyl;have hca5:=hca4.new hu5;have d5:=d4.trans (hca4.ki hu5);have HW5:=qqh hw5;clear hca4 d4 hu5 g6 hw5;have R5:=H1.o.1.1.did hca5 HR.o.2 d5;have g5:=zV d5 H1.o.2.1 H1.o.2.2;have c50:=za g5.1 0;have c53:=za g5.1 3;have H5:=Y3 R5 g5 (H1.o.1.2.trans R5.2);simp only[qyv,qyl,qyk]at c50 c53;clear hca5 d5 R5 g5;have k1:w5.cell? ⟨q,1,none⟩=some (.int .i64 blk):=by have:=za H5.o.2.1.1 1;simpa using this
   obtain⟨bb,hbb⟩:=qqe (w4.heap.size);rw[<-hbb]at r6;have HB:=qqh hbb;clear c50 c53 hbb;go_wp2_with (first
    |(refine zl rfl _ _ _ rfl _ _ (bkC y) rfl rfl jO hsi (zx y) ?_)
    |fail)
   rw[<-HW5.o,<-HB.o];refine qZj (S:=fun W=>W.cell? ⟨q,1,none⟩=some (.int .i64 blk)/\W.rangeAt bb 0 (bkC y)) kR (⟨by rw[qYo];exact k1,by rw[qYq];exact r6⟩) (fun hHeld=>?_);refine Wl.i [0,1] ?_;iterate 2 refine Wl.t hHeld ?_
   refine Wl.o ?_;by_cases hc:RC=0
   case' neg=>
    refine qZf (i:=2) (v:=.bool true) rfl kR kR kR (fun _ _ _ h=>h) (Or.inl ⟨by rfl,?_⟩) hHeld ?_
    .intro W hSw;have q1:(RC !=0)=true:=by simpa using hc
     go_simp
    simp only[qzc,qyw,qyx,Act.put,qXi,qXl,qXk];refine Wl.i [3,4,5,6,7,8,9,10,11,12,13,14] ?_;iterate 12 refine Wl.t hHeld ?_
    refine Wl.o ?_;refine Wl.r 15 (fun K hK=>?_);go_simp
    refine hK.o _ _ hHeld (fun _=>?_);clear hK K;refine Wl.r 16 (fun K hK=>?_);go_simp
    refine hK.o _ _ hHeld (fun _=>?_);clear hK K;refine Wl.d ?_;have R6:=qqh (H5.o.1.1.new ((uur (fun _=>False) w5).drew));clear hHeld;go_wp2
    go_ret2
    exact⟨_,_,rfl,_,_,_,_,R6.out.1.mono oM oM,H5.o.2.2.trans R6.out.2⟩
   subst hc;refine qZf (i:=2) (v:=.bool false) rfl kR kR kR (fun _ _ _ h=>h) (Or.inl ⟨by rfl,?_⟩) hHeld ?_
   .intro W hSw;go_simp
   simp only[qzc,qyw,qyx,Act.put,qXi,qXl,qXk];refine Wl.i [3,4,5] ?_;iterate 3 refine Wl.t hHeld ?_
   refine Wl.o ?_
   first
   |obtain⟨i,hi,hib⟩:∃i:Nat,blk=(i:Int)/\i<n.bl:=by
     have:=HT.o.1 (by first|rfl|trivial);exact⟨blk.toNat,oM,oM⟩
    subst hi;refine Wl.l 6 (fun w h=>h.2) underlying54 hsi hHeld ?_;refine Wl.i [7,8,9] ?_;iterate 3 refine Wl.t hHeld ?_
    refine Wl.o ?_;refine Wl.r 10 (fun K hK=>?_);go_simp
    have R6:=H5.o.1.1.new ((uur _ w5).drew);refine(rJ R6.1.ps oM hib).mono ?_;rintro e w6 ⟨x,hx,rfl,hu6⟩;obtain⟨xn,rfl⟩:=qxs hx.1;have R7:=R6.1.new hu6;have hH6:=And.intro (hu6.j4 hHeld.1 id) (hu6.range hHeld.2 id);refine hK.o _ _ hH6 (fun _=>?_);clear hK K;refine Wl.r 11 (fun K hK=>?_);go_simp
    refine(XJ xn (by have:=hx.2;omega) w6).mono ?_;rintro e w7 ⟨rfl,hb7⟩;obtain⟨z,hz⟩:=qqe (fillB xn);have hzl:z.length=64:=by rw[hz];exact vF xn
    rw[<-hz];have R8:=R7.1.new (uuo hb7);have hH7:=And.intro ((uuo (S:=fun _=>False) hb7).j4 hH6.1 id) ((uuo (S:=fun _=>False) hb7).range hH6.2 id);refine hK.o _ _ hH7 (fun _=>?_);have D8:=((H5.o.2.2.trans R6.2).trans R7.2).trans R8.2;have H8:=Y2 R8.1 D8;clear hK K hz R6 R7 R8 D8 hH6 hHeld;obtain⟨bq,hbq⟩:=qqe ((y==z));have heq:∀W:World,(binOp .eql 54 (.agg (bkC y).toArray) (.agg (bkC z).toArray)).run prog W=.ok (.bool bq) W:=by
     intro W;rw[hbq];exact run_eql_bk y z hyl hzl W
    clear hbq;refine Wl.i [12] ?_;refine Wl.t hH7 ?_;refine Wl.o ?_;refine Wl.i [13,14] ?_;iterate 2 refine Wl.t hH7 ?_
    refine Wl.o ?_;refine Wl.r 15 (fun K hK=>?_);go_simp
    refine hK.o _ _ hH7 (fun _=>?_);clear hK K;refine Wl.r 16 (fun K hK=>?_);go_simp
    refine hK.o _ _ hH7 (fun _=>?_);clear hK K;refine Wl.d ?_;clear hH7;go_wp2
    go_ret2
    exact⟨_,_,rfl,_,_,_,_,H8.o.1.mono oM oM,H8.o.2⟩
   |refine Wl.i [6,7,8,9,10,11,12,13,14] ?_;iterate 9 refine Wl.t hHeld ?_
    refine Wl.o ?_;refine Wl.r 15 (fun K hK=>?_);go_simp
    refine hK.o _ _ hHeld (fun _=>?_);clear hK K;refine Wl.r 16 (fun K hK=>?_);go_simp
    refine hK.o _ _ hHeld (fun _=>?_);clear hK K;refine Wl.d ?_;have R6:=qqh (H5.o.1.1.new ((uur (fun _=>False) w5).drew));clear hHeld;go_wp2
    go_ret2
    exact⟨_,_,rfl,_,_,_,_,R6.out.1.mono oM oM,H5.o.2.2.trans R6.out.2⟩
  have n0:(dd==0)=false:=by simp;omega
  have n1:(dd==1)=false:=by simp;omega
  have n2:(dd==2)=false:=by simp;omega
  have n3:(dd==3)=false:=by simp;omega
  have n4:(dd==4)=false:=by simp;omega
  have n5:(dd==5)=false:=by simp;omega
  have n6:(dd==6)=false:=by simp;omega
  have n7:(dd==7)=false:=by simp;omega
  have hRe:(a,(0:Int))=(RA,RC):=by rw[HR.o.1];simp[CaS.does14,h0,h1,h2,h3,h4,h5,h6,h7]
  have HE:=qqh (Prod.mk.inj hRe).1;clear h0 h1 h2 h3 h4 h5 h6 h7 hRe;go_wp2
  go_ret2
  exact⟨_,_,rfl,_,_,_,_,by rw[<-HE.o];exact H1.o.1.1.mono oM oM,H1.o.1.2⟩
end
structure Op15 where
 dd:Int
 bb:Int
 nn:Int
 mm:Int
 deriving Inhabited
abbrev rQ(o:Op15):List Value:=[.int .i64 o.dd,.int .i64 o.bb,.int .i64 o.nn,.int .i64 o.mm]
def vQ(l:List Op15):List Value:=l.flatMap rQ
theorem Sq{l:List Op15}{k:Nat}(h:k<l.length):(vQ l)[k*4]?=some (.int .i64 l[k].dd)/\(vQ l)[k*4+1]?=some (.int .i64 l[k].bb)/\(vQ l)[k*4+2]?=some (.int .i64 l[k].nn)/\(vQ l)[k*4+3]?=some (.int .i64 l[k].mm):=by
 have h1:=wn (f:=rQ) (k:=4) (fun _=>rfl) l k 0 oM l[k] oe;have h2:=wn (f:=rQ) (k:=4) (fun _=>rfl) l k 1 oM l[k] oe;have h3:=wn (f:=rQ) (k:=4) (fun _=>rfl) l k 2 oM l[k] oe;have h4:=wn (f:=rQ) (k:=4) (fun _=>rfl) l k 3 oM l[k] oe;unfold vQ;exact⟨by simpa using h1,by simpa using h2,by simpa using h3,by simpa using h4⟩
theorem rR{w:World}{v:Value}{l:List Op15}(h:Rd w 4 v l.length (vQ l)){k:Nat}(hk:k<l.length):∃bl off c,v=.slice (some ⟨bl,off,none⟩) l.length c/\bl<w.heap.size/\
  w.cell? ⟨bl,off+k*4,none⟩=some (.int .i64 l[k].dd)/\w.cell? ⟨bl,off+k*4+1,none⟩=some (.int .i64 l[k].bb)/\w.cell? ⟨bl,off+k*4+2,none⟩=some (.int .i64 l[k].nn)/\w.cell? ⟨bl,off+k*4+3,none⟩=some (.int .i64 l[k].mm):=by
 obtain⟨bl,off,c,rfl,hb,hc⟩:=h.at oM;obtain⟨h0,h1,h2,h3⟩:=Sq hk;exact⟨bl,off,c,rfl,hb,hc _ _ h0,hc (k*4+1) _ h1,hc (k*4+2) _ h2,hc (k*4+3) _ h3⟩
def Few15(b s j:Int)(l:List Op15):Prop:=(∀k (h:k<l.length),0<=l[k].nn/\l[k].nn<=255)/\(1<=b/\b<=12)/\(1<=s/\s<=8)/\(4<=j/\j<=12)/\l.length<=60
def zaG(w:World)(b s j:Int)(l:List Op15)(e:Ending)(w':World):Prop:=∃q,e=.returned (.bool q)/\(q=true↔Few15 b s j l)/\Below w.heap.size w w'
abbrev Yi(b s j:Int):Value:=.agg #[.int .i64 b,.int .i64 s,.int .i64 j]
theorem zcH(b s j:Int)(v:Value)(l:List Op15)(w:World)(hv:Rd w 4 v l.length (vQ l)):Calls prog 27 #[Yi b s j,v] w (zaG w b s j l):=by
 obtain⟨w1,hw1⟩:=qqe (w.alloc (.cells #[.int .i64 b,.int .i64 s,.int .i64 j] 75));have g1:=qqg hw1;have hb1:Below w.heap.size w w1:=by rw[hw1];exact(qxl _ w).alloc (qXv _) _
 have k0:=za g1 0;have k1:=za g1 1;have k2:=za g1 2;simp at k0 k1 k2;have hle:=hv.le;unfold maxLen at hle;have HV:=Y2 hv hb1;have HW:=qqh hw1;obtain⟨ao,c,rfl⟩:=hv.j7;clear hv g1 hb1 hw1;go_enter func27,ntmps27
 go_wp2_with fail
 rw[<-HW.o];go_loopg[5] l.length (fun g i wr=>∃k:Nat,k+g=l.length/\i=.int .i64 (k:Int)/\(∀m (h:m<l.length),m<k->0<=l[m].nn/\l[m].nn<=255)/\wr=w1)
 case atStart=>exact⟨0,oM,rfl,fun m h hm=>absurd hm (Nat.not_lt_zero _),rfl⟩
 case round=>
  obtain⟨k,hk,rfl,hP,hwr⟩:=hrel;subst hwr;have HP:=qqh hP;clear hP;by_cases hlt:k<l.length
  .obtain ⟨bl,off,c',hvv,hbl,hc0,hc1,hc2,hc3⟩:=rR HV.o.1 hlt;cases hvv;replace hc2:=(HV.o.2.cell (p:=⟨bl,off+k*4+2,none⟩) hbl).trans hc2;have hN:¬(0<=l[k].nn/\l[k].nn<=255)->¬Few15 b s j l:=fun h hf=>h (hf.1 k hlt);have hS:(0<=l[k].nn/\l[k].nn<=255)->∀m (h:m<l.length),m<k+1->0<=l[m].nn/\l[m].nn<=255:=fun hx m h hm=>by
    by_cases e:m=k
    .subst e;exact hx
    .exact HP.o m h oM
   have q1:(k:Int)<(l.length:Int):=oM;clear hc0 hc1 hc3 hbl;generalize l[k].nn=x at*;have HX:=Y2 hN hS;clear hN hS hlt;by_cases hx:0<=x/\x<=255
   .obtain ⟨x1,x2⟩:=hx;have HS:=qqh (HX.o.2 ⟨x1,x2⟩);go_wp2
    go_roundg (gk-1)
    case measure=>omega
    case rel=>exact⟨k+1,oM,by go_num,HS.o,rfl⟩
   .have HN:=qqh (HX.o.1 hx);have hx':x<0\/255<x:=oM;clear hx;go_wp2
    all_goals
     go_ret
     exact⟨false,rfl,⟨fun e=>(by cases e),fun e=>absurd e HN.o⟩,HV.o.2⟩
  .obtain rfl:k=l.length:=oM;have hA:∀m (h:m<l.length),0<=l[m].nn/\l[m].nn<=255:=fun m h=>HP.o m h h;have HA:=qqh hA;clear hA hlt;by_cases h7:l.length<=60
   .have q7:decide ((l.length:Int)<=60)=true:=by simp;omega
    by_cases hR:(1<=b/\b<=12)/\(1<=s/\s<=8)/\(4<=j/\j<=12)
    .have HR:=Y2 hR h7;obtain⟨⟨r1,r2⟩,⟨r3,r4⟩,⟨r5,r6⟩⟩:=hR;go_wp2
     go_ret
     exact⟨true,by first|rfl|rw[q7],⟨fun _=>⟨HA.o,HR.o.1.1,HR.o.1.2.1,HR.o.1.2.2,HR.o.2⟩,fun _=>rfl⟩,HV.o.2⟩
    .have HR:=qqh hR;have hN:b<1\/12<b\/s<1\/8<s\/j<4\/12<j:=oM;clear hR;go_wp2
     all_goals
      go_ret
      exact⟨false,rfl,⟨fun e=>(by cases e),fun e=>absurd ⟨e.2.1,e.2.2.1,e.2.2.2.1⟩ HR.o⟩,HV.o.2⟩
   .have q7:decide ((l.length:Int)<=60)=false:=by simp;omega
    have HR:=qqh h7;go_wp2
    all_goals
     go_ret
     exact⟨false,by first|rfl|rw[q7],⟨fun e=>(by cases e),fun e=>absurd e.2.2.2.2 HR.o⟩,HV.o.2⟩
theorem yo{P:Program}{ops:Array Oper}{rest:List Oper}{op:Oper}{a:Act}{w:World}{Q:Exit->Act->World->Prop}(hw:Region.wanted op (yielded ops a.tmps)=true)(ty:TypeId)(x:Operand)(ho:op.op=.load ty x)
  (b o:Nat) (hx:a.eval x=.pointer (some ⟨b,o,none⟩)) (cs:List Value) (d:TypeDesc) (hc:w.rangeAt b o cs)
  (hu:P.underlying ty=some d) (hd:d.isRow=true) (hi:(P.info? ty).map (·.size)=some cs.length)
  (h:wpList P ops Q rest (a.put op.dst (.agg cs.toArray)) w):wpList P ops Q (op::rest) a w:=
 wpList_step fun K hK=>by rw[if_pos hw];exact wp_load_mid ty x ho b o hx cs d hc hu hd hi (hK _ _ h)
theorem zcI:(prog.info? 75).map (·.size)=some 3:=kR
theorem Sr:(prog.info? 84).map (·.size)=some 4:=kR
theorem Yj:(prog.info? 37).map (·.size)=some 4:=kR
theorem Yk:(prog.info? 95).map (·.size)=some 2:=kR
theorem Did14.below{own own':Nat->Nat}{w w':World}{B B':Nat->Prop}{N:Nat}(d:Did14 own w B own' w' B')(h0:∀j,j<N->own j=0/\¬B j)(hN:N<=w.heap.size):Below N w w':=
 ⟨d.1.os,d.1.tape,d.1.output,d.1.size,fun k hk=>d.1.block k oM (fun h=>h.elim (fun h=>h (h0 k hk).1) (h0 k hk).2)⟩
end Go.Proofs.YtfhfbpmlnjdfoaaGreatDoor
