/- A cache: spare -/
import Derived.Test.YtfhfbpmlnjdfoaaGreatDoorG29
set_option maxRecDepth 100000
set_option maxHeartbeats 1000000
namespace Go.Proofs.YtfhfbpmlnjdfoaaGreatDoor
open Go Go.RowKit Go.Shelf Tryz
attribute [local go_sem] qYh
def CaS.spareB(a:CaS):Bool:=a.K.any (cleanB a.ps)
theorem VS(K:List Int)(A:Int->Bool):(kaL K A).map (·.1)=K:=by
 simp[kaL,Function.comp_def]
def SpX(ps:List (Int×Bool))(wz:World)(rb:Nat)(cc:Code)(pre:List It7)(W:World):Prop:=
 cc=.ret/\(∃x∈pre,cleanB ps x.1=true)/\Boxed W rb 4 (.bool true)/\Upd (fun j=>j=rb\/wz.heap.size<=j) wz W
theorem RP{own:Nat->Nat}{w:World}{c:Nat}{n:CaN}{p:CaP}{a:CaS}(h:CaAt own w c n p a):
  Calls prog 163 #[ptr c] w fun e w'=>e=.returned (.bool a.spareB)/\Below w.heap.size w w':=by
 obtain⟨w1,hw1⟩:=qqe ((w.alloc (.cells #[ptr c] 62)).alloc (.cells #[.bool false] 4));have hu1:Upd (fun _=>False) w w1:=by rw[hw1];exact((uur _ w).alloc _).alloc _
 have g0:w1.heap[w.heap.size]?=some (.cells #[ptr c] 62 (0,0)):=by rw[hw1];exact(qxk _ _ _ (by simp)).trans (zc w _ rfl)
 have g1:w1.heap[w.heap.size+1]?=some (.cells #[.bool false] 4 (0,0)):=by rw[hw1];exact zc _ _ (by simp)
 have hz1:w1.heap.size=w.heap.size+2:=by rw[hw1];simp
 have h1:=h.new hu1;have hcl:=h.clt;obtain⟨-,-,-,-,-,-,-,d7,-⟩:=h.cells;have HA:=qqh (WL h1.ck);have H1:=Y4 h1 hu1 g0 g1;clear h h1 hu1 g0 g1;refine(callsIn_wide (n:=4)).1 ?_;refine callsIn_of_wp_marks func163 rfl trivial ?_ rfl;simp only[ntmps163,qXm,qze,qzh,Nat.reduceAdd,Nat.reduceSub,qxi,qxj,qXg,qxz,qzz,qya];refine wpIn_wide.2 ?_;go_wp2_with fail
 rw[<-hw1];clear hw1 d7;refine HA.o.mono ?_;rintro e w2 ⟨gf,lb,rfl,hg,hb2⟩;have hz2:=hb2.size;have HU2:Hid (Upd (fun _=>False) w1 w2):=uuo hb2;have HG:=qqh hg;clear HA hg;go_wp2_with fail
 refine(wpIn_wide (n:=4)).1 ?_
 refine' wpIn_rangeFunc_ownH rfl (by omega) (gf:=gf) (lb:=lb) rfl trivial HG.o.1
  (HG.o.2 3 (by omega) (fun j=>w2.heap.size<=j) (fun j h=>h) _ (qxl _ _)) uH (fun W l o o' hl=>wH (M:=w2.heap.size) (fun j h=>h) W l o o' hl) (qxl _ _) (fun _=>rfl)
  (fun pre W=>Below w2.heap.size w2 W/\∀x∈pre,cleanB a.ps x.1=false)
  (SpX a.ps w2 (w.heap.size+1))
  (fun pre X Y row hs hg hr=>⟨ownFrom_below (β:=Unit) (qXv _) (qXv _) () X Y row hs.1 hg hr,hs.2⟩)
  (fun cc pre X Y row hs hg hr=>⟨hs.1,hs.2.1,(grownBy_keeps_cells hg (fun r e=>(hr r e).2) hs.2.2.1 rfl).trans hs.2.2.1,xk hs.2.2.2 hg (fun r e=> .inr (hr r e).1)⟩)
  ⟨qxl _ _,fun x hx=>by cases hx⟩
  (fun x a' _=>a'=(_:It7->Act) x)
  (fun x a'=>fun s X Y row hs hg hr=>hs)
  ?assign ?body ?done ?stop
 case assign=>
  rintro l' pre x W K ⟨hB,hn⟩ hK
  gi_wp2
  refine hK _ _ (KeepsFrom.refl _ _) (uur _ _) ⟨hB,hn⟩ ?_;exact rfl
 case body=>
  rintro l' pre x a' W hl _ ⟨hB,hn⟩ rfl hlt;have hu:Upd (fun _=>False) w1 W:=HU2.o.trans (uuo hB);obtain⟨h1,-,g0,g1⟩:=H1.o;have hcb:=qX (h1.new hu) x.1;have g0':=hu.jc g0;have g1':=hu.jc g1;have c0:=za g0' 0;have HC:=qqh hcb;have HB:=Y3 hB hn g1';clear h1 g0 g1 hcb g0' g1' hB hn hu
  gi_wp2_with fail
  refine⟨trivial,?_⟩;refine(CallsIn.inRound l' (callsIn_wide.2 HC.o)).mono ?_;rintro e W2 ⟨rfl,hb3⟩;obtain⟨hB,hn,g1'⟩:=HB.o;have g2:=(hb3.block _ (zf g1')).trans g1';have c2:=za g2 0;have f2:=zg g2 0;have hB2:Below w2.heap.size w2 W2:=hB.trans (hb3.mono hB.size);have hKO:KeepsOthers W W2:=⟨hb3.size,fun k o hk ho=>(hb3.block k (zf hk)).trans hk⟩
  have HN:=qqh hn;have HB2:=Y4 hB2 hKO g2 hb3;clear hB hn g1' g2 hB2 hKO hb3 HC c0;rcases hq:cleanB a.ps x.1 with _|_
  .have HQ:=qqh hq;clear hq
   gi_wp2
   obtain⟨hB2,hKO,g2,hb3⟩:=HB2.o;refine⟨hKO.from _,uuo hb3,hB2,fun y hy=>?_⟩;rcases qzq.1 hy with hy|hy
   .exact HN.o y hy
   .simp at hy;subst hy;exact HQ.o
  .have HQ:=qqh hq;clear hq
   gi_wp2
   obtain⟨hB2,hKO,g2,hb3⟩:=HB2.o;have hus:=zj W2 (w.heap.size+1) 0 (.bool true);refine⟨(hKO.trans (zy hus (fun j hj _=>⟨_,_,_,hj▸g2⟩))).from _,rfl,⟨x,by simp,HQ.o⟩,Boxed.set (.bool true) (show Boxed W2 (w.heap.size+1) 4 (.bool false)from g2),?_⟩;exact(uuo hB2).trans (hus.mono (fun _ _ h=> .inl h))
 case done=>
  rintro D ys W hD rfl ⟨hB,hn⟩ hK;have hu:Upd (fun _=>False) w1 W:=HU2.o.trans (uuo hB);have g1:=hu.jc H1.o.2.2.2;have c1:=za g1 0;have f1:=zg g1 0;have hsp:a.spareB=false:=by
   unfold CaS.spareB;rw[List.any_eq_false];intro k hk;have hk':k∈(kaL a.K a.A).map (·.1):=by rw[VS];exact hk
   obtain⟨x,hx,rfl⟩:=qzv.1 hk';rw[hn x hx];decide
  have HS:=Y5 hsp hK hu g1 hD;clear hsp hK hu g1 hn hB hD;go_wp2
  obtain⟨hsp,hK,hu,g1,hD⟩:=HS.o;have hus:=zj W (w.heap.size+1) 0 (.bool false);have hDl:=zf hK;have hK2:(W.setCell ⟨w.heap.size+1,0,none⟩ (.bool false)).heap[D]?=some (.deferred (some [])):=(hus.block D hDl (by omega)).trans hK;have g2:=zi g1 0 (.bool false);have hpo:=uA (W.setCell ⟨w.heap.size+1,0,none⟩ (.bool false)) D (.deferred none);have c3:=za ((hpo.block _ (zf g2) (by omega)).trans g2) 0;refine⟨by simp,.inl ⟨_,_,rfl,run_takeDeferred hK2,?_⟩⟩;refine⟨.bool false,by simp[results,results163,go_sem,c3],by rw[hsp],?_⟩;have hX:=(hu.mono (S':=fun j=>w.heap.size<=j) (fun _ _ h=>h.elim)).trans ((hus.mono (fun j _ e=>by omega)).trans (hpo.mono (fun j _ e=>by omega)));exact zl (qxl _ _) ((H1.o.2.1.mono (S':=fun j=>w.heap.size<=j) (fun _ _ h=>h.elim)).trans hX) (qXv _) (fun k h=>h)
 case stop=>
  rintro D cc pre W hD hsp ⟨rfl,⟨x,hx,hq⟩,hb,hu⟩ hK;have hsp2:a.spareB=true:=by
   unfold CaS.spareB;rw[List.any_eq_true];refine⟨x.1,?_,hq⟩;rw[<-VS a.K a.A];exact qzv.2 ⟨x,hsp.subset hx,rfl⟩
  have hX:Upd (fun j=>w.heap.size<=j) w W:=((H1.o.2.1.trans HU2.o).mono (fun _ _ h=>h.elim)).trans (hu.mono (fun j _ h=>by omega));have hpo:=uA W D (.deferred none);have c3:=za ((hpo.block _ (zf hb) (by omega)).trans hb) 0;have HS:=Y5 hsp2 hK hX hpo c3;clear hsp2 hK hX hpo c3 hb hu hsp hx hq
  gi_wp2
  obtain⟨hsp2,hK,hX,hpo,c3⟩:=HS.o;refine⟨by simp,.inl ⟨_,_,rfl,run_takeDeferred hK,?_⟩⟩;refine⟨.bool true,by simp[results,results163,go_sem,c3],by rw[hsp2],?_⟩;exact zl (qxl _ _) (hX.trans (hpo.mono (fun j _ e=>by omega))) (qXv _) (fun k h=>h)
end Go.Proofs.YtfhfbpmlnjdfoaaGreatDoor
namespace Go.Proofs.YtfhfbpmlnjdfoaaGreatDoor
open Go Go.RowKit Tryz
def CaS.ev(n:CaN)(a:CaS):CaS:={a with K:=(EvG.evR (cleanB a.ps) n.sl a.K a.A a.H).2.2.1,A:=(EvG.evR (cleanB a.ps) n.sl a.K a.A a.H).2.2.2.1,H:=(EvG.evR (cleanB a.ps) n.sl a.K a.A a.H).2.2.2.2}
def CaS.evK(n:CaN)(a:CaS):Int:=(EvG.evR (cleanB a.ps) n.sl a.K a.A a.H).1
def CaS.evC(n:CaN)(a:CaS):Int:=(EvG.evR (cleanB a.ps) n.sl a.K a.A a.H).2.1
theorem Tp{fm:Int->Bool}{K:List Int}(hK:K≠[]):∀(g h:Nat) (A A':Int->Bool) (p:Nat),EvG.evGo fm K g h A=some (p,A')->p<K.length/\fm (K.getD p 0)=true/\A' (K.getD p 0)=false/\∀x,A' x=true->A x=true:=by
 have hl:0<K.length:=List.length_pos_iff.2 hK;intro g
 induction g with
 |zero=>intro h A A' p e;cases e
 |succ g ih=>
  intro h A A' p e;simp only[EvG.evGo]at e;split at e
  .exact ih _ _ _ _ e
  .next hf=>
   split at e
   .next ha=>
    obtain⟨h1,h2,h3,h4⟩:=ih _ _ _ _ e;refine⟨h1,h2,h3,fun x hx=>?_⟩;have:=h4 x hx;unfold updB at this;split at this
    .cases this
    .exact this
   .next ha=>
    simp only[Option.some.injEq,qYk]at e;obtain⟨rfl,rfl⟩:=e;exact⟨qYa _ hl,by simpa using hf,by simpa using ha,fun _ h=>h⟩
theorem evR_cases(fm:Int->Bool)(few:Nat)(K:List Int)(A:Int->Bool)(G:List Int):
  ((EvG.evR fm few K A G).2.1=14/\EvG.evR fm few K A G=(0,14,K,A,G))\/
   ((EvG.evR fm few K A G).2.1=0/\∃i A',∃h:i<K.length,EvG.evR fm few K A G=(K[i],0,EvG.restK K i,A',EvG.trimG few (G++[K[i]]))/\fm K[i]=true/\A' K[i]=false):=by
 unfold EvG.evR;cases hg:EvG.evGo fm K (2*K.length) 0 A with
 |none=>exact .inl ⟨rfl,rfl⟩
 |some q=>
  obtain⟨p,A'⟩:=q;by_cases hK:K=[]
  .subst hK;cases hg
  .obtain ⟨h1,h2,h3,-⟩:=Tp hK _ _ _ _ _ hg;have e:K.getD p 0=K[p]:=by simp[h1]
   rw[e]at h2 h3;refine .inr ⟨rfl,p,A',h1,?_,h2,h3⟩;simp only[e]
theorem Za{ps:List (Int×Bool)}{k:Int}(h:cleanB ps k=true):getC ps k=0:=by
 unfold cleanB at h;simp only[qxo,beq_iff_eq]at h;exact h.1
def CaS.jm(n:CaN):Nat->Nat->CaS->CaS×Nat×Int
 |0,g,a=>(a,g,0)
 |m+1,g,a=>
  if a.spareB=false then(a,g,0)
  else if(a.je n).2≠0 then((a.je n).1,g,(a.je n).2)
  else if(a.je n).1.evC n≠0 then((a.je n).1.ev n,g,0)
  else if turnCode (a.je n).1.st (getV (a.je n).1.ps ((a.je n).1.evK n)).1 3≠0 then(((a.je n).1.ev n).left n ((a.je n).1.evK n),g,turnCode (a.je n).1.st (getV (a.je n).1.ps ((a.je n).1.evK n)).1 3)
  else CaS.jm n m (g+1) (((a.je n).1.ev n).left n ((a.je n).1.evK n))
theorem CaS.Fit.ev{n:CaN}{a:CaS}{N:Nat}(h:a.Fit N):(a.ev n).Fit N:={h with}
theorem CaS.Fit.left{n:CaN}{a:CaS}{N:Nat}(h:a.Fit N)(h1:1<=a.next)(k:Int):(a.left n k).Fit (N+1):=
 {h.mono (qXw N)with
  nx:=by have:=h.nx;show a.next+1<=N+1;omega
  w1:=fun q hq=>by
   rcases qzq.1 hq with hq|hq
   .exact h.w1 q hq
   .simp at hq;subst hq;exact h1
  sm:=fun x v hv=>by
   simp only[upd1]at hv;split at hv
   .cases hv
   .exact h.sm x v hv}
theorem CaS.ckpt_next(n:CaN)(a:CaS):(a.ckpt n).1.next=a.next/\(a.ckpt n).1.ps=a.ps:=by
 unfold CaS.ckpt
 repeat' split
 all_goals exact⟨rfl,rfl⟩
theorem CaS.ckpt_room{n:CaN}{a:CaS}(h:(a.ckpt n).2=0)(h1:1<=a.next)(hj:4<=n.jo):(a.ckpt n).1.next+1<=(a.ckpt n).1.cov+n.jo:=by
 unfold CaS.ckpt at*;split at h
 .next hc=>exact absurd h hc
 split at h
 .next hc=>exact absurd h hc
 split at h
 .next hc=>exact absurd h hc
 .next h2 h3 h4=>
  rw[if_neg h2,if_neg h3,if_neg h4];show a.next+1<=(a.next-1)+n.jo;omega
theorem CaS.jf(n:CaN)(a:CaS):(a.je n).1.next=a.next/\(a.je n).1.ps=a.ps:=by
 unfold CaS.je;split
 .exact ⟨rfl,rfl⟩
 .exact a.ckpt_next n
theorem CaS.jA{n:CaN}{a:CaS}(h:(a.je n).2=0)(h1:1<=a.next)(hj:4<=n.jo):(a.je n).1.next+1<=(a.je n).1.cov+n.jo:=by
 unfold CaS.je at*;split at h
 .next hc=>rw[if_pos hc];exact hc
 .next hc=>rw[if_neg hc];exact CaS.ckpt_room h h1 hj
section
variable{own:Nat->Nat}{w w':World}{c:Nat}{n:CaN}{p:CaP}{a:CaS}{N:Nat}
theorem CaAt.nx1(h:CaAt own w c n p a):1<=a.next:=by have:=h.jr.good.wl;omega
theorem AX(h:CaAt own w c n p a):Calls prog 165 #[ptr p.ck,EvG.mayV (ptr c)] w (zu own w c n p (a.ev n) (.tuple #[.int .i64 (a.evK n),.int .i64 (a.evC n)])):=
 (Tc h).mono fun e w' ⟨key,code,K',A',H',he,ho,own',h',hd⟩=>by
  have e2:=ho.2;refine⟨?_,own',?_,hd⟩
  .rw [he,CaS.evK,CaS.evC,e2]
  .rw [CaS.ev,e2];exact h'
theorem Xu(h:CaAt own w c n p a)(hf:a.Fit N)(m:Nat)(hm:m<=1000)(hN:N+m*(n.pa+1)<=50000):
  Calls prog 89 #[ptr c,.int .i64 (m:Int)] w (zu own w c n p (CaS.jm n m 0 a).1 (.tuple #[.int .i64 ((CaS.jm n m 0 a).2.1:Int),.int .i64 (CaS.jm n m 0 a).2.2])):=by
 obtain⟨R,hR⟩:=qqe (CaS.jm n m 0 a);rw[<-hR];have H:=Y4 h hf hN hR;have hmf:=qqf;clear h hf hN hR;go_enter func89,ntmps89
 go_wp2
 refine wp_scope_straight ?_;go_wp2
 refine wp_label ?_;go_wp2
 go_loopg[6] m (fun g i wr=>∃k:Nat,k+g=m/\i=.int .i64 k/\∃own' a',CaAt own' wr c n p a'/\Did own own' w wr/\a'.Fit (N+k*(n.pa+1))/\CaS.jm n g k a'=R)
 case atStart=>exact⟨0,by omega,rfl,own,a,H.o.1,Did.refl H.o.1.far,by simpa using H.o.2.1,H.o.2.2.2.symm⟩
 case round=>
  obtain⟨k,hk,rfl,own1,a1,h1,d1,f1,e1⟩:=hrel;have hmul:k<m->(k+1)*(n.pa+1)<=m*(n.pa+1):=fun h=>qYb _ h;rw[Nat.succ_mul]at hmul;have H1:=Y4 h1 d1 f1 e1;have HS:=qqh (RP h1);have hmul:=qqh hmul;clear h1 d1 f1 e1;by_cases hlt:k<m
  .have hN1:Hid (N+(k+1)*(n.pa+1)<=50000):=by
    show _<=_;have h1:=hmul.out hlt;have h2:=H.o.2.2.1;rw[Nat.succ_mul];omega
   have hs1:(k+1)*(n.pa+1)=k*(n.pa+1)+(n.pa+1):=Nat.succ_mul _ _;replace hs1:=qqh hs1;have e1':CaS.jm n (gk-1+1) k a1=R:=by rw[show gk-1+1=gk by omega];exact H1.o.2.2.2
   rw[CaS.jm]at e1';replace e1':=qqh e1';go_wp2_with fail
   refine HS.o.mono ?_;rintro e w2 ⟨rfl,hb2⟩;have hu2:=qqb hb2;have h2:=H1.o.1.new hu2;have d2:=H1.o.2.1.trans (H1.o.1.ji hu2);have f2:=H1.o.2.2.1;have hsz:Hid (w.heap.size<=w2.heap.size):=d2.upd.size;clear hu2 hb2 H1 HS;cases hsp:a1.spareB with
   |false=>
    have e2:=e1'.out;rw[if_pos hsp]at e2;have H2:=Y3 h2 d2 e2;clear h2 d2 f2 hsp e2;go_wp2
    rw[qxr];go_ret2
    rw[<-H2.o.2.2];exact⟨rfl,own1,H2.o.1,H2.o.2.1⟩
   |true=>
    have e2:=e1'.out;rw[if_neg (by rw[hsp];decide)]at e2;clear e1' hsp;have HR:=qqh (zu.from d2 (vt h2 f2 (by have:=hN1.out;have:=hs1.out;omega)));have hnx:=h2.nx1;have hjo:=h2.ok.j1;have f3:=f2.je (n:=n);have hrm:=fun h=>CaS.jA (a:=a1) (n:=n) h hnx hjo;have hnn:=(a1.jf n).1;generalize a1.je n=r at*;obtain⟨b,cd⟩:=r;simp only at HR e2 f3 hrm hnn;have H2:=Y4 e2 f3 hrm hnn;clear h2 d2 f2 e2 f3 hrm hnn hnx;go_wp2_with fail
    refine HR.o.mono ?_;rintro e w3 ⟨rfl,own3,h3,d3⟩;clear HR;by_cases hc:cd=0
    rotate_left
    .have q0:(cd==0)=false:=by simpa using hc
     have e2:=H2.o.1;rw[if_pos hc]at e2;have H3:=Y3 h3 d3 e2;clear h3 d3 e2;go_wp2
     rw[qxr];go_ret2
     rw[<-H3.o.2.2];exact⟨rfl,own3,H3.o.1,H3.o.2.1⟩
    subst hc;have e3:=H2.o.1;rw[if_neg (by simp)]at e3;obtain⟨-,-,-,-,-,-,-,c21,-⟩:=h3.cells;have HK:=qqh (zu.from d3 (AX h3));have H3:=Y4 e3 h3.nx1 (evR_cases (cleanB b.ps) n.sl b.K b.A b.H) h3.ok;clear h3 d3 e3;go_wp2_with fail
    refine HK.o.mono ?_;rintro e w4 ⟨rfl,own4,h4,d4⟩;obtain⟨key,hkey⟩:=qqe (b.evK n);obtain⟨code,hcode⟩:=qqe (b.evC n);rw[<-hkey,<-hcode];have H4:=Y4 h4 d4 hkey hcode;clear h4 d4 hkey hcode HK c21;by_cases hc:code=0
    rotate_left
    .have q0:(code==0)=false:=by simpa using hc
     have e4:=H3.o.1;rw[<-H4.o.2.2.2,if_pos hc]at e4;replace e4:=qqh e4;go_wp2
     rw[qxr];go_ret2
     rw[<-e4.out];exact⟨rfl,own4,H4.o.1,H4.o.2.1⟩
    subst hc;obtain⟨h4,d4,hkey,hcode⟩:=H4.o;obtain⟨e3,hnx,hcs,hok⟩:=H3.o;rw[<-hcode,if_neg (by simp),<-hkey]at e3;have hg:getC (b.ev n).ps key=0:=by
     rcases hcs with⟨hcs,-⟩|⟨-,i,A',hi,hev,hfm,-⟩
     .have:b.evC n=14:=hcs;rw[<-hcode]at this;cases this
     .have:key=b.K[i]:=by rw[hkey,CaS.evK,hev]
      rw[this];exact Za hfm
    have hkr:0<=key/\key<4096:=by
     have h1:=h4.pl;have h2:=h4.ok.b2;unfold getC at hg;split at hg
     .cases hg
     .omega
    have hrm:=H2.o.2.2.1 (by simp);have f3:=H2.o.2.1;have hnb:(b.ev n).next=b.next:=rfl;have hnx2:b.next<=50000:=qXx f3.nx (by have:=hN1.out;have:=hs1.out;omega);have HL:=qqh (zu.from d4 (Xf h4 key hg (by show b.next<=b.cov+n.jo;omega) (by rw[hnb];omega) (by rw[hnb];exact ta hnx (by omega) (by have:=hok.j1;omega) hkr)));have f5:((b.ev n).left n key).Fit (N+k*(n.pa+1)+n.pa+1):=f3.ev.left hnx key;have hgk:=hk;generalize hlc:turnCode (b.ev n).st (getV (b.ev n).ps key).1 3=lc at*;replace hlc:turnCode b.st (getV b.ps key).1 3=lc:=hlc;rw[hlc]at e3;have H5:=Y2 e3 f5;clear h4 d4 hkey hcode e3 hnx hcs hok hg hkr hrm f3 hnb hnx2 f5 hlc H4 H3 H2;go_wp2_with fail
    refine HL.o.mono ?_;rintro e w5 ⟨rfl,own5,h5,d5⟩;have H6:=Y2 h5 d5;clear h5 d5 HL;by_cases hc:lc=0
    rotate_left
    .have q0:(lc==0)=false:=by simpa using hc
     have e4:=H5.o.1;rw[if_pos hc]at e4;replace e4:=qqh e4;go_wp2
     rw[qxr];go_ret2
     rw[<-e4.out];exact⟨rfl,own5,H6.o.1,H6.o.2⟩
    subst hc;have e4:=H5.o.1;rw[if_neg (by simp)]at e4;replace e4:=qqh e4;go_wp2
    go_roundg (gk-1)
    case measure=>omega
    case rel=>
     refine⟨k+1,by omega,by go_num,own5,_,H6.o.1,H6.o.2,?_,e4.out⟩;rw[hs1.out,<-qXr,<-qXr];exact H5.o.2
  .have e1:=H1.o.2.2.2;have hk0:gk=0:=by omega
   rw[hk0]at e1;have e2:(a1,k,(0:Int))=R:=e1;have H2:=Y3 H1.o.1 H1.o.2.1 e2;clear e1 e2 H1 HS;go_wp2
   rw[qxr];go_ret2
   rw[<-H2.o.2.2];exact⟨rfl,own1,H2.o.1,H2.o.2.1⟩
end
def CaS.jC(n:CaN)(b:CaS)(s:Int):CaS×Int×Bool×Int:=
 if(b.je n).2=0 then((b.je n).1,s,true,0)else({(b.je n).1 with st:=turnList (b.je n).1.st s 3},0,false,(b.je n).2)
def CaS.al(b:CaS):CaS:={b with st:=allocList b.st}
def CaS.take3(n:CaN)(b:CaS):CaS×Int×Bool×Int:=
 if(b.jh n).2≠0 then((b.jh n).1,0,false,(b.jh n).2)
 else if allocCode (b.jh n).1.st≠0 then((b.jh n).1.al,0,false,0)else(b.jh n).1.al.jC n (allocVal (b.jh n).1.st)
def CaS.jE(n:CaN)(b:CaS):CaS×Int×Bool×Int:=if(pos b.st 3).length=0 then(b,0,false,0)else b.take3 n
def CaS.take1(n:CaN)(b:CaS):CaS×Int×Bool×Int:=
 if(pos b.st 3).length=0 then(if(CaS.jm n 1 0 b).2.2≠0 then((CaS.jm n 1 0 b).1,0,false,(CaS.jm n 1 0 b).2.2)else(CaS.jm n 1 0 b).1.jE n)else b.jE n
def CaS.jj(n:CaN)(a:CaS):CaS×Int×Bool×Int:=if allocCode a.st=0 then a.al.jC n (allocVal a.st)else a.al.take1 n
theorem AY(base k:Nat)(F:List Bk)(O:List (Nat×Bk))(P:List Int)(W:List (Nat×Bk)):(comR base k F O P W).1.O.length<=O.length+W.length/\((comR base k F O P W).2=W\/(comR base k F O P W).2=[]):=by
 have h1:=xW F O P;have h2:=Wk base k (flushR F O P).F W (flushR F O P).O (flushR F O P).P;have h3:=xW (comW base k (flushR F O P).F W (flushR F O P).O (flushR F O P).P).F (comW base k (flushR F O P).F W (flushR F O P).O (flushR F O P).P).O (comW base k (flushR F O P).F W (flushR F O P).O (flushR F O P).P).P;unfold comR;split
 .exact ⟨qXx h1 (qXu _ _),.inl rfl⟩
 split
 .exact ⟨by dsimp only;omega,.inl rfl⟩
 split
 .exact ⟨by dsimp only;omega,.inl rfl⟩
 .exact ⟨by dsimp only;omega,.inr rfl⟩
theorem CaS.Fit.cm{n:CaN}{a:CaS}{N:Nat}(h:a.Fit N)(hW:a.W.length<=n.jo):(a.cm n).Fit (N+n.jo):=by
 obtain⟨h1,h2⟩:=AY (1+2*n.pa) n.jo a.dF a.dO a.dP a.W;exact{h.mono (qXu N n.jo)with
  dO:=by have:=h.dO;show(comR (1+2*n.pa) n.jo a.dF a.dO a.dP a.W).1.O.length<=_;omega
  w1:=fun q hq=>by
   replace hq:q∈(comR (1+2*n.pa) n.jo a.dF a.dO a.dP a.W).2:=hq;rcases h2 with e|e
   .rw [e]at hq;exact h.w1 q hq
   .rw [e]at hq;cases hq}
theorem CaS.Fit.jh{n:CaN}{a:CaS}{N:Nat}(h:a.Fit N)(hW:a.W.length<=n.jo):(a.jh n).1.Fit (N+n.jo):=by
 have h1:=h.fb;have h2:=h1.cm (n:=n) hW;unfold CaS.jh;split
 .exact h1.mono (qXu _ _)
 split
 .exact h2
 .exact {h2 with}
theorem CaS.Fit.al{a:CaS}{N:Nat}(h:a.Fit N):a.al.Fit N:={h with}
theorem CaS.Fit.turned{a:CaS}{N:Nat}(h:a.Fit N)(l:List Int):({a with st:=l}:CaS).Fit N:={h with}
theorem CaS.Fit.jC{n:CaN}{a:CaS}{N:Nat}(h:a.Fit N)(s:Int):(a.jC n s).1.Fit (N+n.pa):=by
 unfold CaS.jC;split
 .exact h.je
 .exact h.je.turned _
section
variable{own:Nat->Nat}{w w':World}{c:Nat}{n:CaN}{p:CaP}{a:CaS}{N:Nat}
theorem CaAt.wl(h:CaAt own w c n p a):a.W.length<=n.jo:=by have h1:=h.jr.good.wl;have h2:=h.jr.good.room;omega
theorem RQ(h:CaAt own w c n p a):Calls prog 324 #[ptr p.ss] w (zu own w c n p a.al (.tuple #[.int .i64 (allocVal a.st),.int .i64 (allocCode a.st)])):=Ro h
theorem CaS.Fit.jm{n:CaN}:∀(m g:Nat) {a:CaS} {N:Nat},a.Fit N->1<=a.next->(CaS.jm n m g a).1.Fit (N+m*(n.pa+1))
 |0,g,a,N,h,_=>by simpa[CaS.jm]using h
 |m+1,g,a,N,h,h1=>by
  have hr:=h.je (n:=n);have hn:=(a.jf n).1;have hs:(m+1)*(n.pa+1)=m*(n.pa+1)+(n.pa+1):=Nat.succ_mul _ _;have hl:(((a.je n).1.ev n).left n ((a.je n).1.evK n)).Fit (N+n.pa+1):=hr.ev.left (by show 1<=(a.je n).1.next;omega) _;simp only[CaS.jm];split
  .exact h.mono (qXu _ _)
  split
  .exact hr.mono (by omega)
  split
  .exact hr.ev.mono (by omega)
  split
  .exact hl.mono (by omega)
  .have:=CaS.Fit.jm (n:=n) m (g+1) hl (by show 1<=(a.je n).1.next+1;omega);exact this.mono (by omega)
theorem CaS.committed_next(n:CaN)(a:CaS):(a.jh n).1.next=a.next/\(a.jh n).1.ps=a.ps:=by
 unfold CaS.jh
 repeat' split
 all_goals exact⟨rfl,rfl⟩
theorem VT(h:CaAt own w c n p a)(hf:a.Fit N)(hN:N+2*n.pa+n.jo+1<=50000):
  Calls prog 295 #[ptr c] w (zu own w c n p (a.jj n).1 (.tuple #[.int .i64 (a.jj n).2.1,.bool (a.jj n).2.2.1,.int .i64 (a.jj n).2.2.2])):=by
 obtain⟨R,hR⟩:=qqe (a.jj n);rw[<-hR];unfold CaS.jj at hR;have HA:=qqh (RQ h);obtain⟨-,-,-,-,-,cS,-,-,-⟩:=h.cells;have H:=Y3 hf hR h.nx1;clear h hf hR;go_enter func295,ntmps295
 go_wp2_with fail
 refine HA.o.mono ?_;rintro e w1 ⟨rfl,own1,h1,d1⟩;have hR:=H.o.2.1;have hf:=H.o.1.al;have hnx:1<=a.al.next:=H.o.2.2;generalize allocVal a.st=av at*;generalize allocCode a.st=ac at*;generalize a.al=b at*;clear HA cS H;by_cases hc:ac=0
 .subst hc;rw[if_pos rfl]at hR;unfold CaS.jC at hR;have HC:=qqh (zu.from d1 (vt h1 hf (by omega)));generalize hrr:CaS.je n b=r at*;obtain⟨bR,cdR⟩:=r;simp only at hR HC;have HX:=qqh hR;clear h1 d1 hR hf hrr;go_wp2_with fail
  refine HC.o.mono ?_;rintro e w21 ⟨rfl,own21,h21,d21⟩;have hR:=HX.o;clear HC;by_cases hc:cdR=0
  .subst hc;rw[if_pos rfl]at hR;have HY:=Y3 h21 d21 hR;clear h21 d21 hR;go_wp2
   go_ret3
   rw[HY.o.2.2];exact⟨rfl,own21,HY.o.1,HY.o.2.1⟩
  .have q9:(cdR==0)=false:=by simpa using hc
   rw[if_neg hc]at hR;have HT:=qqh (zu.from d21 (yX h21 av 3));obtain⟨-,-,-,-,-,cS,-,-,-⟩:=h21.cells;have HY:=qqh hR;clear h21 d21 hR hc;go_wp2_with fail
   refine HT.o.mono ?_;rintro e w22 ⟨rfl,own22,h22,d22⟩;have HZ:=Y2 h22 d22;clear h22 d22 HT cS;go_wp2
   go_ret3
   rw[HY.o];exact⟨rfl,own22,HZ.o.1,HZ.o.2⟩
 .have q0:(ac==0)=false:=by simpa using hc
  rw[if_neg hc]at hR;unfold CaS.take1 at hR;have HC:=qqh (zu.from d1 (ux h1 3));obtain⟨-,-,-,-,-,cS,-,-,-⟩:=h1.cells;have H:=Y3 hf hR hnx;clear h1 d1 hf hR hc hnx;go_wp2_with fail
  refine HC.o.mono ?_;rintro e w2 ⟨rfl,own2,h2,d2⟩;have hR:=H.o.2.1;clear HC cS;obtain⟨st,hst⟩:=qqe ((pos b.st 3).length);rw[<-hst]at hR⊢;by_cases hc:st=0
  .rw [if_pos hc]at hR;have q1:((st:Int)==0)=true:=by simpa using hc
   have HE:=qqh (zu.from d2 (Xu h2 H.o.1 1 (by omega) (by omega)));have hfe:=CaS.Fit.jm (n:=n) 1 0 H.o.1 H.o.2.2;generalize CaS.jm n 1 0 b=r at*;obtain⟨b2,g2,cd2⟩:=r;simp only at hR hfe HE;have HX:=Y2 hfe hR;clear h2 d2 hR hfe hst hc H;go_wp2_with fail
   refine HE.o.mono ?_;rintro e w3 ⟨rfl,own3,h3,d3⟩;have hR:=HX.o.2;clear HE;by_cases hc:cd2=0
   rotate_left
   .have q0:(cd2==0)=false:=by simpa using hc
    rw[if_pos hc]at hR;have HY:=Y3 h3 d3 hR;clear h3 d3 hR;go_wp2
    go_ret3
    rw[HY.o.2.2];exact⟨rfl,own3,HY.o.1,HY.o.2.1⟩
   subst hc;rw[if_neg (by simp)]at hR;have hf:=HX.o.1;unfold CaS.jE at hR;have HC:=qqh (zu.from d3 (ux h3 3));obtain⟨-,-,-,-,-,cS,-,-,-⟩:=h3.cells;have H:=Y2 hf hR;clear h3 d3 hf hR HX;go_wp2_with fail
   refine HC.o.mono ?_;rintro e w4 ⟨rfl,own4,h4,d4⟩;have hR:=H.o.2;clear HC cS;obtain⟨st2,hst⟩:∃st,st=(pos b2.st 3).length:=⟨_,rfl⟩
   rw[<-hst]at hR⊢;by_cases hc:st2=0
   .rw [if_pos hc]at hR;have q9:((st2:Int)==0)=true:=by simpa using hc
    have HY:=Y3 h4 d4 hR;clear h4 d4 hR hst hc;go_wp2
    go_ret3
    rw[HY.o.2.2];exact⟨rfl,own4,HY.o.1,HY.o.2.1⟩
   rw[if_neg hc]at hR;have q9:((st2:Int)==0)=false:=by simpa using hc
   clear hst;unfold CaS.take3 at hR;have hwl:=h4.wl;have hf0:=H.o.1;have HC:=qqh (zu.from d4 (vQ h4 hf0.w1 (by have:=hf0.dO;omega)));have hf:=hf0.jh (n:=n) hwl;generalize CaS.jh n b2=r at*;obtain⟨b3,cd3⟩:=r;simp only at hR HC hf;have HX:=Y2 hf hR;clear h4 d4 hR hf hf0 hwl H;go_wp2_with fail
   refine HC.o.mono ?_;rintro e w5 ⟨rfl,own5,h5,d5⟩;have hR:=HX.o.2;clear HC;by_cases hc:cd3=0
   rotate_left
   .have q9:(cd3==0)=false:=by simpa using hc
    rw[if_pos hc]at hR;have HY:=Y3 h5 d5 hR;clear h5 d5 hR;go_wp2
    go_ret3
    rw[HY.o.2.2];exact⟨rfl,own5,HY.o.1,HY.o.2.1⟩
   subst hc;rw[if_neg (by simp)]at hR;have HA:=qqh (zu.from d5 (RQ h5));obtain⟨-,-,-,-,-,cS,-,-,-⟩:=h5.cells;have HY:=qqh hR;clear h5 d5 hR;go_wp2_with fail
   refine HA.o.mono ?_;rintro e w6 ⟨rfl,own6,h6,d6⟩;have hR:=HY.o;have hf:=HX.o.1.al;generalize allocVal b3.st=av2 at*;generalize allocCode b3.st=ac2 at*;generalize b3.al=b4 at*;clear HA cS HX HY;by_cases hc:ac2=0
   rotate_left
   .have q9:(ac2==0)=false:=by simpa using hc
    rw[if_pos hc]at hR;have HY:=Y3 h6 d6 hR;clear h6 d6 hR;go_wp2
    go_ret3
    rw[HY.o.2.2];exact⟨rfl,own6,HY.o.1,HY.o.2.1⟩
   subst hc;rw[if_neg (by simp)]at hR;unfold CaS.jC at hR;have HC:=qqh (zu.from d6 (vt h6 hf (by omega)));generalize hrr:CaS.je n b4=r at*;obtain⟨bR,cdR⟩:=r;simp only at hR HC;have HX:=qqh hR;clear h6 d6 hR hf hrr;go_wp2_with fail
   refine HC.o.mono ?_;rintro e w26 ⟨rfl,own26,h26,d26⟩;have hR:=HX.o;clear HC;by_cases hc:cdR=0
   .subst hc;rw[if_pos rfl]at hR;have HY:=Y3 h26 d26 hR;clear h26 d26 hR;go_wp2
    go_ret3
    rw[HY.o.2.2];exact⟨rfl,own26,HY.o.1,HY.o.2.1⟩
   .have q9:(cdR==0)=false:=by simpa using hc
    rw[if_neg hc]at hR;have HT:=qqh (zu.from d26 (yX h26 av2 3));obtain⟨-,-,-,-,-,cS,-,-,-⟩:=h26.cells;have HY:=qqh hR;clear h26 d26 hR hc;go_wp2_with fail
    refine HT.o.mono ?_;rintro e w27 ⟨rfl,own27,h27,d27⟩;have HZ:=Y2 h27 d27;clear h27 d27 HT cS;go_wp2
    go_ret3
    rw[HY.o];exact⟨rfl,own27,HZ.o.1,HZ.o.2⟩
  .rw [if_neg hc]at hR;have q1:((st:Int)==0)=false:=by simpa using hc
   unfold CaS.jE at hR;have HC:=qqh (zu.from d2 (ux h2 3));obtain⟨-,-,-,-,-,cS,-,-,-⟩:=h2.cells;rw[<-hst]at hR HC;have H:=Y2 H.o.1 hR;clear h2 d2 hR hst;have hcc:=qqh hc;clear hc;go_wp2_with fail
   refine HC.o.mono ?_;rintro e w4 ⟨rfl,own4,h4,d4⟩;have hR:=H.o.2;have hc:=hcc.out;clear HC cS;obtain⟨b2,hb2⟩:=qqe (b);rw[if_neg hc]at hR;subst hb2;unfold CaS.take3 at hR;have hwl:=h4.wl;have hf0:=H.o.1;have HC:=qqh (zu.from d4 (vQ h4 hf0.w1 (by have:=hf0.dO;omega)));have hf:=hf0.jh (n:=n) hwl;generalize CaS.jh n b2=r at*;obtain⟨b3,cd3⟩:=r;simp only at hR HC hf;have HX:=Y2 hf hR;clear h4 d4 hR hf hf0 hwl H;go_wp2_with fail
   refine HC.o.mono ?_;rintro e w5 ⟨rfl,own5,h5,d5⟩;have hR:=HX.o.2;clear HC;by_cases hc:cd3=0
   rotate_left
   .have q9:(cd3==0)=false:=by simpa using hc
    rw[if_pos hc]at hR;have HY:=Y3 h5 d5 hR;clear h5 d5 hR;go_wp2
    go_ret3
    rw[HY.o.2.2];exact⟨rfl,own5,HY.o.1,HY.o.2.1⟩
   subst hc;rw[if_neg (by simp)]at hR;have HA:=qqh (zu.from d5 (RQ h5));obtain⟨-,-,-,-,-,cS,-,-,-⟩:=h5.cells;have HY:=qqh hR;clear h5 d5 hR;go_wp2_with fail
   refine HA.o.mono ?_;rintro e w6 ⟨rfl,own6,h6,d6⟩;have hR:=HY.o;have hf:=HX.o.1.al;generalize allocVal b3.st=av2 at*;generalize allocCode b3.st=ac2 at*;generalize b3.al=b4 at*;clear HA cS HX HY;by_cases hc:ac2=0
   rotate_left
   .have q9:(ac2==0)=false:=by simpa using hc
    rw[if_pos hc]at hR;have HY:=Y3 h6 d6 hR;clear h6 d6 hR;go_wp2
    go_ret3
    rw[HY.o.2.2];exact⟨rfl,own6,HY.o.1,HY.o.2.1⟩
   subst hc;rw[if_neg (by simp)]at hR;unfold CaS.jC at hR;have HC:=qqh (zu.from d6 (vt h6 hf (by omega)));generalize hrr:CaS.je n b4=r at*;obtain⟨bR,cdR⟩:=r;simp only at hR HC;have HX:=qqh hR;clear h6 d6 hR hf hrr;go_wp2_with fail
   refine HC.o.mono ?_;rintro e w26 ⟨rfl,own26,h26,d26⟩;have hR:=HX.o;clear HC;by_cases hc:cdR=0
   .subst hc;rw[if_pos rfl]at hR;have HY:=Y3 h26 d26 hR;clear h26 d26 hR;go_wp2
    go_ret3
    rw[HY.o.2.2];exact⟨rfl,own26,HY.o.1,HY.o.2.1⟩
   .have q9:(cdR==0)=false:=by simpa using hc
    rw[if_neg hc]at hR;have HT:=qqh (zu.from d26 (yX h26 av2 3));obtain⟨-,-,-,-,-,cS,-,-,-⟩:=h26.cells;have HY:=qqh hR;clear h26 d26 hR hc;go_wp2_with fail
    refine HT.o.mono ?_;rintro e w27 ⟨rfl,own27,h27,d27⟩;have HZ:=Y2 h27 d27;clear h27 d27 HT cS;go_wp2
    go_ret3
    rw[HY.o];exact⟨rfl,own27,HZ.o.1,HZ.o.2⟩
end
theorem yh{α:Type}(l:List α)(i j:Nat)(x d:α):(l.set i x).getD j d=if i=j/\i<l.length then x else l.getD j d:=by
 simp only[qyh,qyt];by_cases h:i=j
 .subst h;by_cases hi:i<l.length
  .simp [hi]
  .simp [hi]
 .simp [h]
abbrev plc(ps:List (Int×Bool))(k:Nat):Int×Bool:=ps.getD k (-1,false)
theorem xK{ps:List (Int×Bool)}{k:Nat}(h:k<ps.length):plc ps k=ps[k]:=by simp[plc,h]
structure TieL(bl sl:Nat)(ps:List (Int×Bool))(st:List Int)(K:List Int)(o:Option Nat):Prop where
 hpl:ps.length=bl
 hsl:st.length=sl
 good:Good ps sl
 live:∀k,k<bl->plc ps k≠(-1,false)->st.getD (plc ps k).1.toNat 0=2
 used:∀s,s<sl->st.getD s 0=2->∃k,k<bl/\(plc ps k).1=(s:Int)
 opn:∀s,s<sl->(st.getD s 0=1↔o=some s)
 rng:∀s,s<sl->0<=st.getD s 0/\st.getD s 0<=4
 olt:∀s,o=some s->s<sl
 kk:∀k:Int,k∈K↔getC ps k=0
 kd:K.Nodup
theorem vu{l:List Int}{s:Nat}{t:Int}(hs:s<l.length)(ht:stateB t=true)(hm:mayB (l.getD s 0) t=true):turnCode l (s:Int) t=0/\turnList l (s:Int) t=l.set s t:=by
 have h:turnCode l (s:Int) t=0:=by
  unfold turnCode;rw[if_neg (by omega),if_neg (by rw[ht];decide),qxu,if_neg (by rw[hm];decide)]
 exact⟨h,by unfold turnList;rw[if_pos h,qxu]⟩
theorem zR{ps:List (Int×Bool)}{k:Int}:getC ps k=0↔∃m:Nat,m<ps.length/\k=(m:Int)/\plc ps m≠(-1,false):=by
 unfold getC;constructor
 .intro h;split at h
  .cases h
  .next hr=>
   split at h
   .cases h
   .next hn=>exact⟨k.toNat,by omega,by omega,hn⟩
 .rintro ⟨m,h1,rfl,h2⟩;rw[if_neg (by omega),if_neg (by rw[qxu];exact h2)]
theorem yK{ps:List (Int×Bool)}{m:Nat}(h:m<ps.length)(hn:plc ps m≠(-1,false)):getV ps (m:Int)=plc ps m:=by
 unfold getV;rw[if_neg (by omega),qxu,if_neg hn]
section
variable{bl sl:Nat}{ps:List (Int×Bool)}{st K:List Int}{o:Option Nat}
theorem TieL.slot(h:TieL bl sl ps st K o){k:Nat}(hk:k<bl)(hn:plc ps k≠(-1,false)):∃s:Nat,s<sl/\(plc ps k).1=(s:Int)/\st.getD s 0=2:=by
 have hl:k<ps.length:=by rw[h.hpl];exact hk
 have h1:=(h.good.each k hl).resolve_left (by rw[<-xK hl];exact hn);rw[<-xK hl]at h1;have h2:=h.live k hk hn;exact⟨(plc ps k).1.toNat,by omega,by omega,h2⟩
theorem TieL.inj(h:TieL bl sl ps st K o){i j:Nat}(hi:i<bl)(hj:j<bl)(h0:0<=(plc ps i).1)(he:(plc ps i).1=(plc ps j).1):i=j:=by
 have h1:i<ps.length:=by rw[h.hpl];exact hi
 have h2:j<ps.length:=by rw[h.hpl];exact hj
 rw[xK h1]at h0 he;rw[xK h2]at he;exact h.good.inj i j h1 h2 h0 he
theorem WM(pre:List Nat):∀(l:List Int),pre.Nodup->(∀k∈pre,k<l.length/\l.getD k 0=3)->∀s,(freeTo l pre).getD s 0=if s∈pre then 0 else l.getD s 0:=by
 induction pre with
 |nil=>intro l _ _ s;simp[freeTo]
 |cons x pre ih=>
  intro l hd h s;obtain⟨hx,h3⟩:=h x (by simp);have ht:=(vu (t:=0) hx (by decide) (by rw[h3];decide)).2;have e:freeTo l (x::pre)=freeTo (l.set x 0) pre:=by simp only[freeTo,List.foldl_cons,ht]
  rw[qXb]at hd;rw[e,ih (l.set x 0) hd.2 (fun k hk=>by
   obtain⟨h1,h2⟩:=h k (by simp[hk]);refine⟨by simpa using h1,?_⟩;rw[yh,if_neg (fun(e:x=k/\x<l.length)=>hd.1 (e.1▸hk))];exact h2) s,yh]
  by_cases hsx:x=s
  .subst hsx;rw[if_neg hd.1,if_pos ⟨rfl,hx⟩,if_pos (by simp)]
  .rw [if_neg (fun(e:x=s/\x<l.length)=>hsx e.1)];have:s≠x:=fun e=>hsx e.symm;by_cases hs:s∈pre
   .rw [if_pos hs,if_pos (by simp[hs])]
   .rw [if_neg hs,if_neg (by simp[hs,this])]
theorem ZZ{l:List Int}{x:Int}{s:Nat}:s∈pos l x↔s<l.length/\l.getD s 0=x:=by
 simp[pos,xr,List.getD_eq_getElem?_getD]
theorem Tq(l:List Int)(x:Int):(pos l x).Nodup:=List.nodup_range.filter _
theorem tc(l:List Int)(s:Nat)(hs:s<l.length):(freeTo l (pos l 3)).getD s 0=if l.getD s 0=3 then 0 else l.getD s 0:=by
 rw[WM _ _ (Tq l 3) (fun k hk=>ZZ.1 hk) s];by_cases h:l.getD s 0=3
 .rw [if_pos (ZZ.2 ⟨hs,h⟩),if_pos h]
 .rw [if_neg (fun e=>h (ZZ.1 e).2),if_neg h]
theorem TieL.freed(h:TieL bl sl ps st K o):TieL bl sl ps (freeTo st (pos st 3)) K o:=by
 have hg:∀s,s<sl->(freeTo st (pos st 3)).getD s 0=if st.getD s 0=3 then 0 else st.getD s 0:=fun s hs=>tc st s (by rw[h.hsl];exact hs)
 exact{h with
  hsl:=by rw[qZ];exact h.hsl
  live:=fun k hk hn=>by
   obtain⟨s,hs,he,h2⟩:=h.slot hk hn;rw[he,qxu,hg s hs,h2];decide
  used:=fun s hs h2=>by
   rw[hg s hs]at h2;split at h2
   .cases h2
   .exact h.used s hs h2
  opn:=fun s hs=>by
   rw[hg s hs,<-h.opn s hs];split
   .next e=>rw[e];decide
   .rfl
  rng:=fun s hs=>by
   rw[hg s hs];split
   .decide
   .exact h.rng s hs}
theorem TieL.turned(h:TieL bl sl ps st K o){s:Nat}{t:Int}{o':Option Nat}(hs:s<sl)(h2:st.getD s 0≠2)(ht2:t≠2)(ht:0<=t/\t<=4)(ho:∀r,r<sl->(if r=s then t=1 else o=some r)=(o'=some r))(ho':∀r,o'=some r->r<sl):TieL bl sl ps (st.set s t) K o':=by
 have hl:s<st.length:=by rw[h.hsl];exact hs
 have hg:∀r,(st.set s t).getD r 0=if r=s then t else st.getD r 0:=fun r=>by
  rw[yh];by_cases e:s=r
  .subst e;rw[if_pos ⟨rfl,hl⟩,if_pos rfl]
  .rw [if_neg (fun x=>e x.1),if_neg (fun x=>e x.symm)]
 exact{h with
  hsl:=by rw[qzj];exact h.hsl
  live:=fun k hk hn=>by
   obtain⟨r,hr,he,h3⟩:=h.slot hk hn;rw[he,qxu,hg r,if_neg (fun(e:r=s)=>h2 (by rw[<-e];exact h3))];exact h3
  used:=fun r hr h3=>by
   rw[hg r]at h3;split at h3
   .exact absurd h3 ht2
   .exact h.used r hr h3
  opn:=fun r hr=>by
   rw[hg r,<-ho r hr];split
   .exact Iff.rfl
   .exact h.opn r hr
  rng:=fun r hr=>by
   rw[hg r];split
   .exact ht
   .exact h.rng r hr
  olt:=ho'}
theorem Tr{t:Int}(h:t=2\/t=3\/t=4):mayB 1 t=true:=by rcases h with rfl|rfl|rfl<;>decide
theorem TieL.shut{s:Nat}(h:TieL bl sl ps st K (some s)){t:Int}(ht:t=3\/t=4):turnCode st (s:Int) t=0/\TieL bl sl ps (turnList st (s:Int) t) K none:=by
 have hs:=h.olt s rfl;have h1:=(h.opn s hs).2 rfl;obtain⟨hc,hl⟩:=vu (l:=st) (s:=s) (t:=t) (by rw[h.hsl];exact hs) (by rcases ht with rfl|rfl<;>decide) (by rw[h1];exact Tr (.inr ht));refine⟨hc,?_⟩;rw[hl];refine h.turned hs (by rw[h1];decide) (by rcases ht with rfl|rfl<;>decide) (by rcases ht with rfl|rfl<;>decide) (fun r hr=>?_) (fun r hr=>by cases hr);split
 .rcases ht with rfl|rfl<;>simp
 .next e=>simp;exact fun e2=>e e2.symm
theorem ru{l:List Int}(h:free l<l.length):l.getD (free l) 0=0:=by
 unfold free at h⊢;have:=List.findIdx_getElem (p:=(·==0)) (xs:=l) (w:=h);simp only[qyh,qyn h,Option.getD_some];simpa using this
theorem TieL.alloc(h:TieL bl sl ps st K none)(hc:allocCode st=0):∃s:Nat,s<sl/\allocVal st=(s:Int)/\st.getD s 0=0/\TieL bl sl ps (allocList st) K (some s):=by
 unfold allocCode at hc;split at hc
 .next hf=>
  have hs:free st<sl:=by rw[<-h.hsl];exact hf
  refine⟨free st,hs,by unfold allocVal;rw[if_pos hf],ru hf,?_⟩;refine h.turned hs (by rw[ru hf];decide) (by decide) (by decide) (fun r hr=>?_) (fun r hr=>by cases hr;exact hs);split
  .next e=>subst e;simp
  .next e=>simp;exact fun e2=>e e2.symm
 .cases hc
theorem vS{st:List Int}(hc:allocCode st≠0):allocList st=st:=by
 unfold allocCode at hc;split at hc
 .exact absurd rfl hc
 .next h=>exact List.set_eq_of_length_le (by omega)
theorem vv(ps:List (Int×Bool))(k j:Nat)(x:Int×Bool)(hk:k<ps.length):plc (ps.set k x) j=if j=k then x else plc ps j:=by
 rw[plc,yh];by_cases e:k=j
 .subst e;rw[if_pos ⟨rfl,hk⟩,if_pos rfl]
 .rw [if_neg (fun x=>e x.1),if_neg (fun x=>e x.symm)]
theorem TieL.left(h:TieL bl sl ps st K o){k:Int}(hg:getC ps k=0){K':List Int}(hd:K'.Nodup)(hK:∀x,x∈K'↔x∈K/\x≠k):
  turnCode st (getV ps k).1 3=0/\TieL bl sl (dropL ps k) (turnList st (getV ps k).1 3) K' o:=by
 obtain⟨m,hm,rfl,hn⟩:=zR.1 hg;have hmb:m<bl:=by rw[<-h.hpl];exact hm
 obtain⟨s,hs,he,h2⟩:=h.slot hmb hn;rw[yK hm hn,he];obtain⟨hc,hl⟩:=vu (l:=st) (s:=s) (t:=3) (by rw[h.hsl];exact hs) (by decide) (by rw[h2];decide);refine⟨hc,?_⟩;have hp:dropL ps (m:Int)=ps.set m (-1,false):=by unfold dropL;rw[if_pos hg,qxu]
 rw[hl,hp];have hsl:s<st.length:=by rw[h.hsl];exact hs
 have hgs:∀r,(st.set s 3).getD r 0=if r=s then 3 else st.getD r 0:=fun r=>by
  rw[yh];by_cases e:s=r
  .subst e;rw[if_pos ⟨rfl,hsl⟩,if_pos rfl]
  .rw [if_neg (fun x=>e x.1),if_neg (fun x=>e x.symm)]
 have hgp:=fun j=>vv ps m j (-1,false) hm;exact{
  hpl:=by rw[qzj];exact h.hpl
  hsl:=by rw[qzj];exact h.hsl
  good:=h.good.drop m
  live:=fun j hj hjn=>by
   rw[hgp j]at hjn⊢;by_cases e:j=m
   .rw [if_pos e]at hjn;exact absurd rfl hjn
   .rw [if_neg e]at hjn⊢;obtain⟨r,hr,her,hr2⟩:=h.slot hj hjn;rw[her,qxu,hgs r,if_neg (fun e2=>e (h.inj hj hmb (by rw[her];omega) (by rw[her,he,e2])))];exact hr2
  used:=fun r hr h3=>by
   rw[hgs r]at h3;by_cases e:r=s
   .rw [if_pos e]at h3;cases h3
   .rw [if_neg e]at h3;obtain⟨j,hj,hjr⟩:=h.used r hr h3;refine⟨j,hj,?_⟩;rw[hgp j,if_neg (fun e2=>e ?_)]
    .exact hjr
    .subst e2;rw[he]at hjr;exact(Int.ofNat.inj hjr).symm
  opn:=fun r hr=>by
   rw[hgs r,<-h.opn r hr];by_cases e:r=s
   .rw [if_pos e,e,h2];decide
   .rw [if_neg e]
  rng:=fun r hr=>by
   rw[hgs r];split
   .decide
   .exact h.rng r hr
  olt:=h.olt
  kk:=fun x=>by
   rw[hK,h.kk,zR,zR];constructor
   .rintro ⟨⟨j,hj,rfl,hjn⟩,hne⟩;refine⟨j,by rw[qzj];exact hj,rfl,?_⟩;rw[hgp j,if_neg (fun e=>hne (by rw[e]))];exact hjn
   .rintro ⟨j,hj,rfl,hjn⟩;rw[hgp j]at hjn;rw[qzj]at hj;by_cases e:j=m
    .rw [if_pos e]at hjn;exact absurd rfl hjn
    .rw [if_neg e]at hjn;exact⟨⟨j,hj,rfl,hjn⟩,fun e2=>e (by omega)⟩
  kd:=hd}
theorem TieL.clean(h:TieL bl sl ps st K o)(k:Int):TieL bl sl (cleanL ps k) st K o:=by
 by_cases hg:getC ps k=0
 .obtain ⟨m,hm,rfl,hn⟩:=zR.1 hg;have hp:cleanL ps (m:Int)=ps.set m ((plc ps m).1,false):=by unfold cleanL;rw[if_pos hg,yK hm hn,qxu]
  rw[hp];have hmb:m<bl:=by rw[<-h.hpl];exact hm
  obtain⟨s,hs,he,h2⟩:=h.slot hmb hn;have hgp:=fun j=>vv ps m j ((plc ps m).1,false) hm;have hnn:∀j,(plc (ps.set m ((plc ps m).1,false)) j≠(-1,false)↔plc ps j≠(-1,false))/\(plc (ps.set m ((plc ps m).1,false)) j).1=(plc ps j).1:=by
   intro j;rw[hgp j];by_cases e:j=m
   .subst e;rw[if_pos rfl];refine⟨⟨fun _=>hn,fun _ e=>?_⟩,rfl⟩;have:=congrArg Prod.fst e;rw[he]at this;simp at this
   .rw [if_neg e];exact⟨Iff.rfl,rfl⟩
  have hmg:=h.good.clean hm (by rw[<-xK hm,he];omega);rw[<-xK hm]at hmg;exact{h with
   hpl:=by rw[qzj];exact h.hpl
   good:=hmg
   live:=fun j hj hjn=>by rw[(hnn j).2];exact h.live j hj ((hnn j).1.1 hjn)
   used:=fun r hr h3=>by obtain⟨j,hj,e⟩:=h.used r hr h3;exact⟨j,hj,by rw[(hnn j).2];exact e⟩
   kk:=fun x=>by
    rw[h.kk,zR,zR];constructor
    .rintro ⟨j,hj,rfl,hjn⟩;exact⟨j,by rw[qzj];exact hj,rfl,(hnn j).1.2 hjn⟩
    .rintro ⟨j,hj,rfl,hjn⟩;exact⟨j,by rw[qzj]at hj;exact hj,rfl,(hnn j).1.1 hjn⟩}
 .unfold cleanL;rw[if_neg hg];exact h
theorem TieL.room{s:Nat}(h:TieL bl sl ps st K (some s)):K.length<sl:=by
 have hs:=h.olt s rfl;have h1:=(h.opn s hs).2 rfl;have hmap:∀x∈K,∃r:Nat,r<sl/\(getV ps x).1=(r:Int)/\r≠s/\∃m:Nat,m<ps.length/\x=(m:Int)/\plc ps m≠(-1,false):=by
  intro x hx;obtain⟨m,hm,rfl,hn⟩:=zR.1 ((h.kk x).1 hx);obtain⟨r,hr,he,h2⟩:=h.slot (by rw[<-h.hpl];exact hm) hn;exact⟨r,hr,by rw[yK hm hn];exact he,(fun(e:r=s)=>by rw[e,h1]at h2;cases h2),m,hm,rfl,hn⟩
 have hnd:(s::K.map (fun x=>(getV ps x).1.toNat)).Nodup:=by
  rw[qXb];constructor
  .intro hm;obtain⟨x,hx,e⟩:=qzv.1 hm;obtain⟨r,hr,he,hne,-⟩:=hmap x hx;rw[he,qxu]at e;exact hne e
  .have hd:=h.kd;clear hs h1;have key:∀L:List Int,L.Nodup->(∀x∈L,x∈K)->(L.map (fun x=>(getV ps x).1.toNat)).Nodup:=by
    intro L
    induction L with
    |nil=>intro _ _;exact qXc
    |cons x L ih=>
     intro hL hK;rw[qXb]at hL;rw[qzm,qXb];refine⟨fun hm=>?_,ih hL.2 (fun y hy=>hK y (by simp[hy]))⟩;obtain⟨y,hy,e⟩:=qzv.1 hm;obtain⟨r,hr,he,-,m,hm',rfl,hn⟩:=hmap x (hK x (by simp));obtain⟨r2,hr2,he2,-,m2,hm2,rfl,hn2⟩:=hmap y (hK y (by simp[hy]));rw[he,he2,qxu,qxu]at e;rw[yK hm' hn]at he;rw[yK hm2 hn2]at he2;have:=h.inj (i:=m) (j:=m2) (by rw[<-h.hpl];exact hm') (by rw[<-h.hpl];exact hm2) (by rw[he];omega) (by rw[he,he2,e]);exact hL.1 (by rw[this];exact hy)
   exact key K hd (fun x hx=>hx)
 have:=xo sl _ hnd (fun r hr=>by
  rcases qzr.1 hr with rfl|hr
  .exact hs
  .obtain ⟨x,hx,rfl⟩:=qzv.1 hr;obtain⟨r,hr,he,-⟩:=hmap x hx;rw[he,qxu];exact hr)
 simp at this;omega
end
abbrev CaS.Tie(n:CaN)(a:CaS)(o:Option Nat):Prop:=TieL n.bl n.sl a.ps a.st a.K o
section
variable{n:CaN}{a:CaS}{o:Option Nat}
theorem CaS.Tie.ckpt(h:a.Tie n o):(a.ckpt n).1.Tie n o:=by
 unfold CaS.ckpt;split
 .exact h
 split
 .exact h
 split
 .exact h
 .exact TieL.freed h
theorem CaS.Tie.je(h:a.Tie n o):(a.je n).1.Tie n o:=by
 unfold CaS.je;split
 .exact h
 .exact CaS.Tie.ckpt h
theorem CaS.Tie.jh(h:a.Tie n o):(a.jh n).1.Tie n o:=by
 unfold CaS.jh;split
 .exact h
 split
 .exact h
 .exact TieL.freed h
theorem CaS.Tie.evLeft(h:a.Tie n o)(hc:a.evC n=0):getC a.ps (a.evK n)=0/\turnCode a.st (getV a.ps (a.evK n)).1 3=0/\((a.ev n).left n (a.evK n)).Tie n o:=by
 rcases evR_cases (cleanB a.ps) n.sl a.K a.A a.H with⟨h1,-⟩|⟨-,i,A',hi,he,hf,-⟩
 .have:a.evC n=14:=h1;rw[this]at hc;cases hc
 .have hk:a.evK n=a.K[i]:=by rw[CaS.evK,he]
  have hg:=Za hf;rw[<-hk]at hg;have hp:=EvG.restK_perm hi;have hd:(a.K[i]::EvG.restK a.K i).Nodup:=hp.nodup_iff.2 h.kd;rw[qXb]at hd;have:=TieL.left h hg (K':=EvG.restK a.K i) hd.2 (fun x=>by
   rw[hk,<-hp.mem_iff,qzr];constructor
   .intro hx;exact⟨.inr hx,fun e=>hd.1 (e▸hx)⟩
   .rintro ⟨hx|hx,hne⟩
    .exact absurd hx hne
    .exact hx)
  refine⟨hg,this.1,?_⟩;show TieL n.bl n.sl (dropL a.ps (a.evK n)) (turnList a.st (getV a.ps (a.evK n)).1 3) (EvG.evR (cleanB a.ps) n.sl a.K a.A a.H).2.2.1 o;rw[he];exact this.2
theorem CaS.Tie.evNo(h:a.Tie n o)(hc:a.evC n≠0):(a.ev n).Tie n o:=by
 rcases evR_cases (cleanB a.ps) n.sl a.K a.A a.H with⟨-,he⟩|⟨h1,-⟩
 .show TieL n.bl n.sl a.ps a.st (EvG.evR (cleanB a.ps) n.sl a.K a.A a.H).2.2.1 o;rw[he];exact h
 .exact absurd h1 hc
theorem CaS.Tie.jm{n:CaN}{o:Option Nat}:∀(m g:Nat) {a:CaS},a.Tie n o->(CaS.jm n m g a).1.Tie n o
 |0,g,a,h=>h
 |m+1,g,a,h=>by
  have hr:=CaS.Tie.je h;simp only[CaS.jm];split
  .exact h
  split
  .exact hr
  split
  .next hc=>exact CaS.Tie.evNo hr hc
  .next hc=>
   obtain⟨-,h2,h3⟩:=CaS.Tie.evLeft hr (qxq hc);split
   .exact h3
   .exact CaS.Tie.jm m (g+1) h3
def CaS.TakeOk(n:CaN)(r:CaS×Int×Bool×Int):Prop:=
 (r.2.2.1=true/\r.2.2.2=0/\r.1.next+1<=r.1.cov+n.jo/\∃s:Nat,r.2.1=(s:Int)/\r.1.Tie n (some s))\/(r.2.2.1=false/\r.1.Tie n none)
theorem CaS.Tie.jC{s:Nat}(h:a.Tie n (some s))(h1:1<=a.next)(hj:4<=n.jo):CaS.TakeOk n (a.jC n (s:Int)):=by
 have hr:=CaS.Tie.je h;unfold CaS.jC;split
 .next hc=>exact .inl ⟨rfl,rfl,CaS.jA hc h1 hj,s,rfl,hr⟩
 .exact .inr ⟨rfl,(TieL.shut hr (.inl rfl)).2⟩
theorem CaS.evicts_next(n:CaN):∀(m g:Nat) (a:CaS),a.next<=(CaS.jm n m g a).1.next
 |0,g,a=>qXv _
 |m+1,g,a=>by
  have hn:=(a.jf n).1;simp only[CaS.jm];split
  .exact qXv _
  split
  .show a.next<=(a.je n).1.next;omega
  split
  .show a.next<=(a.je n).1.next;omega
  split
  .show a.next<=(a.je n).1.next+1;omega
  .have:=CaS.evicts_next n m (g+1) (((a.je n).1.ev n).left n ((a.je n).1.evK n));exact qXx (by show a.next<=(a.je n).1.next+1;omega) this
theorem CaS.Tie.take3(h:a.Tie n none)(h1:1<=a.next)(hj:4<=n.jo):CaS.TakeOk n (a.take3 n):=by
 have hc:=CaS.Tie.jh h;have hn:=(a.committed_next n).1;unfold CaS.take3;split
 .exact .inr ⟨rfl,hc⟩
 split
 .next ha=>
  refine .inr ⟨rfl,?_⟩;show TieL n.bl n.sl (a.jh n).1.ps (allocList (a.jh n).1.st) (a.jh n).1.K none;rw[vS ha];exact hc
 .next ha=>
  obtain⟨s,hs,hv,-,ht⟩:=TieL.alloc hc (qxq ha);rw[hv];exact CaS.Tie.jC (a:=(a.jh n).1.al) ht (by show 1<=(a.jh n).1.next;omega) hj
theorem CaS.Tie.jE(h:a.Tie n none)(h1:1<=a.next)(hj:4<=n.jo):CaS.TakeOk n (a.jE n):=by
 unfold CaS.jE;split
 .exact .inr ⟨rfl,h⟩
 .exact CaS.Tie.take3 h h1 hj
theorem CaS.Tie.take1(h:a.Tie n none)(h1:1<=a.next)(hj:4<=n.jo):CaS.TakeOk n (a.take1 n):=by
 have he:=CaS.Tie.jm (n:=n) 1 0 h;have hn:=CaS.evicts_next n 1 0 a;unfold CaS.take1;split
 .split
  .exact .inr ⟨rfl,he⟩
  .exact CaS.Tie.jE he (by omega) hj
 .exact CaS.Tie.jE h h1 hj
theorem CaS.Tie.jj(h:a.Tie n none)(h1:1<=a.next)(hj:4<=n.jo):CaS.TakeOk n (a.jj n):=by
 unfold CaS.jj;split
 .next ha=>
  obtain⟨s,hs,hv,-,ht⟩:=TieL.alloc h ha;rw[hv];exact CaS.Tie.jC (a:=a.al) ht h1 hj
 .next ha=>
  have:a.al.Tie n none:=by
   show TieL n.bl n.sl a.ps (allocList a.st) a.K none;rw[vS ha];exact h
  exact CaS.Tie.take1 this h1 hj
theorem CaS.Fit.jj{N:Nat}(h:a.Fit N)(h1:1<=a.next)(hwl:∀b:CaS,(b=a.al\/b=(CaS.jm n 1 0 a.al).1)->b.W.length<=n.jo):(a.jj n).1.Fit (N+2*n.pa+n.jo+1):=by
 have h2:∀{b:CaS} {M:Nat},b.Fit M->b.W.length<=n.jo->(b.jE n).1.Fit (M+n.jo+n.pa):=by
  intro b M hb hw;have hc:=hb.jh (n:=n) hw;unfold CaS.jE;split
  .exact hb.mono (by omega)
  .unfold CaS.take3;split
   .exact hc.mono (by omega)
   split
   .exact hc.al.mono (by omega)
   .exact hc.al.jC _
 have he:=CaS.Fit.jm (n:=n) 1 0 h.al h1;unfold CaS.jj;split
 .exact (h.al.jC _).mono (by omega)
 .unfold CaS.take1;split
  .split
   .exact he.mono (by omega)
   .exact (h2 he (hwl _ (.inr rfl))).mono (by omega)
  .exact (h2 h.al (hwl _ (.inl rfl))).mono (by omega)
end
end Go.Proofs.YtfhfbpmlnjdfoaaGreatDoor
