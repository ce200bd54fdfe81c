/- A cache: Checkpoint, whatever is in it, and wh -/
import Derived.Test.YtfhfbpmlnjdfoaaGreatDoorG20
set_option maxRecDepth 100000
set_option maxHeartbeats 4000000
namespace Go.Proofs.YtfhfbpmlnjdfoaaGreatDoor
open Go Go.RowKit Go.Shelf
attribute [local go_sem] qYh
def CaS.ent(a:CaS)(x:It9):Ent:=⟨x.1,x.2.1.toNat,x.2.2,(a.sums x.1).getD 0⟩
def CaS.ents(n:CaN)(a:CaS):List Ent:=(vis (spanL a.ps 0 n.bl) 0).map a.ent
def CaS.fd(a:CaS):CaS:=a.dev (flushR a.dF a.dO a.dP)
def CaS.svR(n:CaN)(a:CaS):DRes:=saveR a.dF a.dO a.dP (ckO (1+(1-a.which)*n.pa) n.pa (pagesB (a.next-1) (a.ents n)))
def CaS.ckd(n:CaN)(a:CaS):CaS:={a.dev (a.svR n)with which:=1-a.which,cov:=a.next-1,W:=[],st:=freeTo a.st (pos a.st 3)}
def CaS.ckpt(n:CaN)(a:CaS):CaS×Int:=
 if(flushR a.bF a.bO a.bP).cd≠0 then(a.fb,(flushR a.bF a.bO a.bP).cd)
 else if(flushR a.fb.dF a.fb.dO a.fb.dP).cd≠0 then(a.fb.fd,(flushR a.fb.dF a.fb.dO a.fb.dP).cd)
 else if(a.fb.fd.svR n).cd≠0 then(a.fb.fd.dev (a.fb.fd.svR n),(a.fb.fd.svR n).cd)else(a.fb.fd.ckd n,0)
theorem xV(F:List Bk)(O:List (Nat×Bk))(P:List Int):(flushR F O P).O.length<=O.length:=by
 unfold flushR;repeat' split
 all_goals simp
theorem Xy{qs:List (Int×Bool)}{fr:Nat}{x:It9}(h:x∈vis qs fr):∃k,∃hk:k<qs.length,x=(fr+k,qs[k])/\qs[k]≠(-1,false):=by
 have:∀m,m<=qs.length->x∈visTo qs fr m->∃k,∃hk:k<qs.length,x=(fr+k,qs[k])/\qs[k]≠(-1,false):=by
  intro m
  induction m with
  |zero=>intro _ h;cases h
  |succ m ih=>
   intro hm h;by_cases hq:qs[m]=(-1,false)
   .rw [vv (by omega) hq]at h;exact ih (by omega) h
   .rw [uG (by omega) hq]at h;rcases qzq.1 h with h|h
    .exact ih (by omega) h
    .simp at h;exact⟨m,by omega,h,hq⟩
 exact this _ (qXv _) h
theorem xW:∀(n:Nat) (l:List Nat),l.Nodup->(∀x∈l,x<n)->l.length<=n
 |0,l,_,h=>by
  cases l with
  |nil=>exact qXv _
  |cons x l=>exact absurd (h x (by simp)) (by omega)
 |n+1,l,hd,h=>by
  by_cases hn:n∈l
  .have h1:=xW n (l.erase n) (hd.erase n) (fun x hx=>by
    have h2:=(hd.mem_erase_iff).1 hx;have:=h x h2.2;have:=h2.1;omega)
   rw[List.length_erase_of_mem hn]at h1;omega
  .have h1:=xW n l hd (fun x hx=>by
    have:=h x hx;have:x≠n:=fun e=>hn (e▸hx);omega)
   omega
theorem JY{ps:List (Int×Bool)}{slots:Nat}(h:Good ps slots)(m:Nat):(vis (spanL ps 0 m) 0).length<=slots:=by
 have hq:∀k (hk:k<(spanL ps 0 m).length),∃h:k<ps.length,(spanL ps 0 m)[k]=ps[k]:=fun k hk=>⟨by simp[spanL]at hk;omega,by simp[spanL]⟩
 have key:∀k,k<=(spanL ps 0 m).length->((visTo (spanL ps 0 m) 0 k).map (fun x=>x.2.1.toNat)).Nodup/\∀x∈visTo (spanL ps 0 m) 0 k,∃j,∃hj:j<ps.length,j<k/\x.2=ps[j]/\0<=ps[j].1/\ps[j].1<slots:=by
  intro k
  induction k with
  |zero=>exact fun _=>⟨qXc,fun x hx=>by cases hx⟩
  |succ k ih=>
   intro hk;obtain⟨h1,h2⟩:=ih (by omega);by_cases hb:(spanL ps 0 m)[k]=(-1,false)
   .rw [vv (by omega) hb];exact⟨h1,fun x hx=>by obtain⟨j,hj,h3,h4⟩:=h2 x hx;exact⟨j,hj,by omega,h4⟩⟩
   .rw [uG (by omega) hb];obtain⟨hk',e⟩:=hq k (by omega);have hgk:=(h.each k hk').resolve_left (by rw[<-e];exact hb);refine⟨?_,fun x hx=>?_⟩
    .rw [qzl,qXa];refine⟨h1,by simp,?_⟩;intro u hu v hv huv;subst huv;obtain⟨x,hx,rfl⟩:=qzv.1 hu;obtain⟨j,hj,h3,h4,h5,h6⟩:=h2 x hx;simp only[qzm,qzo,qzy]at hv;rw[h4,e]at hv;have:=h.inj j k hj hk' h5 (by omega);omega
    .rcases qzq.1 hx with hx|hx
     .obtain ⟨j,hj,h3,h4⟩:=h2 x hx;exact⟨j,hj,by omega,h4⟩
     .simp at hx;subst hx;exact⟨k,hk',by omega,e,hgk⟩
 obtain⟨h1,h2⟩:=key _ (qXv _);have:=xW slots _ h1 (fun x hx=>by
  obtain⟨y,hy,rfl⟩:=qzv.1 hx;obtain⟨j,hj,-,h4,h5,h6⟩:=h2 y hy;rw[h4];omega)
 rwa[qzg]at this
section
variable{own own':Nat->Nat}{w w':World}{c:Nat}{n:CaN}{p:CaP}{a:CaS}
theorem TN(h:CaAt own w c n p a)(hO:a.dO.length<=50000)(seq wh:Nat)(hwh:wh<=1)(lo:Option Addr)(k lc:Nat)(E:List Ent)(hE:E.length=k)(hk:needN k<=n.pa)(hk1:k<=100000)
  (hbuild:∀W,Below w.heap.size w W->Calls Tryz.prog 191 #[.int .i64 (seq:Int),.slice lo k lc] W (xr W seq E)):
  Calls Tryz.prog 60 #[ptr p.ssd,.int .i64 1,.int .i64 (n.pa:Int),.int .i64 (wh:Int),.int .i64 (seq:Int),.slice lo k lc] w
   (zu own w c n p (a.dev (saveR a.dF a.dO a.dP (ckO (1+wh*n.pa) n.pa (pagesB seq E)))) (.int .i64 (saveR a.dF a.dO a.dP (ckO (1+wh*n.pa) n.pa (pagesB seq E))).cd)):=by
 have hz:=h.ok.z;have hs:=h.fl;have hs1:=h.ok.s1;have hp2:=h.ok.p2;unfold CaN.size at hz hs;exact(TL h.open2 (fun _ h=> .inr h) 1 n.pa seq wh hwh lo k lc E hE hk hk1 (by omega) (by omega) hbuild).mono fun _ _ ⟨he,hd,hu⟩=>⟨he,_,h.turn2 hu hd (VU _ _ _ _),h.did2 hu⟩
def CkI(a:CaS)(wz:World)(lb:Nat){qs:List (Int×Bool)}(pre:List (ItM qs 0))(W:World):Prop:=
 Upd (fun j=>j=lb\/wz.heap.size<=j) wz W/\∃v,W.heap[lb]?=some (.cells #[v] 22 (0,0))/\Sl W 37 4 v pre.length ((pre.map (fun x=>a.ent x.1)).flatMap entC)/\From wz.heap.size v/\(pre=[]->v=.slice none 0 0)
theorem Sl.cellsAt{w:World}{e:TypeId}{k n:Nat}{v:Value}{xs:List Value}(h:Sl w e k v n xs){g:Nat}(hg:v.ownBlock=some g):∃cs t z,w.heap[g]?=some (.cells cs t z):=by
 obtain⟨-,⟨rfl,-⟩|⟨g',off,cap,cur,rfl,hg',-⟩⟩:=h
 .cases hg
 .cases hg;exact⟨_,_,_,hg'⟩
theorem Sj:(Tryz.prog.info? 37).map (fun i=>(i.zero.map (·.cells.size),i.size,i.bytes))=some (some 4,4,32):=by kernel_rfl
theorem ri:∃i z,Tryz.prog.info? 37=some i/\i.zero=some z/\z.cells.size=4/\i.size=4/\i.bytes=32:=by
 obtain⟨i,hi,hb⟩:=qYi.1 Sj;simp only[qYk]at hb;obtain⟨h1,h2,h3⟩:=hb;obtain⟨z,hz,hzs⟩:=qYi.1 h1;exact⟨i,z,hi,hz,hzs,h2,h3⟩
theorem Zf(h:CaAt own w c n p a)(hsm:∀k v,a.sums k=some v->v<=4294967295)(hdO:a.dO.length<=50000):
  Calls Tryz.prog 80 #[ptr c] w (zu own w c n p (a.ckpt n).1 (.int .i64 (a.ckpt n).2)):=by
 obtain⟨w1,hw1⟩:=qqe (w.alloc (.cells #[ptr c] 62));have hu1:Upd (fun _=>False) w w1:=by rw[hw1];exact(uur _ w).alloc _
 have h1:=h.new hu1;have hb1:Box own w1 w.heap.size (.cells #[ptr c] 62):=by rw[hw1];exact Box.made h.far _
 have d1:=h.didNew hu1;have HH:=Y3 h hsm hdO;have hcl:=h.clt;obtain⟨-,c15,-⟩:=h.cells;have H1:=Y3 h1 hb1 d1;have HC:=qqh (xJ h1);have hR:a.ckpt n=a.ckpt n:=rfl
 conv at hR=>rhs;unfold CaS.ckpt
 obtain⟨R,hRR⟩:=qqe (a.ckpt n);rw[<-hRR]at hR⊢;clear h hsm hdO h1 hb1 d1 hu1 hRR;generalize hcd:(flushR a.bF a.bO a.bP).cd=cd at*;replace hR:=qqh hR;refine(callsIn_wide (n:=3)).1 ?_;refine callsIn_of_wp_marks Tryz.func80 rfl trivial ?_ rfl;simp only[Tryz.ntmps80,qXm,qze,qzh,Nat.reduceAdd,Nat.reduceSub,qxi,qxj,qXg,qxz,qzz,qya];refine wpIn_wide.2 ?_;go_wp2_with fail
 rw[<-hw1];clear hw1 c15;refine HC.o.mono ?_;rintro e w2 ⟨rfl,own2,hca2,hd2⟩;replace hca2:CaAt own2 w2 c n p a.fb:=hca2;obtain⟨h1,hb1,d1⟩:=H1.o;have hb2:=hb1.did hd2;have c14:=hca2.cells.1;have cb:=za hb2.1 0;have H2:=Y3 hca2 hb2 (d1.trans hd2);have HC2:=qqh (sJ hca2);clear hca2 hd2 hb2 h1 hb1 d1 HC H1 hcd;by_cases hc:cd=0
 rotate_left
 .have q0:(cd==0)=false:=by simpa using hc
  go_wp2_with fail
  obtain⟨h2,-,d2⟩:=H2.o;have hR':=hR.out;rw[if_pos hc]at hR';rw[hR'];clear cb c14 HC2 H2 hcl HH q0;exact⟨_,results_tmp rfl _ _ _,rfl,_,h2,d2⟩
 subst hc;replace hR:=hR.out;rw[if_neg (by simp)]at hR;generalize (flushR a.fb.dF a.fb.dO a.fb.dP).cd=cd at*;replace hR:=qqh hR;go_wp2_with fail
 refine HC2.o.mono ?_;rintro e w3 ⟨rfl,own3,hca3,hd3⟩;replace hca3:CaAt own3 w3 c n p a.fb.fd:=hca3;obtain⟨h2,hb2,d2⟩:=H2.o;have hb3:=hb2.did hd3;have H3:=Y3 hca3 hb3 (d2.trans hd3);clear hca3 hd3 hb3 h2 hb2 d2 HC2 H2 c14 cb;by_cases hc:cd=0
 rotate_left
 .have q0:(cd==0)=false:=by simpa using hc
  go_wp2_with fail
  obtain⟨h2,-,d2⟩:=H3.o;have hR':=hR.out;rw[if_pos hc]at hR';rw[hR'];clear H3 hcl HH q0;exact⟨_,results_tmp rfl _ _ _,rfl,_,h2,d2⟩
 subst hc;replace hR:=hR.out;rw[if_neg (by simp)]at hR;replace hR:=qqh hR;go_wp2_with fail
 obtain⟨h3,hb3,d3⟩:=H3.o;obtain⟨w4,hw4⟩:=qqe (w3.alloc (.cells #[.slice none 0 0] 22));have hu4:Upd (fun _=>False) w3 w4:=by rw[hw4];exact((uur _ w3).alloc _)
 have hud:Upd (fun _=>False) w4 w4.drew:=(uur _ w4).drew;have h4:=h3.new hu4;have hb4:=hb3.new hu4;have hl4:Box own3 w4 w3.heap.size (.cells #[.slice none 0 0] 22):=by rw[hw4];exact Box.made h3.far _
 have d4:=d3.trans (h3.didNew hu4);obtain⟨lb,hlb⟩:=qqe (w3.heap.size);rw[<-hlb]at hl4;have HLB:=qqh (show w.heap.size<=lb by have:=d3.upd.size;omega);have H4:=Y4 (h4.new hud) (hb4.new hud) (hl4.new hud) (d4.trans (h4.didNew hud));obtain⟨vi,mi,hix,hib,his⟩:=(h4.new hud).ix;have hpsl:=h4.pl;have hgd:=Y3 hix.good h4.ok.s2 h4.ok.b2;have hb1:=HH.o.1.ok.b1;have hA:=JW hix 0 n.bl (by rw[hpsl];omega);have HA:=qqh hA;obtain⟨-,-,-,-,c18,-⟩:=h4.cells;have s1:=h4.sup.2.1;have cb:=za hb4.1 0;rw[<-hw4,<-hlb];clear h3 hb3 d3 hu4 h4 hb4 hl4 d4 hix hib his hA hw4 hud hlb
 go_still_tail 10,(by kernel_rfl)
 change wpList _ _ _ _ _ w4.drew
 generalize w4.drew=w4d at*;clear c18 s1 cb;go_wp2_with fail
 refine HA.o.mono ?_;rintro e w5 ⟨Bs,Bp,g,off,cap,rfl,⟨hB1,hB2,hB3⟩,hBs,hBp,hg,hcs,hcp,hcl5,hb5⟩;go_wp2_with fail
 have hle:(spanL a.ps 0 n.bl).length<=4096:=by
  have:=HH.o.1.ok.b2;simp[spanL];omega
 have hps':a.fb.fd.ps=a.ps:=rfl;rw[hps']at hcs hcl5 hpsl hgd;have hgood:∀k (h:k<(spanL a.ps 0 n.bl).length),(spanL a.ps 0 n.bl)[k]=(-1,false)\/(0<=(spanL a.ps 0 n.bl)[k].1/\(spanL a.ps 0 n.bl)[k].1<n.sl):=by
  intro k hk;have:(spanL a.ps 0 n.bl)[k]=a.ps[k]'(by simp[spanL]at hk;omega):=by simp[spanL]
  rw[this];exact hgd.out.1.each k _
 have hsz5:=hb5.size;have hlb4:lb<w4d.heap.size:=zd H4.o.2.2.1.1;have hlo:own3 lb=0:=H4.o.2.2.1.2;have HU5:Hid (Upd (fun _=>False) w4d w5):=uuo hb5;have hvl:(vis (spanL a.ps 0 n.bl) 0).length<=4096:=qXx (VS _ _ _) hle;obtain⟨qs,hqs⟩:=qqe (spanL a.ps 0 n.bl);rw[<-hqs]at hcs hcl5 hle hgood hvl;have hql:qs.length=n.bl:=by rw[hqs];simp[spanL];omega
 have HG:=Y4 hgood hgd.out.2 hql hqs;obtain⟨h4,hb4,-,d4⟩:=H4.o;have hne:∀j,(j=lb\/w5.heap.size<=j)->own3 j=0/\j≠0/\j≠1:=by
  intro j hj;have hn1:=h4.nib.lt;have hn2:=h4.tur.lt;have ho1:=h4.on;rcases hj with rfl|hj
  .refine ⟨hlo,fun e=>?_,fun e=>?_⟩
   .have h2:=za (H4.o.2.2.1.1) 0;rw[e]at h2;have:=h2.symm.trans (h4.nib.c 0 (by decide));simp at this
   .have h2:=za (H4.o.2.2.1.1) 0;rw[e]at h2;have:=h2.symm.trans h4.tur.c0;simp at this
  .exact ⟨h4.far j (by omega),by omega,by omega⟩
 have hwb:w.heap.size≠lb:=by
  intro e;have:=hb4.1;rw[e]at this;have:=this.symm.trans H4.o.2.2.1.1;simp at this
 have HNE:=Y2 hne hwb;clear h4 hb4 d4 hne hwb;refine(wpIn_wide (n:=4)).1 ?_
 refine' wpIn_rangeFunc_ownH rfl (by omega) (gf:=217) (lb:= #[.pointer (some ⟨Bs,0,none⟩),.pointer (some ⟨Bp,0,none⟩)]) rfl trivial (enters_of Tryz.func217 (by kernel_rfl) rfl)
  (VW _ (by omega) (fun j=>j=lb\/w5.heap.size<=j) Bs Bp g off cap qs 0 w5 hle (by omega) (fun k hk=>(hgood k hk).imp id And.left) hg hBp hBs (by omega) (by omega) hcs hcp hcl5) uC (fun W l o o' hl=>wE (M:=w5.heap.size) (fun j h=> .inr h) W l o o' hl) (qxl _ _) (fun _=>rfl)
  (CkI a w5 lb)
  (fun _ _ _=>False)
  (fun pre X Y row hs hg hr=>by
   obtain⟨hu,v,hv,hs,hf,hn⟩:=hs;exact⟨xq hu hg (fun r e=> .inr (hr r e).1),v,(grownBy_keeps_cells hg (fun r e=>(hr r e).2) hv rfl).trans hv,
    hs.keep (Upd.of_grown (S:=fun j=>row=some j) hg (fun g e _=>e)) (fun g hgv e=>by
     obtain⟨o,ho,hc⟩:=(hr g e).2;obtain⟨cs,t,z,hcs⟩:=hs.cellsAt hgv;rw[hcs]at ho;cases ho;cases hc),hf,hn⟩)
  (fun _ _ _ _ _ hs _ _=>hs)
  ⟨uur _ _,_,HU5.o.blockv H4.o.2.2.1.1,Sl.nil _ _ _,From.nil _ _ _,fun _=>rfl⟩
  (fun x a' W=>∃pb,a'=(_:ItM qs 0->Nat->Act) x pb/\Jp x.1 pb W)
  (fun x a'=>fun s X Y row hs hg hr=>by obtain⟨pb,e,hp⟩:=hs;exact⟨pb,e,VX _ x.1 pb () X Y row hp hg hr⟩)
  ?assign ?body ?done ?stop
 case assign=>
  rintro l pre x W K ⟨hu,v,hv,hs,hf,hn⟩ hK
  gi_wp2
  have hun:Upd (fun _=>False) W (W.alloc (.cells #[.int .i64 x.1.2.1,.bool x.1.2.2] 95)):=(uur _ _).alloc _;have hg0:=World.grownBy_alloc W (.cells #[.int .i64 x.1.2.1,.bool x.1.2.2] 95) none;refine hK _ _ (KeepsFrom.of_grownBy hg0 (fun j e=>by cases e)) (hun.mono (fun _ _ h=>h.elim)) ⟨hu.trans (hun.mono (fun _ _ h=>h.elim)),v,hun.blockv hv,hs.keep hun (fun _ _ h=>h),hf,hn⟩ ⟨W.heap.size,?_,zc W _ rfl⟩;generalize W.heap.size=pb;exact rfl
 case stop=>
  rintro D c pre W _ _ h _;exact h.elim
 case body=>
  rintro l pre ⟨⟨xn,xs,xd⟩,hx⟩ a' W hl _ ⟨hu,v,hv,hs,hf,-⟩ ⟨pb,rfl,hp⟩ hlt;have hxx:xn<4096/\0<=xs/\xs<n.sl:=by
   obtain⟨k,hk,e,hq⟩:=Xy hx;simp only[qYk]at e;obtain⟨rfl,e2⟩:=e;have:=(HG.o.1 k hk).resolve_left hq;rw[<-e2]at this;exact⟨by omega,this⟩
  obtain⟨hx1,hx2,hx3⟩:=hxx;obtain⟨h4,hb4,-,d4⟩:=H4.o;have hne:=HNE.o.1;have hwb:=HNE.o.2;have hpl:pb≠lb:=by
   intro e;have h2:W.heap[pb]?=_:=hp;rw[e]at h2;have:=h2.symm.trans hv;simp at this
  have hpv:∀g,v.ownBlock=some g->g≠pb:=by
   intro g hg e;obtain⟨-,⟨rfl,-⟩|⟨g',off,cap,cur,rfl,hg',-⟩⟩:=hs
   .cases hg
   .cases hg;replace e:g'=pb:=e;rw[e]at hg';have:=hg'.symm.trans (show W.heap[pb]?=_ from hp);simp at this
  have hlv:∀g,v.ownBlock=some g->g≠lb:=fun g hg e=>by have:=hf g hg;omega
  obtain⟨mm,hmm⟩:=qqe ((a.sums (xn:Int)).getD 0);have hMM:∀X,Upd (fun j=>j=lb\/w5.heap.size<=j) w4d X->X.cell? ⟨w.heap.size,0,none⟩=some (ptr c)/\X.cell? ⟨c,22,none⟩=some (.map (some p.sm))/\(Instr.lookup 116 (.map (some p.sm)) (.int .i64 (xn:Int)) false).run Tryz.prog X=.ok (.int .i64 (mm:Int)) X:=by
   intro X hX;have hCA:=h4.nobody hX hne;obtain⟨-,-,-,-,-,-,-,-,c22⟩:=hCA.cells;refine⟨za ((hX.block _ (zd hb4.1) (fun hs=>by
    rcases hs with hs|hs
    .exact hwb hs
    .have:=zd hb4.1;omega)).trans hb4.1) 0,c22,?_⟩
   rw[hmm];exact hCA.sm.1.look1 (by omega) (by omega)
  have hW4:Upd (fun j=>j=lb\/w5.heap.size<=j) w4d W:=(HU5.o.mono (fun _ _ h=>h.elim)).trans hu;obtain⟨Wd,hWd⟩:=qqe (W.drew);have hud:Upd (fun _=>False) W Wd:=by rw[hWd];exact(uur _ W).drew
  have hUd:=hW4.trans (hud.mono (S':=fun j=>j=lb\/w5.heap.size<=j) (fun _ _ h=>h.elim));obtain⟨Wa,hWa⟩:=qqe (Wd.alloc (.cells #[.int .i64 (xn:Int),.int .i64 xs,.bool xd,.int .i64 (mm:Int)] 37));have hua:Upd (fun _=>False) Wd Wa:=by rw[hWa];exact(uur _ Wd).alloc _
  have hUa:=hUd.trans (hua.mono (S':=fun j=>j=lb\/w5.heap.size<=j) (fun _ _ h=>h.elim));have hga:Wa.heap[Wd.heap.size]?=some (.cells #[.int .i64 (xn:Int),.int .i64 xs,.bool xd,.int .i64 (mm:Int)] 37):=by rw[hWa];exact zc Wd _ rfl
  obtain⟨i0,z0,hi,hz,hzs,hisz,hiby⟩:=ri;have hsA:=(hs.keep hud (fun _ _ h=>h)).keep hua (fun _ _ h=>h);have hpl4:pre.length<=4096:=by omega
  obtain⟨v',w',hrun,hs',hu',hbf⟩:=yj (P:=Tryz.prog) (m:=1) (x':=.slice (some ⟨Wd.heap.size,0,none⟩) 1 1) (news:=[.int .i64 (xn:Int),.int .i64 xs,.bool xd,.int .i64 (mm:Int)]) 22 22 i0 z0 32 Tryz.underlying22 hi hz hisz hiby hzs (by decide) hsA
   ⟨rfl,by decide,_,_,rfl,(fun h=>by cases h),fun b hb j u hj=>by cases hb;rw[qxa,za hga];simpa using hj⟩ (by intro u hu;simp at hu;rcases hu with rfl|rfl|rfl|rfl<;>rfl) (by simp only[maxLen];omega) (by omega)
  obtain⟨ao',cc',hv'⟩:=hs'.rd.nil_iff;subst hv';have hU':=hUa.trans (hu'.mono (S':=fun j=>j=lb\/w5.heap.size<=j) (fun j _ hj=> .inr (hf j hj)));obtain⟨w7,hw7⟩:=qqe (w'.setCell ⟨lb,0,none⟩ (.slice ao' (pre.length+1) cc'));have hus7:Upd (fun j=>j=lb) w' w7:=by rw[hw7];exact zi _ _ _ _
  have hU7:=hU'.trans (hus7.mono (S':=fun j=>j=lb\/w5.heap.size<=j) (fun j _ hj=> .inl hj));have gd:Wd.heap[pb]?=some (.cells #[.int .i64 xs,.bool xd] 95 (0,0)):=hud.blockv hp;have ga:=hua.blockv gd;have g':=(hu'.block pb (zd ga) (fun h=>hpv pb h rfl)).trans ga;have g7:=(hus7.block pb (zd g') hpl).trans g';have vd:=hud.blockv hv;have va:=hua.blockv vd;have v6:=(hu'.block lb (zd va) (fun h=>hlv lb h rfl)).trans va;have v7:w7.heap[lb]?=some (.cells #[.slice ao' (pre.length+1) cc'] 22 (0,0)):=by rw[hw7];exact zh v6 0 _
  have cd0:=za gd 0;have cd1:=za gd 1;have ca0:=za ga 0;have ca1:=za ga 1;have c60:=za g' 0;have c61:=za g' 1;have c70:=za g7 0;have c71:=za g7 1;have cl0:=za vd 0;have cla:=za va 0;have cl6:=za v6 0;have fl6:=zf v6 0;simp at cd0 cd1 ca0 ca1 c60 c61 c70 c71 cl0 cla cl6;have hKO:KeepsOthers W w7:=by
   have e1:KeepsOthers W Wa:=⟨by have h1:=hud.size;have h2:=hua.size;omega,fun k o hk ho=>hua.blockv (hud.blockv hk)⟩
   have e2:KeepsOthers Wa w':=zA hu' (fun j hj _=>hsA.cellsAt hj);exact(e1.trans e2).trans (zA hus7 (fun j hj _=>⟨_,_,_,hj▸v6⟩))
  have hPOST:KeepsFrom w5.heap.size W w7/\Upd (fun j=>j=lb\/w5.heap.size<=j) W w7/\CkI a w5 lb (pre++[(⟨(xn,xs,xd),hx⟩:ItM qs 0)]) w7:=by
   have hWW:Upd (fun j=>j=lb\/w5.heap.size<=j) W w7:=(((hud.mono (fun _ _ h=>h.elim)).trans (hua.mono (fun _ _ h=>h.elim))).trans (hu'.mono (fun j _ hj=> .inr (hf j hj)))).trans (hus7.mono (fun j _ hj=> .inl hj));have hfv:From w5.heap.size (.slice ao' (pre.length+1) cc'):=by
    intro g hg;rcases hbf with e|⟨g2,e,hge⟩
    .rw [e]at hg;exact hf g hg
    .rw [e]at hg;cases hg;have h1:=hu.size;have h2:=hud.size;have h3:=hua.size;omega
   refine⟨hKO.from _,hWW,hu.trans hWW,_,v7,?_,hfv,fun e=>by simp at e⟩;have hs7:=hs'.keep hus7 (fun g hg e=>by have:=hfv g hg;omega);have hcells:entC (a.ent (xn,xs,xd))=[.int .i64 (xn:Int),.int .i64 xs,.bool xd,.int .i64 (mm:Int)]:=by
    unfold entC CaS.ent;simp only;rw[<-hmm,Int.toNat_of_nonneg hx2]
   have hml:(pre++[(⟨(xn,xs,xd),hx⟩:ItM qs 0)]).length=pre.length+1:=by simp
   have hmE:((pre++[(⟨(xn,xs,xd),hx⟩:ItM qs 0)]).map (fun x=>a.ent x.1)).flatMap entC=(pre.map (fun x=>a.ent x.1)).flatMap entC++[.int .i64 (xn:Int),.int .i64 xs,.bool xd,.int .i64 (mm:Int)]:=by
    rw[qzl,qyf,<-hcells];simp
   rw[hml,hmE];exact hs7
  obtain⟨Sd1,Sd2,Sd3⟩:=hMM _ hUd;obtain⟨Sa1,Sa2,Sa3⟩:=hMM _ hUa;obtain⟨S61,S62,S63⟩:=hMM _ hU';obtain⟨S71,S72,S73⟩:=hMM _ hU7;have HP:=qqh hPOST;replace hmm:=qqh hmm;have HSd:=Y5 Sd1 Sd2 cd0 cd1 Sd3;have HSa:=Y5 Sa1 Sa2 ca0 ca1 Sa3;have HS6:=Y5 S61 S62 c60 c61 S63;have HS7:=Y5 S71 S72 c70 c71 S73;have HW:=Y4 hrun hWa hWd hw7;clear hPOST Sd1 Sd2 Sd3 Sa1 Sa2 Sa3 S61 S62 S63 S71 S72 S73 hrun hWa hWd hw7 hKO v7 v6 va vd g7 g' ga gd hU7 hus7 hU' hbf hu' hs' hsA hga hUa hua hUd hud hW4 hMM hne hpv hlv hs hf hv hp h4 hb4 d4 hu hi hz hzs hisz hiby cd0 cd1 ca0 ca1 c60 c61 c70 c71
  gi_wp2
  refine wk (S:=fun W=>W.cell? ⟨w.heap.size,0,none⟩=some (ptr c)/\W.cell? ⟨c,22,none⟩=some (.map (some p.sm))/\W.cell? ⟨pb,0,none⟩=some (.int .i64 xs)/\W.cell? ⟨pb,1,none⟩=some (.bool xd)/\(Instr.lookup 116 (.map (some p.sm)) (.int .i64 (xn:Int)) false).run Tryz.prog W=.ok (.int .i64 (mm:Int)) W) (by rintro⟨_,_,h⟩;exact h) (by kernel_rfl) (by kernel_rfl) (by rw[<-HW.o.2.2.1];exact HSd.out) (fun _=>?_);rw[<-HW.o.2.2.1];have hHeld:=HSd.out;refine Wl.i [1,2,3,4,5,6,7,8,9,10,11,12] ?_;iterate 12 refine Wl.t hHeld ?_
  refine Wl.o ?_;refine qZe (rs:=[0,13]) (by kernel_rfl) (by simp) ?_;refine qxb rfl (fun K hK=>?_) (qxb rfl (fun K hK=>?_) qxc)
  .go_simp
   refine hK.o _ _ (hHeld) (fun _=>?_);clear hK K;refine Wl.r 13 (fun K hK=>?_);go_simp
   rw[<-HW.o.2.1];refine hK.o _ _ (HSa.out) (fun _=>?_);clear hK K;refine Wl.r 14 (fun K hK=>?_);refine zJ rfl _ _ _ rfl rfl rfl HW.o.1 ?_;refine hK.o _ _ (HS6.o) (fun _=>?_);clear hK K;refine Wl.r 15 (fun K hK=>?_);go_simp
   rw[<-HW.o.2.2.2];refine hK.o _ _ (HS7.o) (fun _=>?_);clear hK K;refine Wl.d ?_
   gi_wp2
   exact HP.o
  .go_simp
   rw[<-HW.o.2.1];refine hK.o _ _ (HSa.out) (fun _=>?_);clear hK K;refine Wl.r 0 (fun K hK=>?_);go_simp
   refine hK.o _ _ (HSa.out) (fun _=>?_);clear hK K;refine Wl.r 14 (fun K hK=>?_);refine zJ rfl _ _ _ rfl rfl rfl HW.o.1 ?_;refine hK.o _ _ (HS6.o) (fun _=>?_);clear hK K;refine Wl.r 15 (fun K hK=>?_);go_simp
   rw[<-HW.o.2.2.2];refine hK.o _ _ (HS7.o) (fun _=>?_);clear hK K;refine Wl.d ?_
   gi_wp2
   exact HP.o
 case done=>
  rintro D ys W hD hys ⟨hu,v,hv,hs,hf,hnil⟩ hK;have hE:ys.map (fun x=>a.ent x.1)=a.ents n:=by
   rw[show(fun x:ItM qs 0=>a.ent x.1)=a.ent∘(·.1)from rfl,<-qzn,hys,HG.o.2.2.2];rfl
  rw[hE]at hs;have hkl:(a.ents n).length=ys.length:=by rw[<-hE];simp
  have hkn:ys.length<=n.sl:=by
   rw[<-hkl];unfold CaS.ents;rw[qzg];exact JY hgd.out.1 _
  have hok:∀x∈a.ents n,qk x:=by
   intro x hx;rw[<-hE]at hx;obtain⟨⟨y,hy⟩,-,rfl⟩:=qzv.1 hx;obtain⟨k,hk,rfl,hq⟩:=Xy hy;have h1:=(HG.o.1 k hk).resolve_left hq;have h2:=HG.o.2.1;refine⟨by simp only[CaS.ent];omega,by simp only[CaS.ent];omega,?_⟩;simp only[CaS.ent];cases hc:a.sums ((0+k:Nat):Int)with
   |none=>simp
   |some m=>exact HH.o.2.1 _ _ hc
  obtain⟨h4,hb4,-,d4⟩:=H4.o;have hW4:Upd (fun j=>j=lb\/w5.heap.size<=j) w4d W:=(HU5.o.mono (fun _ _ h=>h.elim)).trans hu;have h5:=h4.nobody hW4 HNE.o.1;have hb5:Box own3 W w.heap.size (.cells #[ptr c] 62):=⟨(hW4.block _ (zd hb4.1) (fun hs=>by
    rcases hs with hs|hs
    .exact HNE.o.2 hs
    .have:=zd hb4.1;omega)).trans hb4.1,hb4.2⟩
  have hl5:Box own3 W lb (.cells #[v] 22):=⟨hv,hlo⟩
  have hD5:Box own3 W D (.deferred (some [])):=⟨hK,h4.far D (by omega)⟩
  have d5:Did own own3 w W:=⟨d4.upd.new hW4 (fun i hi hs=>by have h1:=HLB.o;have h2:=d4.upd.size;rcases hs with hs|hs<;>omega),d4.old,d4.new,fun j hj=>d4.far j (by have:=hW4.size;omega)⟩
  obtain⟨ao,cc,hvv⟩:=hs.rd.nil_iff;have hnb:∀W',Below W.heap.size W W'->Calls Tryz.prog 191 #[.int .i64 ((a.next-1:Nat):Int),.slice ao ys.length cc] W' (xr W' (a.next-1) (a.ents n)):=by
   intro W' hb';have hmx:a.next<=1099511627777:=h5.jr.good.mx;have hN:=h5.nib.below hb';by_cases hy0:ys=[]
   .have e:=hnil hy0;rw[hvv]at e;injection e with e1 e2 e3
    have hE0:a.ents n=[]:=qyd (by rw[hkl,e2]);rw[e1,e2,e3,hE0];exact rK _ (by omega) hN
   .have hy1:0<ys.length:=List.length_pos_iff.2 hy0;obtain⟨-,⟨-,e⟩|⟨g,off,cap,cur,e,hg,hnc,hcm,hz,hc⟩⟩:=hs.keep (uuo (S:=fun _=>False) hb') (fun _ _ h=>h)
    .omega
    rw[hvv]at e;injection e with e1 e2 e3
    subst e1 e3;have hsl:=h4.ok.s2;exact Xw (a.ents n) hkl hy1 (by omega) (fun j u hj=>by rw[za hg];exact hc j u hj) hnc hcm _ (by omega) hok hN
  have hnx:JnGood (1+2*n.pa) n.jo a.cov a.next a.W:=h5.jr.good;have hnw:1<=a.next:=by have:=hnx.wl;omega
  have hnm:a.next<=1099511627777:=hnx.mx;have hwh:a.which<=1:=h5.wh;have HN:Hid (Calls Tryz.prog 154 #[ptr p.jr] W fun e w'=>e=.returned (.int .i64 (a.next:Int))/\W=w'):=(ca_jnext h5:)
  obtain⟨-,-,c16,c17,-⟩:=h5.cells;replace c16:W.cell? ⟨c,16,none⟩=some (.int .i64 (a.which:Int)):=c16;have cb:=za hb5.1 0;have e1:((1-a.which:Nat):Int)=1-(a.which:Int):=by omega
  have e2:((a.next-1:Nat):Int)=(a.next:Int)-1:=by omega
  have HE:=Y2 e1 e2;subst hvv;have H5:=Y5 h5 hb5 hl5 hD5 d5;have hneed:needN ys.length<=n.pa:=by have:=h5.ok.p1;unfold needN;omega
  have hdO':(a.fb.fd).dO.length<=50000:=qXx (xV _ _ _) HH.o.2.2;have HB:=Y4 hnb hkl hneed hdO';have hy4:ys.length<=4096:=by have:=h5.ok.s2;omega
  have hDw:Hid (w.heap.size<=D):=by show _<=_;have h1:=d4.upd.size;omega
  clear h4 hb4 d4 hW4 h5 hb5 hl5 hD5 d5 hK hnx e1 e2 hnb hkl hneed hdO' hok hE hs hf hv hys hnil hu hcs hcp hcl5 hle hgood hqs;go_wp2_with fail
  refine HN.o.mono ?_;rintro e w6 ⟨rfl,rfl⟩;go_wp2_with fail
  obtain⟨h5,hb5,hl5,hD5,d5⟩:=H5.o;have hud:Upd (fun _=>False) W W.drew:=(uur _ W).drew;have hsv:Calls Tryz.prog 60 #[ptr p.ssd,.int .i64 1,.int .i64 (n.pa:Int),.int .i64 ((1-a.which:Nat):Int),.int .i64 ((a.next-1:Nat):Int),.slice ao ys.length cc] W.drew (zu own3 W.drew c n p (a.fb.fd.dev (a.fb.fd.svR n)) (.int .i64 (a.fb.fd.svR n).cd)):=TN (h5.new hud) HB.o.2.2.2 (a.next-1) (1-a.which) (by omega) ao ys.length cc (a.ents n) HB.o.2.1 HB.o.2.2.1 (by omega) (fun W' hb'=>HB.o.1 W' ((qxl _ W).drew.trans hb'));obtain⟨b,hb⟩:=qqe (a.fb.fd.dev (a.fb.fd.svR n));rw[<-hb]at hsv;generalize (a.fb.fd.svR n).cd=cd at*;have HS:=qqh hsv;have HBb:=qqh hb;clear hb;have H6:=Y4 (hb5.new hud) (hl5.new hud) (hD5.new hud) (d5.trans (h5.didNew hud));obtain⟨c14,-⟩:=h5.cells;have c7:=h5.lay.1;obtain⟨-,-,-,-,c4,-⟩:=h5.sup;have cl:=za hl5.1 0;clear h5 hb5 hl5 hD5 d5 hud hsv c16 c17
  go_still_tail 17,(by kernel_rfl)
  change wpList _ _ _ _ _ W.drew
  generalize W.drew=W2 at*;clear c14 c7 c4 cl cb;go_wp2_with fail
  rw[<-HE.o.1,<-HE.o.2];refine HS.o.mono ?_;rintro e w7 ⟨rfl,own7,hca7,hd7⟩;obtain⟨hb6,hl6,hD6,d6⟩:=H6.o;have hb7:=hb6.did hd7;have hD7:=hD6.did hd7;have d7:=d6.trans hd7;have hcl7:=hca7.clt;have cb:=za hb7.1 0;have c16:=hca7.cells.2.2.1;have f16:=hca7.fz 16;have c17:=hca7.cells.2.2.2.1;have hne:w.heap.size≠c:=by omega
  have H7:=Y4 hca7 hb7 hD7 d7;clear hca7 hd7 hb6 hl6 hD6 d6 hb7 hD7 d7;by_cases hc:cd=0
  rotate_left
  .have q0:(cd==0)=false:=by simpa using hc
   have hR':=hR.out;rw[if_pos hc,<-HBb.out]at hR';have HR':=qqh hR';clear hR';go_wp2_with fail
   obtain⟨h7,-,hD7,d7⟩:=H7.o;refine⟨by simp,.inl ⟨_,_,rfl,run_takeDeferred hD7.1,?_⟩⟩;have h7':=h7.putObj hD7 rfl (.deferred none);have d7':=d7.putObj hDw.out (.deferred none);rw[HR'.o];exact⟨_,results_tmp rfl _ _ _,rfl,own7,h7',d7'⟩
  subst hc;replace hR:=hR.out;rw[if_neg (by simp)]at hR;replace hR:=qqh hR;go_wp2_with fail
  obtain⟨h7,hb7,hD7,d7⟩:=H7.o;have h8:=h7.turn1 (1-a.which) (by omega);have d8:=d7.trans (h7.did1 (.int .i64 ((1-a.which:Nat):Int)));have hus:=zi w7 c 16 (.int .i64 ((1-a.which:Nat):Int));have hb8:Box own7 (w7.setCell ⟨c,16,none⟩ (.int .i64 ((1-a.which:Nat):Int))) w.heap.size (.cells #[ptr c] 62):=⟨(hus.block _ (zd hb7.1) hne).trans hb7.1,hb7.2⟩
  have hD8:Box own7 (w7.setCell ⟨c,16,none⟩ (.int .i64 ((1-a.which:Nat):Int))) D (.deferred (some [])):=⟨(hus.block _ (zd hD7.1) (fun e=>by have:=hD7.2;rw[e,h7.oc]at this;exact absurd this (by decide))).trans hD7.1,hD7.2⟩
  generalize w7.setCell ⟨c,16,none⟩ (.int .i64 ((1-a.which:Nat):Int))=w8 at*;have hbn:b.next=a.next:=by rw[HBb.out];rfl
  have H8:=Y3 hb8 hD8 d8;have HV:=qqh (Tb h8 ((a.next-1:Nat):Int) (by show _=(b.next:Int)-1;rw[hbn];exact HE.o.2));clear h7 hb7 hD7 d7 h8 d8 hus hb8 hD8 cb c16 f16 c17 hbn;refine HV.o.mono ?_;rintro e w9 ⟨rfl,own9,hca9,hd9⟩;obtain⟨hb8,hD8,d8⟩:=H8.o;have hb9:=hb8.did hd9;have cb:=za hb9.1 0;have H9:=Y2 (hD8.did hd9) (d8.trans hd9);have HR:=qqh (WC hca9);clear hb8 hD8 d8 hb9 hca9 hd9;go_wp2_with fail
  refine HR.o.mono ?_;rintro e w10 ⟨rfl,own10,hca10,hd10⟩;obtain⟨hD9,d9⟩:=H9.o;have HX:=Y3 hca10 (hD9.did hd10) (d9.trans hd10);clear hca10 hd10 hD9 d9 cb;go_wp2
  obtain⟨h10,hD10,d10⟩:=HX.o;refine⟨by simp,.inl ⟨_,_,rfl,run_takeDeferred hD10.1,?_⟩⟩;have h10':=h10.putObj hD10 rfl (.deferred none);have d10':=d10.putObj hDw.out (.deferred none);rw[hR.out];refine⟨_,results_tmp rfl _ _ _,rfl,own10,?_,d10'⟩;rw[HBb.out]at h10';exact h10'
end
end Go.Proofs.YtfhfbpmlnjdfoaaGreatDoor
namespace Go.Proofs.YtfhfbpmlnjdfoaaGreatDoor
open Go Go.RowKit
theorem Yi{own:Nat->Nat}{w:World}{c:Nat}{n:CaN}{p:CaP}{a:CaS}(h:CaAt own w c n p a)(hr:a.next+1<=a.cov+n.jo):
  Calls Tryz.prog 164 #[ptr c] w (zu own w c n p a (.int .i64 0)):=by
 have HB:=qqh (ZW h);obtain⟨-,-,-,d3,-,-,-,-,-⟩:=h.cells;have q0:decide ((n.jo:Int)-((a.next:Int)-1-(a.cov:Int))>=2)=true:=by simp;omega
 have q1:(2:Int)<=(n.jo:Int)-((a.next:Int)-1-(a.cov:Int)):=by omega
 clear h hr;go_enter Tryz.func164,Tryz.ntmps164
 go_wp2_with fail
 refine HB.o.mono ?_;rintro e w1 ⟨rfl,own1,h1,hd1⟩;have H1:=Y2 h1 hd1;clear h1 hd1 HB d3;generalize (n.jo:Int)-((a.next:Int)-1-(a.cov:Int))=r at*;go_wp2
 go_ret
 exact⟨rfl,own1,H1.o.1,H1.o.2⟩
def CaN.slot0(n:CaN):Nat:=1+2*n.pa+n.jo+n.lo+n.lo+n.lo
def CaS.filled(n:CaN)(a:CaS)(s:Nat)(blk:Int)(x:Bk):CaS×Int:=
 if(writeR a.dF a.dO a.dP (n.slot0+s) x).cd=0 then({a with G:=sF a.G s blk}.dev (writeR a.dF a.dO a.dP (n.slot0+s) x),0)
 else({{a with G:=sF a.G s blk}.dev (writeR a.dF a.dO a.dP (n.slot0+s) x)with st:=turnList a.st s 4},(writeR a.dF a.dO a.dP (n.slot0+s) x).cd)
theorem WG{own:Nat->Nat}{w:World}{c:Nat}{n:CaN}{p:CaP}{a:CaS}(h:CaAt own w c n p a)(s:Nat)(hs:s<n.sl)(blk:Int)(hb:blk= -1\/(0<=blk/\blk<(n.bl:Int)))(x:Bk)(hx:x.length=64)(hO:a.dO.length<65536):
  Calls Tryz.prog 296 #[ptr c,.int .i64 (s:Int),.int .i64 blk,.agg (bkC x).toArray] w (zu own w c n p (a.filled n s blk x).1 (.int .i64 (a.filled n s blk x).2)):=by
 obtain⟨w1,hw1⟩:=qqe (w.alloc (.cells (bkC x).toArray 54));have hu1:Upd (fun _=>False) w w1:=by rw[hw1];exact(uur _ w).alloc _
 have hg1:w1.heap[w.heap.size]?=some (.cells (bkC x).toArray 54 (0,0)):=by rw[hw1];exact zc w _ rfl
 obtain⟨m,hm⟩:=qqe (w.heap.size);have hm0:own m=0:=h.far _ (by omega);rw[<-hm]at hg1;have h1:=h.new hu1;have HP:=qqh (Wq h1 s hs blk hb);obtain⟨-,-,-,-,-,-,d6,-,-⟩:=h1.cells;have hfl:=h.fl;have hz:=h.ok.z;have hsz:n.slot0+s<a.dF.length:=by unfold CaN.size at hfl;unfold CaN.slot0;omega
 have hsz2:n.slot0+s<8192:=by omega
 obtain⟨sc,hsc⟩:=qqe (n.slot0+s);have k1:IntKind.i64.wrap ((n.slot0:Int)+(s:Int))=(sc:Int):=by rw[hsc,qxt];exact qxv _ (by omega)
 have K2:Hid ((n.slot0:Int)+(s:Int)=(sc:Int)):=by show _=_;rw[hsc,qxt]
 have H:=Y7 hm0 (h.didNew hu1) hg1 hsz hx hO hsc;have HM:=qqh hm;have HW1:=qqh hw1;have d6':=d6;rw[hw1]at d6';have hut:=Tryz.underlying54;have hsi:=zt x hx;clear h hb hx hO hu1 hg1 h1 hfl hz hsz hsz2 hm0 hm hw1 d6 hs;go_enter Tryz.func296,Tryz.ntmps296
 go_wp2_with fail
 rw[<-HW1.o,<-HM.o];refine HP.o.mono ?_;rintro e w2 ⟨rfl,own2,h2,hd2⟩;obtain⟨hm0,hd1,hg1,hsz,hx,hO,hsc⟩:=H.o;obtain⟨e0,-,-,-,-,-,-,-,-⟩:=h2.cells;obtain⟨-,-,-,e5⟩:=h2.lay;have e5:w2.cell? ⟨c,12,none⟩=some (.int .i64 (n.slot0:Int)):=by rw[e5];congr 2
 have r2:=hd2.upd.range (zg hg1) (fun h=>h.1 hm0);have hm2:own2 m=0:=(hd2.old m (zd hg1)).trans hm0;have HD:=Y4 h2 (hd1.trans hd2) hm2 hsc;have HWr:=qqh (sU (h2.new ((uur (fun _=>False) w2).drew)) sc (by rw[hsc];exact hsz) x hx hO);clear hm0 hd1 hg1 hsz hx hO hsc h2 hd2 hm2 HP d6';go_upto_region 2 with fail
 refine qZj (S:=fun W=>W.cell? ⟨c,14,none⟩=some (ptr p.ssd)/\W.cell? ⟨c,12,none⟩=some (.int .i64 (n.slot0:Int))/\W.rangeAt m 0 (bkC x)) (by kernel_rfl) (by(simp only[qYo,qYq]);exact⟨e0,e5,r2⟩) (fun hHeld=>?_);refine Wl.i [0,1,2,3,4,5,6,7,8,9,10] ?_;iterate 11 refine Wl.t hHeld ?_
 refine Wl.o ?_;refine Wl.l 11 (fun w h=>h.2.2) hut hsi hHeld ?_;refine Wl.r 12 (fun K hK=>?_);go_simp
 rw[K2.out];refine HWr.out.mono ?_;rintro e w3 ⟨rfl,own3,h3,hd3⟩;obtain⟨i0,-,-,-,-,g5,-,-,-⟩:=h3.cells;obtain⟨-,-,-,i5⟩:=h3.lay;have i5:w3.cell? ⟨c,12,none⟩=some (.int .i64 (n.slot0:Int)):=by rw[i5];congr 2
 have r3:=hd3.upd.range (show w2.drew.rangeAt m 0 (bkC x) by rw[qYq];exact r2) (fun h=>h.1 HD.o.2.2.1);have HT:=qqh (xH h3 s 4);have H3:=Y2 h3 ((HD.o.2.1.drew).trans hd3);clear h3 hd3;refine hK.o _ _ (⟨i0,i5,r3⟩) (fun hH1=>?_);clear hK K;refine Wl.r 13 (fun K hK=>?_);go_simp
 refine hK.o _ _ (hH1) (fun hH2=>?_);clear hK K;refine Wl.d ?_;have hR:a.filled n s blk x=a.filled n s blk x:=rfl
 conv at hR=>rhs;unfold CaS.filled
 rw[<-HD.o.2.2.2]at hR⊢;simp only at HT H3⊢;generalize writeR a.dF a.dO a.dP sc x=r at*;have HRr:=qqh hR;clear hR hHeld hH1 hH2 i0 i5 r3 r2 e0 e5 HWr;by_cases hc:r.cd=0
 .have HZ:=qqh hc;rw[hc];clear hc;go_wp2
  go_ret
  rw[HRr.out,if_pos HZ.o];exact⟨rfl,own3,H3.o.1,H3.o.2⟩
 .have q0:(r.cd==0)=false:=by simpa using hc
  go_wp2_with fail
  refine HT.o.mono ?_;rintro e w4 ⟨rfl,own4,h4,hd4⟩;have H4:=Y2 h4 hd4;clear h4 hd4 g5 HT;go_wp2
  go_ret
  rw[HRr.out,if_neg hc];exact⟨rfl,own4,H4.o.1,H3.o.2.trans H4.o.2⟩
theorem run_eql_place(w:World)(a c:Int)(b d:Bool):(binOp .eql 95 (.agg #[.int .i64 a,.bool b]) (.agg #[.int .i64 c,.bool d])).run Tryz.prog w=.ok (.bool (a==c&&b==d)) w:=by
 simp only[binOp];simp[show Op.equal 95 (.agg #[.int .i64 a,.bool b]) (.agg #[.int .i64 c,.bool d])=Op.equalIn (9998+1+1) 95 (.agg #[.int .i64 a,.bool b]) (.agg #[.int .i64 c,.bool d])from rfl,qp w 9998 a c b d]
def CaS.given(n:CaN)(a:CaS)(k:Int)(s sum:Nat)(d:Bool):CaS:={a.noted n 0 k s d sum with iN:=a.iN+1,ps:=putL a.ps n.sl k s d,st:=turnList a.st s 2,mN:=a.mN+1,sums:=upd1 a.sums k (some sum)}
def CaS.putted(n:CaN)(a:CaS)(k:Int)(s sum:Nat)(d:Bool):CaS×Int:=
 if(uy a.ps n.sl k s).1= -1/\(uy a.ps n.sl k s).2=false then({a.given n k s sum d with kN:=a.kN+1,K:=Xd n.sl a.K k,A:=UT n.sl a.K a.A a.H k,H:=UU n.sl a.K a.H k},addC n.sl a.K k)
 else({a.given n k s sum d with st:=turnList (turnList a.st s 2) (uy a.ps n.sl k s).1 3,kN:=a.kN+1,A:=agA a.A a.K k},touchC a.K k)
theorem WH{own:Nat->Nat}{w:World}{c:Nat}{n:CaN}{p:CaP}{a:CaS}(h:CaAt own w c n p a)(k:Int)(s sum:Nat)(d:Bool)(hroom:a.next<=a.cov+n.jo)(hmx:a.next<=1099511627776)(hmay:mayR (jaddX a.next n.jo 0 k s d sum)=true)
  (hput:putC a.ps n.sl k s=0) (hN:a.iN<maxLen) (hsum:sum<9223372036854775808) (hM:a.mN<maxLen) (hkN:a.kN<maxLen):
  Calls Tryz.prog 297 #[ptr c,.int .i64 k,.int .i64 (s:Int),.int .i64 (sum:Int),.bool d] w (zu own w c n p (a.putted n k s sum d).1 (.int .i64 (a.putted n k s sum d).2)):=by
 obtain⟨w1,hw1⟩:=qqe (w.alloc (.cells (recC 0 0 0 k s d sum).toArray 101));have hu1:Upd (fun _=>False) w w1:=by rw[hw1];exact(uur _ w).alloc _
 have hg1:w1.heap[w.heap.size]?=some (.cells (recC 0 0 0 k s d sum).toArray 101 (0,0)):=by rw[hw1];exact zc w _ rfl
 obtain⟨m,hm⟩:=qqe (w.heap.size);have hm0:own m=0:=h.far _ (by omega);rw[<-hm]at hg1;have h1:=h.new hu1;obtain⟨-,-,-,d3,-,-,-,-,-⟩:=h1.cells;have r1:=zg hg1;have hud:=((uur (fun _=>False) w1).drew)
 have HJ:=qqh (sX (h1.new hud) hroom hmx 0 0 0 k s d sum hmay);have H:=Y6 hm0 ((h.didNew hu1).trans (h1.didNew hud)) hput hN hsum hM;have HM:=qqh hm;have HW1:=qqh hw1;have hk:0<=k/\k<4096:=by
  have e1:=h.pl;have e2:=h.ok.b2;unfold putC at hput;split at hput
  .cases hput
  .omega
 have HK:=qqh hk;replace hkN:=qqh hkN;have hut:=Tryz.underlying101;have hsi:=infoThR;clear hk h hroom hmx hmay hput hN hsum hM hu1 hg1 h1 hm0 hm hw1 hud;go_enter Tryz.func297,Tryz.ntmps297
 go_upto_region 2 with fail
 rw[<-HM.o,show w.alloc (.cells #[.int .i64 0,.int .i64 0,.int .i64 0,.int .i64 k,.int .i64 (s:Int),.bool d,.int .i64 (sum:Int)] 101)=w1 from HW1.o.symm];refine qZj (S:=fun W=>W.cell? ⟨c,17,none⟩=some (ptr p.jr)/\W.rangeAt m 0 (recC 0 0 0 k s d sum)) (by kernel_rfl) (by(simp only[qYo,qYq]);exact⟨d3,r1⟩) (fun hHeld=>?_);refine Wl.i [0,1,2,3] ?_;iterate 4 refine Wl.t hHeld ?_
 refine Wl.o ?_;refine Wl.l 4 (fun w h=>h.2) hut hsi hHeld ?_;refine Wl.r 5 (fun K hK=>?_);go_simp
 skip
 refine HJ.o.mono ?_;rintro e w2 ⟨rfl,own2,h2,hd2⟩;obtain⟨-,-,-,i3,i4,-,-,-,-⟩:=h2.cells;have r2:=hd2.upd.range (show w1.drew.rangeAt m 0 (recC 0 0 0 k s d sum) by rw[qYq];exact r1) (fun h=>h.1 H.o.1);have HP:=qqh (JM h2 k s d H.o.2.2.2.1);have H2:=qqh (H.o.2.1.trans hd2);clear h2 hd2;refine hK.o _ _ (⟨i3,r2⟩) (fun hH1=>?_);clear hK K;refine Wl.i [6,7,8] ?_;iterate 3 refine Wl.t hH1 ?_
 refine Wl.o ?_;refine Wl.r 9 (fun K hK=>?_);go_simp
 refine hK.o _ _ (hH1) (fun hH2=>?_);clear hK K;refine Wl.r 10 (fun K hK=>?_);go_simp
 refine hK.o _ _ (hH2) (fun hH3=>?_);clear hK K;refine Wl.d ?_;have hp:=H.o.2.2.1;clear hHeld hH1 hH2 hH3 i3 r1 r2 d3 HJ hut hsi;go_wp2_with fail
 refine HP.o.mono ?_;rw[hp];rintro e w3 ⟨rfl,own3,h3,hd3⟩;obtain⟨ps,hps⟩:=qqe (uy a.ps n.sl k s);rw[<-hps];obtain⟨os,od⟩:=ps;have hua:Upd (fun _=>False) w3 (w3.alloc (.cells #[.int .i64 os,.bool od] 95)):=(uur _ _).alloc _;have h3a:=h3.new hua;have HT:=qqh (xH h3a s 2);obtain⟨-,-,-,-,-,j5,-,-,-⟩:=h3a.cells;have H3:=Y2 ((H2.o.trans hd3).trans (h3.didNew hua)) (h3.far _ (qXv _));clear h3 hd3 hua h3a HP i4;go_wp2_with fail
 refine HT.o.mono ?_;rintro e w4 ⟨rfl,own4,h4,hd4⟩;obtain⟨w5,own5,hrun,h5,hd5⟩:=Ts h4 (x:=k) (by have:=HK.o;omega) (by have:=HK.o;omega) sum H.o.2.2.2.2.1 H.o.2.2.2.2.2;obtain⟨-,-,-,-,-,-,-,-,f8⟩:=h4.cells;obtain⟨-,-,-,-,-,g5,-,g7,-⟩:=h5.cells;have rB:=(hd4.trans hd5).upd.range (zg (zc w3 (.cells #[.int .i64 os,.bool od] 95) rfl)) (fun h=>h.1 H3.o.2);have H5:=Y2 h5 (H3.o.1.trans (hd4.trans hd5));clear h4 hd4 h5 hd5 HT j5;replace H5:Hid (CaAt own5 w5 c n p (a.given n k s sum d)/\Did own own5 w w5):=H5;have hR:a.putted n k s sum d=a.putted n k s sum d:=rfl
 conv at hR=>rhs;unfold CaS.putted
 rw[<-hps]at hR;simp only at hR;by_cases ho:os= -1/\od=false
 .rw [if_pos ho]at hR;have HR:=qqh hR;clear hR;obtain⟨rfl,rfl⟩:=ho;have HA:=qqh (RV H5.o.1 k (by have:=HK.o;unfold InR;omega) hkN.out);go_wp2_with (first
   |(refine qZg rfl _ _ rfl _ _ rfl _ _ rB Tryz.underlying95 rfl (by kernel_rfl) ?_)
   |fail)
  refine HA.o.mono ?_;rintro e w6 ⟨rfl,own6,h6,hd6⟩;have H6:=Y2 h6 (H5.o.2.trans hd6);clear h6 hd6 HA g5 g7 f8 hrun rB;go_wp2
  go_ret
  rw[HR.o];exact⟨rfl,own6,H6.o.1,H6.o.2⟩
 .rw [if_neg ho]at hR;have HR:=qqh hR;clear hR;have hq:(os== -1&&od==false)=false:=by
   rw[Bool.and_eq_false_iff];by_cases h1:os= -1
   .right;simpa using fun h2=>ho ⟨h1,h2⟩
   .left;simpa using h1
  have hel:∀W:World,(binOp .eql 95 (.agg #[.int .i64 os,.bool od]) (.agg #[.int .i64 (-1),.bool false])).run Tryz.prog W=.ok (.bool false) W:=by
   intro W;rw[run_eql_place,hq]
  have cB:w5.cell? ⟨w3.heap.size,0,none⟩=some (.int .i64 os):=rB 0 _ rfl;clear hq ho;go_wp2_with (first
   |(refine qZg rfl _ _ rfl _ _ rfl _ _ rB Tryz.underlying95 rfl (by kernel_rfl) ?_)
   |fail)
  clear rB hel hrun f8;have HT2:=qqh (xH (H5.o.1.new ((uur (fun _=>False) w5).drew)) os 3);replace H5:=qqh H5.o.2.drew
  go_still_tail 6,(by kernel_rfl)
  change wpList _ _ _ _ _ w5.drew
  generalize w5.drew=w5d at*;go_wp2_with fail
  refine HT2.o.mono ?_;rintro e w6 ⟨rfl,own6,h6,hd6⟩;obtain⟨-,-,-,-,-,-,-,k7,-⟩:=h6.cells;have HC:=qqh (VD h6 k hkN.out);have H6:=qqh (H5.o.trans hd6);clear h6 hd6 HT2 g5 g7 cB;go_wp2_with fail
  refine HC.o.mono ?_;rintro e w7 ⟨rfl,own7,h7,hd7⟩;have H7:=Y2 h7 (H6.o.trans hd7);clear h7 hd7 HC k7;go_wp2
  go_ret
  rw[HR.o];exact⟨rfl,own7,H7.o.1,H7.o.2⟩
theorem zu.from{own0 own:Nat->Nat}{w0 w:World}{c:Nat}{n:CaN}{p:CaP}{a:CaS}{v:Value}{f:FuncId}{args:Array Value}(h:Did own0 own w0 w)(hc:Calls Tryz.prog f args w (zu own w c n p a v)):Calls Tryz.prog f args w (zu own0 w0 c n p a v):=
 hc.mono fun _ _ ⟨he,own',h',hd⟩=>⟨he,own',h',h.trans hd⟩
structure CaS.Fit(a:CaS)(N:Nat):Prop where
 sm:∀k v,a.sums k=some v->v<=4294967295
 w1:∀q∈a.W,1<=q.1
 nx:a.next<=N
 iN:a.iN<=N
 kN:a.kN<=N
 mN:a.mN<=N
 dO:a.dO.length<=N
 bO:a.bO.length<=N
theorem CaS.Fit.mono{a:CaS}{N M:Nat}(h:a.Fit N)(hM:N<=M):a.Fit M:=
 ⟨h.sm,h.w1,qXx h.nx hM,qXx h.iN hM,qXx h.kN hM,qXx h.mN hM,qXx h.dO hM,qXx h.bO hM⟩
theorem CaS.Fit.fb{a:CaS}{N:Nat}(h:a.Fit N):a.fb.Fit N:={h with bO:=qXx (xV _ _ _) h.bO}
theorem CaS.Fit.fd{a:CaS}{N:Nat}(h:a.Fit N):a.fd.Fit N:={h with dO:=qXx (xV _ _ _) h.dO}
theorem Sk(F:List Bk)(O:List (Nat×Bk))(P:List Int)(L:List (Nat×Bk)):(saveR F O P L).O.length<=O.length+L.length:=by
 have h:=TI F L O P;unfold saveR;split
 .exact qXx (xV _ _ _) h
 .exact h
theorem CaS.svR_O(n:CaN)(a:CaS):(a.svR n).O.length<=a.dO.length+n.pa:=by
 have:=Sk a.dF a.dO a.dP (ckO (1+(1-a.which)*n.pa) n.pa (pagesB (a.next-1) (a.ents n)))
 rwa[Se]at this
theorem CaS.Fit.ckpt{n:CaN}{a:CaS}{N:Nat}(h:a.Fit N):(a.ckpt n).1.Fit (N+n.pa):=by
 have h1:=h.fb;have h2:=h1.fd;have h3:=a.fb.fd.svR_O n;have h4:=h2.dO;unfold CaS.ckpt;split
 .exact h1.mono (qXu _ _)
 split
 .exact h2.mono (qXu _ _)
 split
 .exact {h2.mono (qXu N n.pa)with dO:=by show(a.fb.fd.svR n).O.length<=_;omega}
 .exact {h2.mono (qXu N n.pa)with dO:=(by show(a.fb.fd.svR n).O.length<=_;omega),w1:=fun q hq=>by cases hq}
def CaS.roomed(n:CaN)(a:CaS):CaS×Int:=if a.next+1<=a.cov+n.jo then(a,0)else a.ckpt n
theorem CaS.Fit.roomed{n:CaN}{a:CaS}{N:Nat}(h:a.Fit N):(a.roomed n).1.Fit (N+n.pa):=by
 unfold CaS.roomed;split
 .exact h.mono (qXu _ _)
 .exact h.ckpt
section
variable{own:Nat->Nat}{w w':World}{c:Nat}{n:CaN}{p:CaP}{a:CaS}{N:Nat}
theorem wR(h:CaAt own w c n p a)(hf:a.Fit N)(hN:N<=50000):
  Calls Tryz.prog 164 #[ptr c] w (zu own w c n p (a.roomed n).1 (.int .i64 (a.roomed n).2)):=by
 by_cases hr:a.next+1<=a.cov+n.jo
 .unfold CaS.roomed;rw[if_pos hr];exact Yi h hr
 have HB:=qqh (ZW h);obtain⟨-,-,-,d3,-,-,-,-,-⟩:=h.cells;have q0:decide ((n.jo:Int)-((a.next:Int)-1-(a.cov:Int))>=2)=false:=by simp;omega
 have q1:¬(2:Int)<=(n.jo:Int)-((a.next:Int)-1-(a.cov:Int)):=by omega
 have HF:=qqh hf;unfold CaS.roomed;rw[if_neg hr];clear h hr hf;go_enter Tryz.func164,Tryz.ntmps164
 go_wp2_with fail
 refine HB.o.mono ?_;rintro e w1 ⟨rfl,own1,h1,hd1⟩;have HC:=qqh (zu.from hd1 (Zf h1 HF.o.sm (by have:=HF.o.dO;omega)));clear h1 hd1 HB d3;generalize (n.jo:Int)-((a.next:Int)-1-(a.cov:Int))=r at*;go_wp2_with fail
 refine HC.o.mono ?_;rintro e w2 ⟨rfl,H2⟩;replace H2:=qqh H2;go_wp2
 go_ret
 exact⟨rfl,H2.o⟩
end
theorem wF{next jo s sum:Nat}{k:Int}(d:Bool)(h1:1<=next)(h2:next<=1099511627776)(_hjo:1<=jo)(hk:0<=k/\k<4096)(hs:s<1024)(hsum:sum<=4294967295):mayR (jaddX next jo 0 k s d sum)=true:=by
 have hl:(next-1)/jo<=next-1:=Nat.div_le_self _ _;unfold jaddX;generalize (next-1)/jo=lp at*;cases d
 all_goals simp[mayR,withinB,bndR,recX,inB,bitN]<;>omega
theorem uI{next jo:Nat}{k:Int}(h1:1<=next)(h2:next<=1099511627776)(_hjo:1<=jo)(hk:0<=k/\k<4096):mayR (jaddX next jo 1 k 0 false 0)=true:=by
 have hl:(next-1)/jo<=next-1:=Nat.div_le_self _ _;unfold jaddX;generalize (next-1)/jo=lp at*;simp[mayR,withinB,bndR,recX,inB,bitN]<;>omega
end Go.Proofs.YtfhfbpmlnjdfoaaGreatDoor
