/- A cache: Check -/
import Derived.Test.YtpejdgiccaijfaaGreatDoorG16
import Derived.Test.YtpejdgiccaijfaaGreatDoorG17
import Derived.Test.YtpejdgiccaijfaaGreatDoorG14
set_option maxRecDepth 100000
set_option maxHeartbeats 4000000
namespace Go.Proofs.YtpejdgiccaijfaaGreatDoor
open Go Go.RowKit Go.Shelf Tryz
attribute [local go_sem] qYa
def CaS.ent(a:CaS)(x:It9):Ent:=⟨x.1,x.2.1.toNat,x.2.2,(a.sums x.1).getD 0⟩
def CaS.ents(n:CaN)(a:CaS):List Ent:=(vis (spanL a.ps 0 n.bl) 0).map a.ent
def CaS.fd(a:CaS):CaS:=a.dev (flushR a.dF a.dO a.dP)
def CaS.svR(n:CaN)(a:CaS):DRes:=saveR a.dF a.dO a.dP (ckO (1+(1-a.which)*n.pa) n.pa (pagesB (a.next-1) (a.ents n)))
def CaS.ckd(n:CaN)(a:CaS):CaS:={a.dev (a.svR n)with which:=1-a.which,cov:=a.next-1,W:=[],st:=freeTo a.st (pos a.st 3)}
def CaS.ckpt(n:CaN)(a:CaS):CaS×Int:=
 if(flushR a.bF a.bO a.bP).cd≠0 then(a.fb,(flushR a.bF a.bO a.bP).cd)
 else if(flushR a.fb.dF a.fb.dO a.fb.dP).cd≠0 then(a.fb.fd,(flushR a.fb.dF a.fb.dO a.fb.dP).cd)
 else if(a.fb.fd.svR n).cd≠0 then(a.fb.fd.dev (a.fb.fd.svR n),(a.fb.fd.svR n).cd)else(a.fb.fd.ckd n,0)
theorem xW(F:List Bk)(O:List (Nat×Bk))(P:List Int):(flushR F O P).O.length<=O.length:=by
 unfold flushR;repeat' split
 all_goals simp
theorem RC{qs:List (Int×Bool)}{fr:Nat}{x:It9}(h:x∈vis qs fr):∃k,∃hk:k<qs.length,x=(fr+k,qs[k])/\qs[k]≠(-1,false):=by
 have:∀m,m<=qs.length->x∈visTo qs fr m->∃k,∃hk:k<qs.length,x=(fr+k,qs[k])/\qs[k]≠(-1,false):=by
  intro m
  induction m with
  |zero=>intro _ h;cases h
  |succ m ih=>
   intro hm h;by_cases hq:qs[m]=(-1,false)
   .rw [vQ oM hq]at h;exact ih oM h
   .rw [ta oM hq]at h;rcases qzl.1 h with h|h
    .exact ih oM h
    .simp at h;exact⟨m,oM,h,hq⟩
 exact this _ (qXo _) h
theorem xX:∀(n:Nat) (l:List Nat),l.Nodup->(∀x∈l,x<n)->l.length<=n
 |0,l,_,h=>by
  cases l with
  |nil=>exact qXo _
  |cons x l=>exact absurd (h x oe) oM
 |n+1,l,hd,h=>by
  by_cases hn:n∈l
  .have h1:=xX n (l.erase n) (hd.erase n) (fun x hx=>by
    have h2:=(hd.mem_erase_iff).1 hx;have:=h x h2.2;have:=h2.1;omega)
   rw[List.length_erase_of_mem hn]at h1;omega
  .have h1:=xX n l hd (fun x hx=>by
    have:=h x hx;have:x≠n:=fun e=>hn (e▸hx);omega)
   omega
theorem zaL{ps:List (Int×Bool)}{slots:Nat}(h:Good ps slots)(m:Nat):(vis (spanL ps 0 m) 0).length<=slots:=by
 have hq:∀k (hk:k<(spanL ps 0 m).length),∃h:k<ps.length,(spanL ps 0 m)[k]=ps[k]:=fun k hk=>⟨by simp[spanL]at hk;omega,by simp[spanL]⟩
 have key:∀k,k<=(spanL ps 0 m).length->((visTo (spanL ps 0 m) 0 k).map (fun x=>x.2.1.toNat)).Nodup/\∀x∈visTo (spanL ps 0 m) 0 k,∃j,∃hj:j<ps.length,j<k/\x.2=ps[j]/\0<=ps[j].1/\ps[j].1<slots:=by
  intro k
  induction k with
  |zero=>exact fun _=>⟨qzx,fun x hx=>by cases hx⟩
  |succ k ih=>
   intro hk;obtain⟨h1,h2⟩:=ih oM;by_cases hb:(spanL ps 0 m)[k]=(-1,false)
   .rw [vQ oM hb];exact⟨h1,fun x hx=>by obtain⟨j,hj,h3,h4⟩:=h2 x hx;exact⟨j,hj,oM,h4⟩⟩
   .rw [ta oM hb];obtain⟨hk',e⟩:=hq k oM;have hgk:=(h.each k hk').resolve_left (by rw[<-e];exact hb);refine⟨?_,fun x hx=>?_⟩
    .rw [qzg,qzv];refine⟨h1,oe,?_⟩;intro u hu v hv huv;subst huv;obtain⟨x,hx,rfl⟩:=qzq.1 hu;obtain⟨j,hj,h3,h4,h5,h6⟩:=h2 x hx;simp only[qzh,qzj,qzt]at hv;rw[h4,e]at hv;have:=h.inj j k hj hk' h5 oM;omega
    .rcases qzl.1 hx with hx|hx
     .obtain ⟨j,hj,h3,h4⟩:=h2 x hx;exact⟨j,hj,oM,h4⟩
     .simp at hx;subst hx;exact⟨k,hk',oM,e,hgk⟩
 obtain⟨h1,h2⟩:=key _ (qXo _);have:=xX slots _ h1 (fun x hx=>by
  obtain⟨y,hy,rfl⟩:=qzq.1 hx;obtain⟨j,hj,-,h4,h5,h6⟩:=h2 y hy;rw[h4];omega)
 rwa[qzb]at this
section
variable{own own':Nat->Nat}{w w':World}{c:Nat}{n:CaN}{p:CaP}{a:CaS}
theorem RD(h:CaAt own w c n p a)(hO:a.dO.length<=50000)(seq wh:Nat)(hwh:wh<=1)(lo:Option Addr)(k lc:Nat)(E:List Ent)(hE:E.length=k)(hk:needN k<=n.pa)(hk1:k<=100000)
  (hbuild:∀W,Below w.heap.size w W->Calls prog 130 #[.int .i64 (seq:Int),.slice lo k lc] W (xr W seq E)):
  Calls prog 52 #[ptr p.ssd,.int .i64 1,.int .i64 (n.pa:Int),.int .i64 (wh:Int),.int .i64 (seq:Int),.slice lo k lc] w
   (zx own w c n p (a.dev (saveR a.dF a.dO a.dP (ckO (1+wh*n.pa) n.pa (pagesB seq E)))) (.int .i64 (saveR a.dF a.dO a.dP (ckO (1+wh*n.pa) n.pa (pagesB seq E))).cd)):=by
 have hz:=h.ok.z;have hs:=h.fl;have hs1:=h.ok.s1;have hp2:=h.ok.p2;unfold CaN.size at hz hs;exact(Rk h.kA (fun _ h=> .inr h) 1 n.pa seq wh hwh lo k lc E hE hk hk1 oM oM hbuild).mono fun _ _ ⟨he,hd,hu⟩=>⟨he,_,h.kx hu hd (Tr _ _ _ _),h.did2 hu⟩
def CkI(a:CaS)(wz:World)(lb:Nat){qs:List (Int×Bool)}(pre:List (ItM qs 0))(W:World):Prop:=
 Upd (fun j=>j=lb\/wz.heap.size<=j) wz W/\∃v,W.heap[lb]?=some (.cells #[v] 146 (0,0))/\Sl W 155 4 v pre.length ((pre.map (fun x=>a.ent x.1)).flatMap entC)/\From wz.heap.size v/\(pre=[]->v=.slice none 0 0)
theorem Sl.cellsAt{w:World}{e:TypeId}{k n:Nat}{v:Value}{xs:List Value}(h:Sl w e k v n xs){g:Nat}(hg:v.ownBlock=some g):∃cs t z,w.heap[g]?=some (.cells cs t z):=by
 obtain⟨-,⟨rfl,-⟩|⟨g',off,cap,cur,rfl,hg',-⟩⟩:=h
 .cases hg
 .cases hg;exact⟨_,_,_,hg'⟩
theorem Er:(prog.info? 155).map (fun i=>(i.zero.map (·.cells.size),i.size,i.bytes))=some (some 4,4,32):=kR
theorem rZ:∃i z,prog.info? 155=some i/\i.zero=some z/\z.cells.size=4/\i.size=4/\i.bytes=32:=by
 obtain⟨i,hi,hb⟩:=qYb.1 Er;simp only[qYd]at hb;obtain⟨h1,h2,h3⟩:=hb;obtain⟨z,hz,hzs⟩:=qYb.1 h1;exact⟨i,z,hi,hz,hzs,h2,h3⟩
theorem Uc(h:CaAt own w c n p a)(hsm:∀k v,a.sums k=some v->v<=4294967295)(hdO:a.dO.length<=50000):
  Calls prog 95 #[ptr c] w (zx own w c n p (a.ckpt n).1 (.int .i64 (a.ckpt n).2)):=by
 obtain⟨w1,hw1⟩:=qqe (w.alloc (.cells #[ptr c] 98));have hu1:=qqu hw1;have h1:=h.new hu1;have hb1:Box own w1 w.heap.size (.cells #[ptr c] 98):=by rw[hw1];exact Box.made h.far _
 have d1:=h.jY hu1;have HH:=Y3 h hsm hdO;have hcl:=h.clt;obtain⟨-,c15,-⟩:=h.cells;have H1:=Y3 h1 hb1 d1;have HC:=qqh (vF h1);have hR:a.ckpt n=a.ckpt n:=rfl
 conv at hR=>rhs;unfold CaS.ckpt
 obtain⟨R,hRR⟩:=qqe (a.ckpt n);rw[<-hRR]at hR⊢;clear h hsm hdO h1 hb1 d1 hu1 hRR;generalize hcd:(flushR a.bF a.bO a.bP).cd=cd at*;replace hR:=qqh hR;refine(callsIn_wide (n:=3)).1 ?_;refine callsIn_of_wp_marks func95 rfl trivial ?_ rfl;simp only[ntmps95,qXh,qyz,qzc,Nat.reduceAdd,Nat.reduceSub,qxi,qxj,qXb,qxy,qzu,qxz];refine wpIn_wide.2 ?_;go_wp2_with fail
 rw[<-hw1];clear hw1 c15;refine HC.o.mono ?_;rintro e w2 ⟨rfl,own2,hca2,hd2⟩;replace hca2:CaAt own2 w2 c n p a.fb:=hca2;obtain⟨h1,hb1,d1⟩:=H1.o;have hb2:=hb1.did hd2;have c14:=hca2.cells.1;have cb:=za hb2.1 0;have H2:=Y3 hca2 hb2 (d1.trans hd2);have HC2:=qqh (Zw hca2);clear hca2 hd2 hb2 h1 hb1 d1 HC H1 hcd;by_cases hc:cd=0
 rotate_left
 .have q0:(cd==0)=false:=by simpa using hc
  go_wp2_with fail
  obtain⟨h2,-,d2⟩:=H2.o;have hR':=hR.out;rw[if_pos hc]at hR';rw[hR'];clear cb c14 HC2 H2 hcl HH q0;exact⟨_,results_tmp rfl _ _ _,rfl,_,h2,d2⟩
 subst hc;replace hR:=hR.out;rw[if_neg oe]at hR;generalize (flushR a.fb.dF a.fb.dO a.fb.dP).cd=cd at*;replace hR:=qqh hR;go_wp2_with fail
 refine HC2.o.mono ?_;rintro e w3 ⟨rfl,own3,hca3,hd3⟩;replace hca3:CaAt own3 w3 c n p a.fb.fd:=hca3;obtain⟨h2,hb2,d2⟩:=H2.o;have hb3:=hb2.did hd3;have H3:=Y3 hca3 hb3 (d2.trans hd3);clear hca3 hd3 hb3 h2 hb2 d2 HC2 H2 c14 cb;by_cases hc:cd=0
 rotate_left
 .have q0:(cd==0)=false:=by simpa using hc
  go_wp2_with fail
  obtain⟨h2,-,d2⟩:=H3.o;have hR':=hR.out;rw[if_pos hc]at hR';rw[hR'];clear H3 hcl HH q0;exact⟨_,results_tmp rfl _ _ _,rfl,_,h2,d2⟩
 subst hc;replace hR:=hR.out;rw[if_neg oe]at hR;replace hR:=qqh hR;go_wp2_with fail
 obtain⟨h3,hb3,d3⟩:=H3.o;obtain⟨w4,hw4⟩:=qqe (w3.alloc (.cells #[.slice none 0 0] 146));have hu4:Upd (fun _=>False) w3 w4:=by rw[hw4];exact((uur _ w3).alloc _)
 have hud:Upd (fun _=>False) w4 w4.drew:=(uur _ w4).drew;have h4:=h3.new hu4;have hb4:=hb3.new hu4;have hl4:Box own3 w4 w3.heap.size (.cells #[.slice none 0 0] 146):=by rw[hw4];exact Box.made h3.far _
 have d4:=d3.trans (h3.jY hu4);obtain⟨lb,hlb⟩:=qqe (w3.heap.size);rw[<-hlb]at hl4;have HLB:=qqh (show w.heap.size<=lb by have:=d3.upd.size;omega);have H4:=Y4 (h4.new hud) (hb4.new hud) (hl4.new hud) (d4.trans (h4.jY hud));obtain⟨vi,mi,hix,hib,his⟩:=(h4.new hud).ix;have hpsl:=h4.pl;have hgd:=Y3 hix.good h4.ok.s2 h4.ok.b2;have hb1:=HH.o.1.ok.b1;have hA:=zal hix 0 n.bl (by rw[hpsl];omega);have HA:=qqh hA;obtain⟨-,-,-,-,c18,-⟩:=h4.cells;have s1:=h4.sup.2.1;have cb:=za hb4.1 0;rw[<-hw4,<-hlb];clear h3 hb3 d3 hu4 h4 hb4 hl4 d4 hix hib his hA hw4 hud hlb
 go_still_tail 10,kR
 change wpList _ _ _ _ _ w4.drew
 generalize w4.drew=w4d at*;clear c18 s1 cb;go_wp2_with fail
 refine HA.o.mono ?_;rintro e w5 ⟨Bs,Bp,g,off,cap,rfl,⟨hB1,hB2,hB3⟩,hBs,hBp,hg,hcs,hcp,hcl5,hb5⟩;go_wp2_with fail
 have hle:(spanL a.ps 0 n.bl).length<=4096:=by
  have:=HH.o.1.ok.b2;simp[spanL];omega
 have hps':a.fb.fd.ps=a.ps:=rfl;rw[hps']at hcs hcl5 hpsl hgd;have hgood:∀k (h:k<(spanL a.ps 0 n.bl).length),(spanL a.ps 0 n.bl)[k]=(-1,false)\/(0<=(spanL a.ps 0 n.bl)[k].1/\(spanL a.ps 0 n.bl)[k].1<n.sl):=by
  intro k hk;have:(spanL a.ps 0 n.bl)[k]=a.ps[k]'(by simp[spanL]at hk;omega):=by simp[spanL]
  rw[this];exact hgd.out.1.each k _
 have hsz5:=hb5.size;have hlb4:lb<w4d.heap.size:=zd H4.o.2.2.1.1;have hlo:own3 lb=0:=H4.o.2.2.1.2;have HU5:Hid (Upd (fun _=>False) w4d w5):=uuo hb5;have hvl:(vis (spanL a.ps 0 n.bl) 0).length<=4096:=qXq (Tl _ _ _) hle;obtain⟨qs,hqs⟩:=qqe (spanL a.ps 0 n.bl);rw[<-hqs]at hcs hcl5 hle hgood hvl;have hql:qs.length=n.bl:=by rw[hqs];simp[spanL];omega
 have HG:=Y4 hgood hgd.out.2 hql hqs;obtain⟨h4,hb4,-,d4⟩:=H4.o;have hne:∀j,(j=lb\/w5.heap.size<=j)->own3 j=0/\j≠0/\j≠1:=by
  intro j hj;have hn1:=h4.nib.lt;have hn2:=h4.tur.lt;have ho1:=h4.on;rcases hj with rfl|hj
  .refine ⟨hlo,fun e=>?_,fun e=>?_⟩
   .have h2:=za (H4.o.2.2.1.1) 0;rw[e]at h2;have:=h2.symm.trans (h4.nib.c 0 de);simp at this
   .have h2:=za (H4.o.2.2.1.1) 0;rw[e]at h2;have:=h2.symm.trans h4.tur.c0;simp at this
  .exact ⟨h4.far j oM,oM,oM⟩
 have hwb:w.heap.size≠lb:=by
  intro e;have:=hb4.1;rw[e]at this;have:=this.symm.trans H4.o.2.2.1.1;simp at this
 have HNE:=Y2 hne hwb;clear h4 hb4 d4 hne hwb;refine(wpIn_wide (n:=4)).1 ?_
 refine' wpIn_rangeFunc_ownH rfl oM (gf:=229) (lb:= #[.pointer (some ⟨Bs,0,none⟩),.pointer (some ⟨Bp,0,none⟩)]) rfl trivial (enters_of func229 kR rfl)
  (Tn _ oM (fun j=>j=lb\/w5.heap.size<=j) Bs Bp g off cap qs 0 w5 hle oM (fun k hk=>(hgood k hk).imp id And.left) hg hBp hBs oM oM hcs hcp hcl5) uR (fun W l o o' hl=>wH (M:=w5.heap.size) (fun j h=> .inr h) W l o o' hl) (qxl _ _) (fun _=>rfl)
  (CkI a w5 lb)
  (fun _ _ _=>False)
  (fun pre X Y row hs hg hr=>by
   obtain⟨hu,v,hv,hs,hf,hn⟩:=hs;exact⟨xq hu hg (fun r e=> .inr (hr r e).1),v,(grownBy_keeps_cells hg (fun r e=>(hr r e).2) hv rfl).trans hv,
    hs.keep (Upd.kh (S:=fun j=>row=some j) hg (fun g e _=>e)) (fun g hgv e=>by
     obtain⟨o,ho,hc⟩:=(hr g e).2;obtain⟨cs,t,z,hcs⟩:=hs.cellsAt hgv;rw[hcs]at ho;cases ho;cases hc),hf,hn⟩)
  (fun _ _ _ _ _ hs _ _=>hs)
  ⟨uur _ _,_,HU5.o.jT H4.o.2.2.1.1,Sl.nil _ _ _,From.nil _ _ _,fun _=>rfl⟩
  (fun x a' W=>∃pb,a'=(_:ItM qs 0->Nat->Act) x pb/\Aq x.1 pb W)
  (fun x a'=>fun s X Y row hs hg hr=>by obtain⟨pb,e,hp⟩:=hs;exact⟨pb,e,To _ x.1 pb () X Y row hp hg hr⟩)
  ?assign ?body ?done ?stop
 case assign=>
  rintro l pre x W K ⟨hu,v,hv,hs,hf,hn⟩ hK
  gi_wp2
  have hun:Upd (fun _=>False) W (W.alloc (.cells #[.int .i64 x.1.2.1,.bool x.1.2.2] 256)):=(uur _ _).alloc _;have hg0:=World.grownBy_alloc W (.cells #[.int .i64 x.1.2.1,.bool x.1.2.2] 256) none;refine hK _ _ (KeepsFrom.of_grownBy hg0 (fun j e=>by cases e)) (hun.mono fE) ⟨hu.trans (hun.mono fE),v,hun.jT hv,hs.keep hun (fun _ _ h=>h),hf,hn⟩ ⟨W.heap.size,?_,zc W _ rfl⟩;generalize W.heap.size=pb;exact rfl
 case stop=>
  rintro D c pre W _ _ h _;exact h.elim
 case body=>
  rintro l pre ⟨⟨xn,xs,xd⟩,hx⟩ a' W hl _ ⟨hu,v,hv,hs,hf,-⟩ ⟨pb,rfl,hp⟩ hlt;have hxx:xn<4096/\0<=xs/\xs<n.sl:=by
   obtain⟨k,hk,e,hq⟩:=RC hx;simp only[qYd]at e;obtain⟨rfl,e2⟩:=e;have:=(HG.o.1 k hk).resolve_left hq;rw[<-e2]at this;exact⟨oM,this⟩
  obtain⟨hx1,hx2,hx3⟩:=hxx;obtain⟨h4,hb4,-,d4⟩:=H4.o;have hne:=HNE.o.1;have hwb:=HNE.o.2;have hpl:pb≠lb:=by
   intro e;have h2:W.heap[pb]?=_:=hp;rw[e]at h2;have:=h2.symm.trans hv;simp at this
  have hpv:∀g,v.ownBlock=some g->g≠pb:=by
   intro g hg e;obtain⟨-,⟨rfl,-⟩|⟨g',off,cap,cur,rfl,hg',-⟩⟩:=hs
   .cases hg
   .cases hg;replace e:g'=pb:=e;rw[e]at hg';have:=hg'.symm.trans (show W.heap[pb]?=_ from hp);simp at this
  have hlv:∀g,v.ownBlock=some g->g≠lb:=fun g hg e=>by have:=hf g hg;omega
  obtain⟨mm,hmm⟩:=qqe ((a.sums (xn:Int)).getD 0);have hMM:∀X,Upd (fun j=>j=lb\/w5.heap.size<=j) w4d X->X.cell? ⟨w.heap.size,0,none⟩=some (ptr c)/\X.cell? ⟨c,22,none⟩=some (.map (some p.sm))/\(Instr.lookup 168 (.map (some p.sm)) (.int .i64 (xn:Int)) false).run prog X=.ok (.int .i64 (mm:Int)) X:=by
   intro X hX;have hCA:=h4.j9 hX hne;obtain⟨-,-,-,-,-,-,-,-,c22⟩:=hCA.cells;refine⟨za ((hX.block _ (zd hb4.1) (fun hs=>by
    rcases hs with hs|hs
    .exact hwb hs
    .have:=zd hb4.1;omega)).trans hb4.1) 0,c22,?_⟩
   rw[hmm];exact hCA.sm.1.look1 oM oM
  have hW4:Upd (fun j=>j=lb\/w5.heap.size<=j) w4d W:=(HU5.o.mono fE).trans hu;obtain⟨Wd,hWd⟩:=qqe (W.drew);have hud:Upd (fun _=>False) W Wd:=by rw[hWd];exact(uur _ W).drew
  have hUd:=hW4.trans (hud.mono (S':=fun j=>j=lb\/w5.heap.size<=j) (fun _ _ h=>h.elim));obtain⟨Wa,hWa⟩:=qqe (Wd.alloc (.cells #[.int .i64 (xn:Int),.int .i64 xs,.bool xd,.int .i64 (mm:Int)] 155));have hua:=qqu hWa;have hUa:=hUd.trans (hua.mono (S':=fun j=>j=lb\/w5.heap.size<=j) (fun _ _ h=>h.elim));have hga:=qqg hWa;obtain⟨i0,z0,hi,hz,hzs,hisz,hiby⟩:=rZ;have hsA:=(hs.keep hud (fun _ _ h=>h)).keep hua (fun _ _ h=>h);have hpl4:pre.length<=4096:=oM;obtain⟨v',w',hrun,hs',hu',hbf⟩:=yu (P:=prog) (m:=1) (x':=.slice (some ⟨Wd.heap.size,0,none⟩) 1 1) (news:=[.int .i64 (xn:Int),.int .i64 xs,.bool xd,.int .i64 (mm:Int)]) 146 146 i0 z0 32 underlying146 hi hz hisz hiby hzs de hsA
   ⟨rfl,de,_,_,rfl,(fun h=>by cases h),fun b hb j u hj=>by cases hb;rw[qxa,za hga];simpa using hj⟩ oZ (by simp only[maxLen];omega) oM
  obtain⟨ao',cc',hv'⟩:=hs'.rd.jU;subst hv';have hU':=hUa.trans (hu'.mono (S':=fun j=>j=lb\/w5.heap.size<=j) (fun j _ hj=> .inr (hf j hj)));obtain⟨w7,hw7⟩:=qqe (w'.setCell ⟨lb,0,none⟩ (.slice ao' (pre.length+1) cc'));have hus7:Upd (fun j=>j=lb) w' w7:=by rw[hw7];exact zi _ _ _ _
  have hU7:=hU'.trans (hus7.mono (S':=fun j=>j=lb\/w5.heap.size<=j) (fun j _ hj=> .inl hj));have gd:Wd.heap[pb]?=some (.cells #[.int .i64 xs,.bool xd] 256 (0,0)):=hud.jT hp;have ga:=hua.jT gd;have g':=(hu'.block pb (zd ga) (fun h=>hpv pb h rfl)).trans ga;have g7:=(hus7.block pb (zd g') hpl).trans g';have vd:=hud.jT hv;have va:=hua.jT vd;have v6:=(hu'.block lb (zd va) (fun h=>hlv lb h rfl)).trans va;have v7:w7.heap[lb]?=some (.cells #[.slice ao' (pre.length+1) cc'] 146 (0,0)):=by rw[hw7];exact zh v6 0 _
  have cd0:=za gd 0;have cd1:=za gd 1;have ca0:=za ga 0;have ca1:=za ga 1;have c60:=za g' 0;have c61:=za g' 1;have c70:=za g7 0;have c71:=za g7 1;have cl0:=za vd 0;have cla:=za va 0;have cl6:=za v6 0;have fl6:=zf v6 0;simp at cd0 cd1 ca0 ca1 c60 c61 c70 c71 cl0 cla cl6;have hKO:KeepsOthers W w7:=by
   have e1:KeepsOthers W Wa:=⟨by have h1:=hud.size;have h2:=hua.size;omega,fun k o hk ho=>hua.jT (hud.jT hk)⟩
   have e2:KeepsOthers Wa w':=zC hu' (fun j hj _=>hsA.cellsAt hj);exact(e1.trans e2).trans (zC hus7 (fun j hj _=>⟨_,_,_,hj▸v6⟩))
  have hPOST:KeepsFrom w5.heap.size W w7/\Upd (fun j=>j=lb\/w5.heap.size<=j) W w7/\CkI a w5 lb (pre++[(⟨(xn,xs,xd),hx⟩:ItM qs 0)]) w7:=by
   have hWW:Upd (fun j=>j=lb\/w5.heap.size<=j) W w7:=(((hud.mono fE).trans (hua.mono fE)).trans (hu'.mono (fun j _ hj=> .inr (hf j hj)))).trans (hus7.mono (fun j _ hj=> .inl hj));have hfv:From w5.heap.size (.slice ao' (pre.length+1) cc'):=by
    intro g hg;rcases hbf with e|⟨g2,e,hge⟩
    .rw [e]at hg;exact hf g hg
    .rw [e]at hg;cases hg;have h1:=hu.size;have h2:=hud.size;have h3:=hua.size;omega
   refine⟨hKO.from _,hWW,hu.trans hWW,_,v7,?_,hfv,fun e=>by simp at e⟩;have hs7:=hs'.keep hus7 (fun g hg e=>by have:=hfv g hg;omega);have hcells:entC (a.ent (xn,xs,xd))=[.int .i64 (xn:Int),.int .i64 xs,.bool xd,.int .i64 (mm:Int)]:=by
    unfold entC CaS.ent;simp only;rw[<-hmm,Int.toNat_of_nonneg hx2]
   have hml:(pre++[(⟨(xn,xs,xd),hx⟩:ItM qs 0)]).length=pre.length+1:=oe;have hmE:((pre++[(⟨(xn,xs,xd),hx⟩:ItM qs 0)]).map (fun x=>a.ent x.1)).flatMap entC=(pre.map (fun x=>a.ent x.1)).flatMap entC++[.int .i64 (xn:Int),.int .i64 xs,.bool xd,.int .i64 (mm:Int)]:=by
    rw[qzg,qyd,<-hcells];simp
   rw[hml,hmE];exact hs7
  obtain⟨Sd1,Sd2,Sd3⟩:=hMM _ hUd;obtain⟨Sa1,Sa2,Sa3⟩:=hMM _ hUa;obtain⟨S61,S62,S63⟩:=hMM _ hU';obtain⟨S71,S72,S73⟩:=hMM _ hU7;have HP:=qqh hPOST;replace hmm:=qqh hmm;have HSd:=Y5 Sd1 Sd2 cd0 cd1 Sd3;have HSa:=Y5 Sa1 Sa2 ca0 ca1 Sa3;have HS6:=Y5 S61 S62 c60 c61 S63;have HS7:=Y5 S71 S72 c70 c71 S73;have HW:=Y4 hrun hWa hWd hw7;clear hPOST Sd1 Sd2 Sd3 Sa1 Sa2 Sa3 S61 S62 S63 S71 S72 S73 hrun hWa hWd hw7 hKO v7 v6 va vd g7 g' ga gd hU7 hus7 hU' hbf hu' hs' hsA hga hUa hua hUd hud hW4 hMM hne hpv hlv hs hf hv hp h4 hb4 d4 hu hi hz hzs hisz hiby cd0 cd1 ca0 ca1 c60 c61 c70 c71
  gi_wp2
  refine ww (S:=fun W=>W.cell? ⟨w.heap.size,0,none⟩=some (ptr c)/\W.cell? ⟨c,22,none⟩=some (.map (some p.sm))/\W.cell? ⟨pb,0,none⟩=some (.int .i64 xs)/\W.cell? ⟨pb,1,none⟩=some (.bool xd)/\(Instr.lookup 168 (.map (some p.sm)) (.int .i64 (xn:Int)) false).run prog W=.ok (.int .i64 (mm:Int)) W) (by rintro⟨_,_,h⟩;exact h) kR kR (by rw[<-HW.o.2.2.1];exact HSd.out) (fun _=>?_);rw[<-HW.o.2.2.1];have hHeld:=HSd.out;refine Wl.i [1,2,3,4,5,6,7,8,9,10,11,12] ?_;iterate 12 refine Wl.t hHeld ?_
  refine Wl.o ?_;refine qYw (rs:=[0,13]) kR oe ?_;refine qxb rfl (fun K hK=>?_) (qxb rfl (fun K hK=>?_) qxc)
  .go_simp
   refine hK.o _ _ (hHeld) (fun _=>?_);clear hK K;refine Wl.r 13 (fun K hK=>?_);go_simp
   rw[<-HW.o.2.1];refine hK.o _ _ (HSa.out) (fun _=>?_);clear hK K;refine Wl.r 14 (fun K hK=>?_);refine zU rfl _ _ _ rfl rfl rfl HW.o.1 ?_;refine hK.o _ _ (HS6.o) (fun _=>?_);clear hK K;refine Wl.r 15 (fun K hK=>?_);go_simp
   rw[<-HW.o.2.2.2];refine hK.o _ _ (HS7.o) (fun _=>?_);clear hK K;refine Wl.d ?_
   gi_wp2
   exact HP.o
  .go_simp
   rw[<-HW.o.2.1];refine hK.o _ _ (HSa.out) (fun _=>?_);clear hK K;refine Wl.r 0 (fun K hK=>?_);go_simp
   refine hK.o _ _ (HSa.out) (fun _=>?_);clear hK K;refine Wl.r 14 (fun K hK=>?_);refine zU rfl _ _ _ rfl rfl rfl HW.o.1 ?_;refine hK.o _ _ (HS6.o) (fun _=>?_);clear hK K;refine Wl.r 15 (fun K hK=>?_);go_simp
   rw[<-HW.o.2.2.2];refine hK.o _ _ (HS7.o) (fun _=>?_);clear hK K;refine Wl.d ?_
   gi_wp2
   exact HP.o
 case done=>
  rintro D ys W hD hys ⟨hu,v,hv,hs,hf,hnil⟩ hK;have hE:ys.map (fun x=>a.ent x.1)=a.ents n:=by
   rw[show(fun x:ItM qs 0=>a.ent x.1)=a.ent∘(·.1)from rfl,<-qzi,hys,HG.o.2.2.2];rfl
  rw[hE]at hs;have hkl:(a.ents n).length=ys.length:=by rw[<-hE];simp
  have hkn:ys.length<=n.sl:=by
   rw[<-hkl];unfold CaS.ents;rw[qzb];exact zaL hgd.out.1 _
  have hok:∀x∈a.ents n,YW x:=by
   intro x hx;rw[<-hE]at hx;obtain⟨⟨y,hy⟩,-,rfl⟩:=qzq.1 hx;obtain⟨k,hk,rfl,hq⟩:=RC hy;have h1:=(HG.o.1 k hk).resolve_left hq;have h2:=HG.o.2.1;refine⟨by simp only[CaS.ent];omega,by simp only[CaS.ent];omega,?_⟩;simp only[CaS.ent];cases hc:a.sums ((0+k:Nat):Int)with
   |none=>simp
   |some m=>exact HH.o.2.1 _ _ hc
  obtain⟨h4,hb4,-,d4⟩:=H4.o;have hW4:Upd (fun j=>j=lb\/w5.heap.size<=j) w4d W:=(HU5.o.mono fE).trans hu;have h5:=h4.j9 hW4 HNE.o.1;have hb5:Box own3 W w.heap.size (.cells #[ptr c] 98):=⟨(hW4.block _ (zd hb4.1) (fun hs=>by
    rcases hs with hs|hs
    .exact HNE.o.2 hs
    .have:=zd hb4.1;omega)).trans hb4.1,hb4.2⟩
  have hl5:Box own3 W lb (.cells #[v] 146):=⟨hv,hlo⟩
  have hD5:Box own3 W D (.deferred (some [])):=⟨hK,h4.far D oM⟩
  have d5:Did own own3 w W:=⟨d4.upd.new hW4 (fun i hi hs=>by have h1:=HLB.o;have h2:=d4.upd.size;rcases hs with hs|hs<;>omega),d4.old,d4.new,fun j hj=>d4.far j (by have:=hW4.size;omega)⟩
  obtain⟨ao,cc,hvv⟩:=hs.rd.jU;have hnb:∀W',Below W.heap.size W W'->Calls prog 130 #[.int .i64 ((a.next-1:Nat):Int),.slice ao ys.length cc] W' (xr W' (a.next-1) (a.ents n)):=by
   intro W' hb';have hmx:a.next<=1099511627777:=h5.jr.good.mx;have hN:=h5.nib.below hb';by_cases hy0:ys=[]
   .have e:=hnil hy0;rw[hvv]at e;injection e with e1 e2 e3
    have hE0:a.ents n=[]:=qyb (by rw[hkl,e2]);rw[e1,e2,e3,hE0];exact sH _ oM hN
   .have hy1:0<ys.length:=List.length_pos_iff.2 hy0;obtain⟨-,⟨-,e⟩|⟨g,off,cap,cur,e,hg,hnc,hcm,hz,hc⟩⟩:=hs.keep (uuo (S:=fun _=>False) hb') (fun _ _ h=>h)
    .omega
    rw[hvv]at e;injection e with e1 e2 e3
    subst e1 e3;have hsl:=h4.ok.s2;exact Wr (a.ents n) hkl hy1 oM (fun j u hj=>by rw[za hg];exact hc j u hj) hnc hcm _ oM hok hN
  have hnx:JnGood (1+2*n.pa) n.jo a.cov a.next a.W:=h5.jr.good;have hnw:1<=a.next:=by have:=hnx.wl;omega
  have hnm:a.next<=1099511627777:=hnx.mx;have hwh:a.which<=1:=h5.wh;have HN:Hid (Calls prog 165 #[ptr p.jr] W fun e w'=>e=.returned (.int .i64 (a.next:Int))/\W=w'):=(ca_jnext h5:)
  obtain⟨-,-,c16,c17,-⟩:=h5.cells;replace c16:W.cell? ⟨c,16,none⟩=some (.int .i64 (a.which:Int)):=c16;have cb:=za hb5.1 0;have e1:((1-a.which:Nat):Int)=1-(a.which:Int):=oM;have e2:((a.next-1:Nat):Int)=(a.next:Int)-1:=oM;have HE:=Y2 e1 e2;subst hvv;have H5:=Y5 h5 hb5 hl5 hD5 d5;have hneed:needN ys.length<=n.pa:=by have:=h5.ok.p1;unfold needN;omega
  have hdO':(a.fb.fd).dO.length<=50000:=qXq (xW _ _ _) HH.o.2.2;have HB:=Y4 hnb hkl hneed hdO';have hy4:ys.length<=4096:=by have:=h5.ok.s2;omega
  have hDw:Hid (w.heap.size<=D):=by show _<=_;have h1:=d4.upd.size;omega
  clear h4 hb4 d4 hW4 h5 hb5 hl5 hD5 d5 hK hnx e1 e2 hnb hkl hneed hdO' hok hE hs hf hv hys hnil hu hcs hcp hcl5 hle hgood hqs;go_wp2_with fail
  refine HN.o.mono ?_;rintro e w6 ⟨rfl,rfl⟩;go_wp2_with fail
  obtain⟨h5,hb5,hl5,hD5,d5⟩:=H5.o;have hud:Upd (fun _=>False) W W.drew:=(uur _ W).drew;have hsv:Calls prog 52 #[ptr p.ssd,.int .i64 1,.int .i64 (n.pa:Int),.int .i64 ((1-a.which:Nat):Int),.int .i64 ((a.next-1:Nat):Int),.slice ao ys.length cc] W.drew (zx own3 W.drew c n p (a.fb.fd.dev (a.fb.fd.svR n)) (.int .i64 (a.fb.fd.svR n).cd)):=RD (h5.new hud) HB.o.2.2.2 (a.next-1) (1-a.which) oM ao ys.length cc (a.ents n) HB.o.2.1 HB.o.2.2.1 oM (fun W' hb'=>HB.o.1 W' ((qxl _ W).drew.trans hb'));obtain⟨b,hb⟩:=qqe (a.fb.fd.dev (a.fb.fd.svR n));rw[<-hb]at hsv;generalize (a.fb.fd.svR n).cd=cd at*;have HS:=qqh hsv;have HBb:=qqh hb;clear hb;have H6:=Y4 (hb5.new hud) (hl5.new hud) (hD5.new hud) (d5.trans (h5.jY hud));obtain⟨c14,-⟩:=h5.cells;have c7:=h5.lay.1;obtain⟨-,-,-,-,c4,-⟩:=h5.sup;have cl:=za hl5.1 0;clear h5 hb5 hl5 hD5 d5 hud hsv c16 c17
  go_still_tail 17,kR
  change wpList _ _ _ _ _ W.drew
  generalize W.drew=W2 at*;clear c14 c7 c4 cl cb;go_wp2_with fail
  rw[<-HE.o.1,<-HE.o.2];refine HS.o.mono ?_;rintro e w7 ⟨rfl,own7,hca7,hd7⟩;obtain⟨hb6,hl6,hD6,d6⟩:=H6.o;have hb7:=hb6.did hd7;have hD7:=hD6.did hd7;have d7:=d6.trans hd7;have hcl7:=hca7.clt;have cb:=za hb7.1 0;have c16:=hca7.cells.2.2.1;have f16:=hca7.fz 16;have c17:=hca7.cells.2.2.2.1;have hne:w.heap.size≠c:=oM;have H7:=Y4 hca7 hb7 hD7 d7;clear hca7 hd7 hb6 hl6 hD6 d6 hb7 hD7 d7;by_cases hc:cd=0
  rotate_left
  .have q0:(cd==0)=false:=by simpa using hc
   have hR':=hR.out;rw[if_pos hc,<-HBb.out]at hR';have HR':=qqh hR';clear hR';go_wp2_with fail
   obtain⟨h7,-,hD7,d7⟩:=H7.o;refine⟨oe,.inl ⟨_,_,rfl,run_takeDeferred hD7.1,?_⟩⟩;have h7':=h7.putObj hD7 rfl (.deferred none);have d7':=d7.putObj hDw.out (.deferred none);rw[HR'.o];exact⟨_,results_tmp rfl _ _ _,rfl,own7,h7',d7'⟩
  subst hc;replace hR:=hR.out;rw[if_neg oe]at hR;replace hR:=qqh hR;go_wp2_with fail
  obtain⟨h7,hb7,hD7,d7⟩:=H7.o;have h8:=h7.turn1 (1-a.which) oM;have d8:=d7.trans (h7.did1 (.int .i64 ((1-a.which:Nat):Int)));have hus:=zi w7 c 16 (.int .i64 ((1-a.which:Nat):Int));have hb8:Box own7 (w7.setCell ⟨c,16,none⟩ (.int .i64 ((1-a.which:Nat):Int))) w.heap.size (.cells #[ptr c] 98):=⟨(hus.block _ (zd hb7.1) hne).trans hb7.1,hb7.2⟩
  have hD8:Box own7 (w7.setCell ⟨c,16,none⟩ (.int .i64 ((1-a.which:Nat):Int))) D (.deferred (some [])):=⟨(hus.block _ (zd hD7.1) (fun e=>by have:=hD7.2;rw[e,h7.oc]at this;exact absurd this de)).trans hD7.1,hD7.2⟩
  generalize w7.setCell ⟨c,16,none⟩ (.int .i64 ((1-a.which:Nat):Int))=w8 at*;have hbn:b.next=a.next:=by rw[HBb.out];rfl
  have H8:=Y3 hb8 hD8 d8;have HV:=qqh (QR h8 ((a.next-1:Nat):Int) (by show _=(b.next:Int)-1;rw[hbn];exact HE.o.2));clear h7 hb7 hD7 d7 h8 d8 hus hb8 hD8 cb c16 f16 c17 hbn;refine HV.o.mono ?_;rintro e w9 ⟨rfl,own9,hca9,hd9⟩;obtain⟨hb8,hD8,d8⟩:=H8.o;have hb9:=hb8.did hd9;have cb:=za hb9.1 0;have H9:=Y2 (hD8.did hd9) (d8.trans hd9);have HR:=qqh (VC hca9);clear hb8 hD8 d8 hb9 hca9 hd9;go_wp2_with fail
  refine HR.o.mono ?_;rintro e w10 ⟨rfl,own10,hca10,hd10⟩;obtain⟨hD9,d9⟩:=H9.o;have HX:=Y3 hca10 (hD9.did hd10) (d9.trans hd10);clear hca10 hd10 hD9 d9 cb;go_wp2
  obtain⟨h10,hD10,d10⟩:=HX.o;refine⟨oe,.inl ⟨_,_,rfl,run_takeDeferred hD10.1,?_⟩⟩;have h10':=h10.putObj hD10 rfl (.deferred none);have d10':=d10.putObj hDw.out (.deferred none);rw[hR.out];refine⟨_,results_tmp rfl _ _ _,rfl,own10,?_,d10'⟩;rw[HBb.out]at h10';exact h10'
end
end Go.Proofs.YtpejdgiccaijfaaGreatDoor
namespace Go.Proofs.YtpejdgiccaijfaaGreatDoor
open Go Go.RowKit Tryz
theorem zx.from{own0 own:Nat->Nat}{w0 w:World}{c:Nat}{n:CaN}{p:CaP}{a:CaS}{v:Value}{f:FuncId}{args:Array Value}(h:Did own0 own w0 w)(hc:Calls prog f args w (zx own w c n p a v)):Calls prog f args w (zx own0 w0 c n p a v):=
 hc.mono fun _ _ ⟨he,own',h',hd⟩=>⟨he,own',h',h.trans hd⟩
structure CaS.Fit(a:CaS)(N:Nat):Prop where
 sm:∀k v,a.sums k=some v->v<=4294967295
 w1:∀q∈a.W,1<=q.1
 nx:a.next<=N
 iN:a.iN<=N
 kN:a.kN<=N
 mN:a.mN<=N
 dO:a.dO.length<=N
 bO:a.bO.length<=N
theorem CaS.Fit.mono{a:CaS}{N M:Nat}(h:a.Fit N)(hM:N<=M):a.Fit M:=
 ⟨h.sm,h.w1,qXq h.nx hM,qXq h.iN hM,qXq h.kN hM,qXq h.mN hM,qXq h.dO hM,qXq h.bO hM⟩
theorem CaS.Fit.fb{a:CaS}{N:Nat}(h:a.Fit N):a.fb.Fit N:={h with bO:=qXq (xW _ _ _) h.bO}
theorem CaS.Fit.fd{a:CaS}{N:Nat}(h:a.Fit N):a.fd.Fit N:={h with dO:=qXq (xW _ _ _) h.dO}
theorem Es(F:List Bk)(O:List (Nat×Bk))(P:List Int)(L:List (Nat×Bk)):(saveR F O P L).O.length<=O.length+L.length:=by
 have h:=Rh F L O P;unfold saveR;split
 .exact qXq (xW _ _ _) h
 .exact h
theorem CaS.svR_O(n:CaN)(a:CaS):(a.svR n).O.length<=a.dO.length+n.pa:=by
 have:=Es a.dF a.dO a.dP (ckO (1+(1-a.which)*n.pa) n.pa (pagesB (a.next-1) (a.ents n)))
 rwa[JI]at this
theorem CaS.Fit.ckpt{n:CaN}{a:CaS}{N:Nat}(h:a.Fit N):(a.ckpt n).1.Fit (N+n.pa):=by
 have h1:=h.fb;have h2:=h1.fd;have h3:=a.fb.fd.svR_O n;have h4:=h2.dO;unfold CaS.ckpt;split
 .exact h1.mono (qXn _ _)
 split
 .exact h2.mono (qXn _ _)
 split
 .exact {h2.mono (qXn N n.pa)with dO:=by show(a.fb.fd.svR n).O.length<=_;omega}
 .exact {h2.mono (qXn N n.pa)with dO:=(by show(a.fb.fd.svR n).O.length<=_;omega),w1:=fun q hq=>by cases hq}
def CaS.jV(n:CaN)(a:CaS):CaS×Int:=if a.next+1<=a.cov+n.jo then(a,0)else a.ckpt n
theorem CaS.Fit.jV{n:CaN}{a:CaS}{N:Nat}(h:a.Fit N):(a.jV n).1.Fit (N+n.pa):=by
 unfold CaS.jV;split
 .exact h.mono (qXn _ _)
 .exact h.ckpt
section
variable{own:Nat->Nat}{w w':World}{c:Nat}{n:CaN}{p:CaP}{a:CaS}{N:Nat}
theorem uG(h:CaAt own w c n p a)(hf:a.Fit N)(hN:N<=50000):
  Calls prog 243 #[ptr c] w (zx own w c n p (a.jV n).1 (.int .i64 (a.jV n).2)):=by
 by_cases hr:a.next+1<=a.cov+n.jo
 .unfold CaS.jV;rw[if_pos hr];exact Xk h hr
 have HB:=qqh (Xf h);obtain⟨-,-,-,d3,-,-,-,-,-⟩:=h.cells;have q0:decide ((n.jo:Int)-((a.next:Int)-1-(a.cov:Int))>=2)=false:=by simp;omega
 have q1:¬(2:Int)<=(n.jo:Int)-((a.next:Int)-1-(a.cov:Int)):=oM;have HF:=qqh hf;unfold CaS.jV;rw[if_neg hr];clear h hr hf;go_enter func243,ntmps243
 go_wp2_with fail
 refine HB.o.mono ?_;rintro e w1 ⟨rfl,own1,h1,hd1⟩;have HC:=qqh (zx.from hd1 (Uc h1 HF.o.sm (by have:=HF.o.dO;omega)));clear h1 hd1 HB d3;generalize (n.jo:Int)-((a.next:Int)-1-(a.cov:Int))=r at*;go_wp2_with fail
 refine HC.o.mono ?_;rintro e w2 ⟨rfl,H2⟩;replace H2:=qqh H2;go_wp2
 go_ret
 exact⟨rfl,H2.o⟩
end
theorem Xp{next jo s sum:Nat}{k:Int}(d:Bool)(h1:1<=next)(h2:next<=1099511627776)(_hjo:1<=jo)(hk:0<=k/\k<4096)(hs:s<1024)(hsum:sum<=4294967295):mayR (jaddX next jo 0 k s d sum)=true:=by
 have hl:(next-1)/jo<=next-1:=Nat.div_le_self _ _;unfold jaddX;generalize (next-1)/jo=lp at*;cases d
 all_goals simp[mayR,withinB,bndR,recX,inB,bitN]<;>omega
theorem sO{next jo:Nat}{k:Int}(h1:1<=next)(h2:next<=1099511627776)(_hjo:1<=jo)(hk:0<=k/\k<4096):mayR (jaddX next jo 1 k 0 false 0)=true:=by
 have hl:(next-1)/jo<=next-1:=Nat.div_le_self _ _;unfold jaddX;generalize (next-1)/jo=lp at*;simp[mayR,withinB,bndR,recX,inB,bitN]<;>omega
open Go Go.RowKit Go.Shelf Tryz
attribute [local go_sem] qYa
def CaS.spareB(a:CaS):Bool:=a.K.any (cleanB a.ps)
theorem Ud(K:List Int)(A:Int->Bool):(kaL K A).map (·.1)=K:=by
 simp[kaL,Function.comp_def]
def SpX(ps:List (Int×Bool))(wz:World)(rb:Nat)(cc:Code)(pre:List It7)(W:World):Prop:=
 cc=.ret/\(∃x∈pre,cleanB ps x.1=true)/\Boxed W rb 4 (.bool true)/\Upd (fun j=>j=rb\/wz.heap.size<=j) wz W
theorem RE{own:Nat->Nat}{w:World}{c:Nat}{n:CaN}{p:CaP}{a:CaS}(h:CaAt own w c n p a):
  Calls prog 423 #[ptr c] w fun e w'=>e=.returned (.bool a.spareB)/\Below w.heap.size w w':=by
 obtain⟨w1,hw1⟩:=qqe ((w.alloc (.cells #[ptr c] 98)).alloc (.cells #[.bool false] 4));have hu1:Upd (fun _=>False) w w1:=by rw[hw1];exact((uur _ w).alloc _).alloc _
 have g0:w1.heap[w.heap.size]?=some (.cells #[ptr c] 98 (0,0)):=by rw[hw1];exact(qxk _ _ _ oe).trans (zc w _ rfl)
 have g1:w1.heap[w.heap.size+1]?=some (.cells #[.bool false] 4 (0,0)):=by rw[hw1];exact zc _ _ oe
 have hz1:w1.heap.size=w.heap.size+2:=by rw[hw1];simp
 have h1:=h.new hu1;have hcl:=h.clt;obtain⟨-,-,-,-,-,-,-,d7,-⟩:=h.cells;have HA:=qqh (Wy h1.ck);have H1:=Y4 h1 hu1 g0 g1;clear h h1 hu1 g0 g1;refine(callsIn_wide (n:=4)).1 ?_;refine callsIn_of_wp_marks func423 rfl trivial ?_ rfl;simp only[ntmps423,qXh,qyz,qzc,Nat.reduceAdd,Nat.reduceSub,qxi,qxj,qXb,qxy,qzu,qxz];refine wpIn_wide.2 ?_;go_wp2_with fail
 rw[<-hw1];clear hw1 d7;refine HA.o.mono ?_;rintro e w2 ⟨gf,lb,rfl,hg,hb2⟩;have hz2:=hb2.size;have HU2:Hid (Upd (fun _=>False) w1 w2):=uuo hb2;have HG:=qqh hg;clear HA hg;go_wp2_with fail
 refine(wpIn_wide (n:=4)).1 ?_
 refine' wpIn_rangeFunc_ownH rfl oM (gf:=gf) (lb:=lb) rfl trivial HG.o.1
  (HG.o.2 3 oM (fun j=>w2.heap.size<=j) (fun j h=>h) _ (qxl _ _)) uR (fun W l o o' hl=>wH (M:=w2.heap.size) (fun j h=>h) W l o o' hl) (qxl _ _) (fun _=>rfl)
  (fun pre W=>Below w2.heap.size w2 W/\∀x∈pre,cleanB a.ps x.1=false)
  (SpX a.ps w2 (w.heap.size+1))
  (fun pre X Y row hs hg hr=>⟨ownFrom_below (β:=Unit) (qXo _) (qXo _) () X Y row hs.1 hg hr,hs.2⟩)
  (fun cc pre X Y row hs hg hr=>⟨hs.1,hs.2.1,(grownBy_keeps_cells hg (fun r e=>(hr r e).2) hs.2.2.1 rfl).trans hs.2.2.1,xq hs.2.2.2 hg (fun r e=> .inr (hr r e).1)⟩)
  ⟨qxl _ _,fun x hx=>by cases hx⟩
  (fun x a' _=>a'=(_:It7->Act) x)
  (fun x a'=>fun s X Y row hs hg hr=>hs)
  ?assign ?body ?done ?stop
 case assign=>
  rintro l' pre x W K ⟨hB,hn⟩ hK
  gi_wp2
  refine hK _ _ (KeepsFrom.refl _ _) (uur _ _) ⟨hB,hn⟩ ?_;exact rfl
 case body=>
  rintro l' pre x a' W hl _ ⟨hB,hn⟩ rfl hlt;have hu:Upd (fun _=>False) w1 W:=HU2.o.trans (uuo hB);obtain⟨h1,-,g0,g1⟩:=H1.o;have hcb:=qX (h1.new hu) x.1;have g0':=hu.jT g0;have g1':=hu.jT g1;have c0:=za g0' 0;have HC:=qqh hcb;have HB:=Y3 hB hn g1';clear h1 g0 g1 hcb g0' g1' hB hn hu
  gi_wp2_with fail
  refine⟨trivial,?_⟩;refine(CallsIn.inRound l' (callsIn_wide.2 HC.o)).mono ?_;rintro e W2 ⟨rfl,hb3⟩;obtain⟨hB,hn,g1'⟩:=HB.o;have g2:=(hb3.block _ (zd g1')).trans g1';have c2:=za g2 0;have f2:=zf g2 0;have hB2:Below w2.heap.size w2 W2:=hB.trans (hb3.mono hB.size);have hKO:KeepsOthers W W2:=⟨hb3.size,fun k o hk ho=>(hb3.block k (zd hk)).trans hk⟩
  have HN:=qqh hn;have HB2:=Y4 hB2 hKO g2 hb3;clear hB hn g1' g2 hB2 hKO hb3 HC c0;rcases hq:cleanB a.ps x.1 with _|_
  .have HQ:=qqh hq;clear hq
   gi_wp2
   obtain⟨hB2,hKO,g2,hb3⟩:=HB2.o;refine⟨hKO.from _,uuo hb3,hB2,fun y hy=>?_⟩;rcases qzl.1 hy with hy|hy
   .exact HN.o y hy
   .simp at hy;subst hy;exact HQ.o
  .have HQ:=qqh hq;clear hq
   gi_wp2
   obtain⟨hB2,hKO,g2,hb3⟩:=HB2.o;have hus:=zi W2 (w.heap.size+1) 0 (.bool true);refine⟨(hKO.trans (zC hus (fun j hj _=>⟨_,_,_,hj▸g2⟩))).from _,rfl,⟨x,oe,HQ.o⟩,Boxed.set (.bool true) (show Boxed W2 (w.heap.size+1) 4 (.bool false)from g2),?_⟩;exact(uuo hB2).trans (hus.mono (fun _ _ h=> .inl h))
 case done=>
  rintro D ys W hD rfl ⟨hB,hn⟩ hK;have hu:Upd (fun _=>False) w1 W:=HU2.o.trans (uuo hB);have g1:=hu.jT H1.o.2.2.2;have c1:=za g1 0;have f1:=zf g1 0;have hsp:a.spareB=false:=by
   unfold CaS.spareB;rw[List.any_eq_false];intro k hk;have hk':k∈(kaL a.K a.A).map (·.1):=by rw[Ud];exact hk
   obtain⟨x,hx,rfl⟩:=qzq.1 hk';rw[hn x hx];decide
  have HS:=Y5 hsp hK hu g1 hD;clear hsp hK hu g1 hn hB hD;go_wp2
  obtain⟨hsp,hK,hu,g1,hD⟩:=HS.o;have hus:=zi W (w.heap.size+1) 0 (.bool false);have hDl:=zd hK;have hK2:(W.setCell ⟨w.heap.size+1,0,none⟩ (.bool false)).heap[D]?=some (.deferred (some [])):=(hus.block D hDl oM).trans hK;have g2:=zh g1 0 (.bool false);have hpo:=uF (W.setCell ⟨w.heap.size+1,0,none⟩ (.bool false)) D (.deferred none);have c3:=za ((hpo.block _ (zd g2) oM).trans g2) 0;refine⟨oe,.inl ⟨_,_,rfl,run_takeDeferred hK2,?_⟩⟩;refine⟨.bool false,by simp[results,results423,go_sem,c3],by rw[hsp],?_⟩;have hX:=(hu.mono (S':=fun j=>w.heap.size<=j) (fun _ _ h=>h.elim)).trans ((hus.mono (fun j _ e=>oM)).trans (hpo.mono (fun j _ e=>oM)));exact zj (qxl _ _) ((H1.o.2.1.mono (S':=fun j=>w.heap.size<=j) (fun _ _ h=>h.elim)).trans hX) (qXo _) (fun k h=>h)
 case stop=>
  rintro D cc pre W hD hsp ⟨rfl,⟨x,hx,hq⟩,hb,hu⟩ hK;have hsp2:a.spareB=true:=by
   unfold CaS.spareB;rw[List.any_eq_true];refine⟨x.1,?_,hq⟩;rw[<-Ud a.K a.A];exact qzq.2 ⟨x,hsp.subset hx,rfl⟩
  have hX:Upd (fun j=>w.heap.size<=j) w W:=((H1.o.2.1.trans HU2.o).mono fE).trans (hu.mono (fun j _ h=>oM));have hpo:=uF W D (.deferred none);have c3:=za ((hpo.block _ (zd hb) oM).trans hb) 0;have HS:=Y5 hsp2 hK hX hpo c3;clear hsp2 hK hX hpo c3 hb hu hsp hx hq
  gi_wp2
  obtain⟨hsp2,hK,hX,hpo,c3⟩:=HS.o;refine⟨oe,.inl ⟨_,_,rfl,run_takeDeferred hK,?_⟩⟩;refine⟨.bool true,by simp[results,results423,go_sem,c3],by rw[hsp2],?_⟩;exact zj (qxl _ _) (hX.trans (hpo.mono (fun j _ e=>oM))) (qXo _) (fun k h=>h)
end Go.Proofs.YtpejdgiccaijfaaGreatDoor
namespace Go.Proofs.YtpejdgiccaijfaaGreatDoor
open Go Go.RowKit Tryz
def CaS.ev(n:CaN)(a:CaS):CaS:={a with K:=(EvG.evR (cleanB a.ps) n.sl a.K a.A a.H).2.2.1,A:=(EvG.evR (cleanB a.ps) n.sl a.K a.A a.H).2.2.2.1,H:=(EvG.evR (cleanB a.ps) n.sl a.K a.A a.H).2.2.2.2}
def CaS.evK(n:CaN)(a:CaS):Int:=(EvG.evR (cleanB a.ps) n.sl a.K a.A a.H).1
def CaS.evC(n:CaN)(a:CaS):Int:=(EvG.evR (cleanB a.ps) n.sl a.K a.A a.H).2.1
theorem TC{fm:Int->Bool}{K:List Int}(hK:K≠[]):∀(g h:Nat) (A A':Int->Bool) (p:Nat),EvG.evGo fm K g h A=some (p,A')->p<K.length/\fm (K.getD p 0)=true/\A' (K.getD p 0)=false/\∀x,A' x=true->A x=true:=by
 have hl:0<K.length:=List.length_pos_iff.2 hK;intro g
 induction g with
 |zero=>intro h A A' p e;cases e
 |succ g ih=>
  intro h A A' p e;simp only[EvG.evGo]at e;split at e
  .exact ih _ _ _ _ e
  .next hf=>
   split at e
   .next ha=>
    obtain⟨h1,h2,h3,h4⟩:=ih _ _ _ _ e;refine⟨h1,h2,h3,fun x hx=>?_⟩;have:=h4 x hx;unfold updB at this;split at this
    .cases this
    .exact this
   .next ha=>
    simp only[Option.some.injEq,qYd]at e;obtain⟨rfl,rfl⟩:=e;exact⟨qXt _ hl,by simpa using hf,by simpa using ha,fun _ h=>h⟩
theorem evR_cases(fm:Int->Bool)(few:Nat)(K:List Int)(A:Int->Bool)(G:List Int):
  ((EvG.evR fm few K A G).2.1=14/\EvG.evR fm few K A G=(0,14,K,A,G))\/
   ((EvG.evR fm few K A G).2.1=0/\∃i A',∃h:i<K.length,EvG.evR fm few K A G=(K[i],0,EvG.restK K i,A',EvG.trimG few (G++[K[i]]))/\fm K[i]=true/\A' K[i]=false):=by
 unfold EvG.evR;cases hg:EvG.evGo fm K (2*K.length) 0 A with
 |none=>exact .inl ⟨rfl,rfl⟩
 |some q=>
  obtain⟨p,A'⟩:=q;by_cases hK:K=[]
  .subst hK;cases hg
  .obtain ⟨h1,h2,h3,-⟩:=TC hK _ _ _ _ _ hg;have e:K.getD p 0=K[p]:=by simp[h1]
   rw[e]at h2 h3;refine .inr ⟨rfl,p,A',h1,?_,h2,h3⟩;simp only[e]
theorem sP{ps:List (Int×Bool)}{k:Int}(h:cleanB ps k=true):getC ps k=0:=by
 unfold cleanB at h;simp only[qxo,beq_iff_eq]at h;exact h.1
def CaS.j6(n:CaN):Nat->Nat->CaS->CaS×Nat×Int
 |0,g,a=>(a,g,0)
 |m+1,g,a=>
  if a.spareB=false then(a,g,0)
  else if(a.jV n).2≠0 then((a.jV n).1,g,(a.jV n).2)
  else if(a.jV n).1.evC n≠0 then((a.jV n).1.ev n,g,0)
  else if turnCode (a.jV n).1.st (getV (a.jV n).1.ps ((a.jV n).1.evK n)).1 3≠0 then(((a.jV n).1.ev n).left n ((a.jV n).1.evK n),g,turnCode (a.jV n).1.st (getV (a.jV n).1.ps ((a.jV n).1.evK n)).1 3)
  else CaS.j6 n m (g+1) (((a.jV n).1.ev n).left n ((a.jV n).1.evK n))
theorem CaS.Fit.ev{n:CaN}{a:CaS}{N:Nat}(h:a.Fit N):(a.ev n).Fit N:={h with}
theorem CaS.Fit.left{n:CaN}{a:CaS}{N:Nat}(h:a.Fit N)(h1:1<=a.next)(k:Int):(a.left n k).Fit (N+1):=
 {h.mono (qXp N)with
  nx:=by have:=h.nx;show a.next+1<=N+1;omega
  w1:=fun q hq=>by
   rcases qzl.1 hq with hq|hq
   .exact h.w1 q hq
   .simp at hq;subst hq;exact h1
  sm:=fun x v hv=>by
   simp only[xP]at hv;split at hv
   .cases hv
   .exact h.sm x v hv}
theorem CaS.ckpt_next(n:CaN)(a:CaS):(a.ckpt n).1.next=a.next/\(a.ckpt n).1.ps=a.ps:=by
 unfold CaS.ckpt
 repeat' split
 all_goals exact⟨rfl,rfl⟩
theorem CaS.ckpt_room{n:CaN}{a:CaS}(h:(a.ckpt n).2=0)(h1:1<=a.next)(hj:4<=n.jo):(a.ckpt n).1.next+1<=(a.ckpt n).1.cov+n.jo:=by
 unfold CaS.ckpt at*;split at h
 .next hc=>exact absurd h hc
 split at h
 .next hc=>exact absurd h hc
 split at h
 .next hc=>exact absurd h hc
 .next h2 h3 h4=>
  rw[if_neg h2,if_neg h3,if_neg h4];show a.next+1<=(a.next-1)+n.jo;omega
theorem CaS.jW(n:CaN)(a:CaS):(a.jV n).1.next=a.next/\(a.jV n).1.ps=a.ps:=by
 unfold CaS.jV;split
 .exact ⟨rfl,rfl⟩
 .exact a.ckpt_next n
theorem CaS.ki{n:CaN}{a:CaS}(h:(a.jV n).2=0)(h1:1<=a.next)(hj:4<=n.jo):(a.jV n).1.next+1<=(a.jV n).1.cov+n.jo:=by
 unfold CaS.jV at*;split at h
 .next hc=>rw[if_pos hc];exact hc
 .next hc=>rw[if_neg hc];exact CaS.ckpt_room h h1 hj
section
variable{own:Nat->Nat}{w w':World}{c:Nat}{n:CaN}{p:CaP}{a:CaS}{N:Nat}
theorem CaAt.nx1(h:CaAt own w c n p a):1<=a.next:=by have:=h.jr.good.wl;omega
theorem zaM(h:CaAt own w c n p a):Calls prog 424 #[ptr p.ck,EvG.mayV (ptr c)] w (zx own w c n p (a.ev n) (.tuple #[.int .i64 (a.evK n),.int .i64 (a.evC n)])):=
 (Tw h).mono fun e w' ⟨key,code,K',A',H',he,ho,own',h',hd⟩=>by
  have e2:=ho.2;refine⟨?_,own',?_,hd⟩
  .rw [he,CaS.evK,CaS.evC,e2]
  .rw [CaS.ev,e2];exact h'
theorem RF(h:CaAt own w c n p a)(hf:a.Fit N)(m:Nat)(hm:m<=1000)(hN:N+m*(n.pa+1)<=50000):
  Calls prog 386 #[ptr c,.int .i64 (m:Int)] w (zx own w c n p (CaS.j6 n m 0 a).1 (.tuple #[.int .i64 ((CaS.j6 n m 0 a).2.1:Int),.int .i64 (CaS.j6 n m 0 a).2.2])):=by
 obtain⟨R,hR⟩:=qqe (CaS.j6 n m 0 a);rw[<-hR];have H:=Y4 h hf hN hR;have hmf:=qqf;clear h hf hN hR;go_enter func386,ntmps386
 go_wp2
 refine wp_scope_straight ?_;go_wp2
 refine wp_label ?_;go_wp2
 go_loopg[6] m (fun g i wr=>∃k:Nat,k+g=m/\i=.int .i64 k/\∃own' a',CaAt own' wr c n p a'/\Did own own' w wr/\a'.Fit (N+k*(n.pa+1))/\CaS.j6 n g k a'=R)
 case atStart=>exact⟨0,oM,rfl,own,a,H.o.1,Did.refl H.o.1.far,by simpa using H.o.2.1,H.o.2.2.2.symm⟩
 case round=>
  obtain⟨k,hk,rfl,own1,a1,h1,d1,f1,e1⟩:=hrel;have hmul:k<m->(k+1)*(n.pa+1)<=m*(n.pa+1):=fun h=>qXu _ h;rw[Nat.succ_mul]at hmul;have H1:=Y4 h1 d1 f1 e1;have HS:=qqh (RE h1);have hmul:=qqh hmul;clear h1 d1 f1 e1;by_cases hlt:k<m
  .have hN1:Hid (N+(k+1)*(n.pa+1)<=50000):=by
    show _<=_;have h1:=hmul.out hlt;have h2:=H.o.2.2.1;rw[Nat.succ_mul];omega
   have hs1:(k+1)*(n.pa+1)=k*(n.pa+1)+(n.pa+1):=Nat.succ_mul _ _;replace hs1:=qqh hs1;have e1':CaS.j6 n (gk-1+1) k a1=R:=by rw[show gk-1+1=gk by omega];exact H1.o.2.2.2
   rw[CaS.j6]at e1';replace e1':=qqh e1';go_wp2_with fail
   refine HS.o.mono ?_;rintro e w2 ⟨rfl,hb2⟩;have hu2:=qqb hb2;have h2:=H1.o.1.new hu2;have d2:=H1.o.2.1.trans (H1.o.1.jY hu2);have f2:=H1.o.2.2.1;have hsz:Hid (w.heap.size<=w2.heap.size):=d2.upd.size;clear hu2 hb2 H1 HS;cases hsp:a1.spareB with
   |false=>
    have e2:=e1'.out;rw[if_pos hsp]at e2;have H2:=Y3 h2 d2 e2;clear h2 d2 f2 hsp e2;go_wp2
    rw[qxq];go_ret2
    rw[<-H2.o.2.2];exact⟨rfl,own1,H2.o.1,H2.o.2.1⟩
   |true=>
    have e2:=e1'.out;rw[if_neg (by rw[hsp];decide)]at e2;clear e1' hsp;have HR:=qqh (zx.from d2 (uG h2 f2 (by have:=hN1.out;have:=hs1.out;omega)));have hnx:=h2.nx1;have hjo:=h2.ok.j1;have f3:=f2.jV (n:=n);have hrm:=fun h=>CaS.ki (a:=a1) (n:=n) h hnx hjo;have hnn:=(a1.jW n).1;generalize a1.jV n=r at*;obtain⟨b,cd⟩:=r;simp only at HR e2 f3 hrm hnn;have H2:=Y4 e2 f3 hrm hnn;clear h2 d2 f2 e2 f3 hrm hnn hnx;go_wp2_with fail
    refine HR.o.mono ?_;rintro e w3 ⟨rfl,own3,h3,d3⟩;clear HR;by_cases hc:cd=0
    rotate_left
    .have q0:(cd==0)=false:=by simpa using hc
     have e2:=H2.o.1;rw[if_pos hc]at e2;have H3:=Y3 h3 d3 e2;clear h3 d3 e2;go_wp2
     rw[qxq];go_ret2
     rw[<-H3.o.2.2];exact⟨rfl,own3,H3.o.1,H3.o.2.1⟩
    subst hc;have e3:=H2.o.1;rw[if_neg oe]at e3;obtain⟨-,-,-,-,-,-,-,c21,-⟩:=h3.cells;have HK:=qqh (zx.from d3 (zaM h3));have H3:=Y4 e3 h3.nx1 (evR_cases (cleanB b.ps) n.sl b.K b.A b.H) h3.ok;clear h3 d3 e3;go_wp2_with fail
    refine HK.o.mono ?_;rintro e w4 ⟨rfl,own4,h4,d4⟩;obtain⟨key,hkey⟩:=qqe (b.evK n);obtain⟨code,hcode⟩:=qqe (b.evC n);rw[<-hkey,<-hcode];have H4:=Y4 h4 d4 hkey hcode;clear h4 d4 hkey hcode HK c21;by_cases hc:code=0
    rotate_left
    .have q0:(code==0)=false:=by simpa using hc
     have e4:=H3.o.1;rw[<-H4.o.2.2.2,if_pos hc]at e4;replace e4:=qqh e4;go_wp2
     rw[qxq];go_ret2
     rw[<-e4.out];exact⟨rfl,own4,H4.o.1,H4.o.2.1⟩
    subst hc;obtain⟨h4,d4,hkey,hcode⟩:=H4.o;obtain⟨e3,hnx,hcs,hok⟩:=H3.o;rw[<-hcode,if_neg oe,<-hkey]at e3;have hg:getC (b.ev n).ps key=0:=by
     rcases hcs with⟨hcs,-⟩|⟨-,i,A',hi,hev,hfm,-⟩
     .have:b.evC n=14:=hcs;rw[<-hcode]at this;cases this
     .have:key=b.K[i]:=by rw[hkey,CaS.evK,hev]
      rw[this];exact sP hfm
    have hkr:0<=key/\key<4096:=by
     have h1:=h4.pl;have h2:=h4.ok.b2;unfold getC at hg;split at hg
     .cases hg
     .omega
    have hrm:=H2.o.2.2.1 oe;have f3:=H2.o.2.1;have hnb:(b.ev n).next=b.next:=rfl;have hnx2:b.next<=50000:=qXq f3.nx (by have:=hN1.out;have:=hs1.out;omega);have HL:=qqh (zx.from d4 (Xi h4 key hg (by show b.next<=b.cov+n.jo;omega) (by rw[hnb];omega) (by rw[hnb];exact sO hnx oM (by have:=hok.j1;omega) hkr)));have f5:((b.ev n).left n key).Fit (N+k*(n.pa+1)+n.pa+1):=f3.ev.left hnx key;have hgk:=hk;generalize hlc:turnCode (b.ev n).st (getV (b.ev n).ps key).1 3=lc at*;replace hlc:turnCode b.st (getV b.ps key).1 3=lc:=hlc;rw[hlc]at e3;have H5:=Y2 e3 f5;clear h4 d4 hkey hcode e3 hnx hcs hok hg hkr hrm f3 hnb hnx2 f5 hlc H4 H3 H2;go_wp2_with fail
    refine HL.o.mono ?_;rintro e w5 ⟨rfl,own5,h5,d5⟩;have H6:=Y2 h5 d5;clear h5 d5 HL;by_cases hc:lc=0
    rotate_left
    .have q0:(lc==0)=false:=by simpa using hc
     have e4:=H5.o.1;rw[if_pos hc]at e4;replace e4:=qqh e4;go_wp2
     rw[qxq];go_ret2
     rw[<-e4.out];exact⟨rfl,own5,H6.o.1,H6.o.2⟩
    subst hc;have e4:=H5.o.1;rw[if_neg oe]at e4;replace e4:=qqh e4;go_wp2
    go_roundg (gk-1)
    case measure=>omega
    case rel=>
     refine⟨k+1,oM,by go_num,own5,_,H6.o.1,H6.o.2,?_,e4.out⟩;rw[hs1.out,<-qXl,<-qXl];exact H5.o.2
  .have e1:=H1.o.2.2.2;have hk0:gk=0:=oM;rw[hk0]at e1;have e2:(a1,k,(0:Int))=R:=e1;have H2:=Y3 H1.o.1 H1.o.2.1 e2;clear e1 e2 H1 HS;go_wp2
   rw[qxq];go_ret2
   rw[<-H2.o.2.2];exact⟨rfl,own1,H2.o.1,H2.o.2.1⟩
end
def CaS.ko(n:CaN)(b:CaS)(s:Int):CaS×Int×Bool×Int:=
 if(b.jV n).2=0 then((b.jV n).1,s,true,0)else({(b.jV n).1 with st:=turnList (b.jV n).1.st s 3},0,false,(b.jV n).2)
def CaS.al(b:CaS):CaS:={b with st:=allocList b.st}
def CaS.take3(n:CaN)(b:CaS):CaS×Int×Bool×Int:=
 if(b.jX n).2≠0 then((b.jX n).1,0,false,(b.jX n).2)
 else if allocCode (b.jX n).1.st≠0 then((b.jX n).1.al,0,false,0)else(b.jX n).1.al.ko n (allocVal (b.jX n).1.st)
def CaS.kt(n:CaN)(b:CaS):CaS×Int×Bool×Int:=if(pos b.st 3).length=0 then(b,0,false,0)else b.take3 n
def CaS.take1(n:CaN)(b:CaS):CaS×Int×Bool×Int:=
 if(pos b.st 3).length=0 then(if(CaS.j6 n 1 0 b).2.2≠0 then((CaS.j6 n 1 0 b).1,0,false,(CaS.j6 n 1 0 b).2.2)else(CaS.j6 n 1 0 b).1.kt n)else b.kt n
def CaS.jZ(n:CaN)(a:CaS):CaS×Int×Bool×Int:=if allocCode a.st=0 then a.al.ko n (allocVal a.st)else a.al.take1 n
theorem zaN(base k:Nat)(F:List Bk)(O:List (Nat×Bk))(P:List Int)(W:List (Nat×Bk)):(comR base k F O P W).1.O.length<=O.length+W.length/\((comR base k F O P W).2=W\/(comR base k F O P W).2=[]):=by
 have h1:=xW F O P;have h2:=Wk base k (flushR F O P).F W (flushR F O P).O (flushR F O P).P;have h3:=xW (comW base k (flushR F O P).F W (flushR F O P).O (flushR F O P).P).F (comW base k (flushR F O P).F W (flushR F O P).O (flushR F O P).P).O (comW base k (flushR F O P).F W (flushR F O P).O (flushR F O P).P).P;unfold comR;split
 .exact ⟨qXq h1 (qXn _ _),.inl rfl⟩
 split
 .exact ⟨by dsimp only;omega,.inl rfl⟩
 split
 .exact ⟨by dsimp only;omega,.inl rfl⟩
 .exact ⟨by dsimp only;omega,.inr rfl⟩
theorem CaS.Fit.cm{n:CaN}{a:CaS}{N:Nat}(h:a.Fit N)(hW:a.W.length<=n.jo):(a.cm n).Fit (N+n.jo):=by
 obtain⟨h1,h2⟩:=zaN (1+2*n.pa) n.jo a.dF a.dO a.dP a.W;exact{h.mono (qXn N n.jo)with
  dO:=by have:=h.dO;show(comR (1+2*n.pa) n.jo a.dF a.dO a.dP a.W).1.O.length<=_;omega
  w1:=fun q hq=>by
   replace hq:q∈(comR (1+2*n.pa) n.jo a.dF a.dO a.dP a.W).2:=hq;rcases h2 with e|e
   .rw [e]at hq;exact h.w1 q hq
   .rw [e]at hq;cases hq}
theorem CaS.Fit.jX{n:CaN}{a:CaS}{N:Nat}(h:a.Fit N)(hW:a.W.length<=n.jo):(a.jX n).1.Fit (N+n.jo):=by
 have h1:=h.fb;have h2:=h1.cm (n:=n) hW;unfold CaS.jX;split
 .exact h1.mono (qXn _ _)
 split
 .exact h2
 .exact {h2 with}
theorem CaS.Fit.al{a:CaS}{N:Nat}(h:a.Fit N):a.al.Fit N:={h with}
theorem CaS.Fit.turned{a:CaS}{N:Nat}(h:a.Fit N)(l:List Int):({a with st:=l}:CaS).Fit N:={h with}
theorem CaS.Fit.ko{n:CaN}{a:CaS}{N:Nat}(h:a.Fit N)(s:Int):(a.ko n s).1.Fit (N+n.pa):=by
 unfold CaS.ko;split
 .exact h.jV
 .exact h.jV.turned _
section
variable{own:Nat->Nat}{w w':World}{c:Nat}{n:CaN}{p:CaP}{a:CaS}{N:Nat}
theorem CaAt.wl(h:CaAt own w c n p a):a.W.length<=n.jo:=by have h1:=h.jr.good.wl;have h2:=h.jr.good.room;omega
theorem RG(h:CaAt own w c n p a):Calls prog 384 #[ptr p.ss] w (zx own w c n p a.al (.tuple #[.int .i64 (allocVal a.st),.int .i64 (allocCode a.st)])):=Ru h
theorem CaS.Fit.j6{n:CaN}:∀(m g:Nat) {a:CaS} {N:Nat},a.Fit N->1<=a.next->(CaS.j6 n m g a).1.Fit (N+m*(n.pa+1))
 |0,g,a,N,h,_=>by simpa[CaS.j6]using h
 |m+1,g,a,N,h,h1=>by
  have hr:=h.jV (n:=n);have hn:=(a.jW n).1;have hs:(m+1)*(n.pa+1)=m*(n.pa+1)+(n.pa+1):=Nat.succ_mul _ _;have hl:(((a.jV n).1.ev n).left n ((a.jV n).1.evK n)).Fit (N+n.pa+1):=hr.ev.left (by show 1<=(a.jV n).1.next;omega) _;simp only[CaS.j6];split
  .exact h.mono (qXn _ _)
  split
  .exact hr.mono oM
  split
  .exact hr.ev.mono oM
  split
  .exact hl.mono oM
  .have:=CaS.Fit.j6 (n:=n) m (g+1) hl (by show 1<=(a.jV n).1.next+1;omega);exact this.mono oM
theorem CaS.committed_next(n:CaN)(a:CaS):(a.jX n).1.next=a.next/\(a.jX n).1.ps=a.ps:=by
 unfold CaS.jX
 repeat' split
 all_goals exact⟨rfl,rfl⟩
theorem Ue(h:CaAt own w c n p a)(hf:a.Fit N)(hN:N+2*n.pa+n.jo+1<=50000):
  Calls prog 308 #[ptr c] w (zx own w c n p (a.jZ n).1 (.tuple #[.int .i64 (a.jZ n).2.1,.bool (a.jZ n).2.2.1,.int .i64 (a.jZ n).2.2.2])):=by
 obtain⟨R,hR⟩:=qqe (a.jZ n);rw[<-hR];unfold CaS.jZ at hR;have HA:=qqh (RG h);obtain⟨-,-,-,-,-,cS,-,-,-⟩:=h.cells;have H:=Y3 hf hR h.nx1;clear h hf hR;go_enter func308,ntmps308
 go_wp2_with fail
 refine HA.o.mono ?_;rintro e w1 ⟨rfl,own1,h1,d1⟩;have hR:=H.o.2.1;have hf:=H.o.1.al;have hnx:1<=a.al.next:=H.o.2.2;generalize allocVal a.st=av at*;generalize allocCode a.st=ac at*;generalize a.al=b at*;clear HA cS H;by_cases hc:ac=0
 .subst hc;rw[if_pos rfl]at hR;unfold CaS.ko at hR;have HC:=qqh (zx.from d1 (uG h1 hf oM));generalize hrr:CaS.jV n b=r at*;obtain⟨bR,cdR⟩:=r;simp only at hR HC;have HX:=qqh hR;clear h1 d1 hR hf hrr;go_wp2_with fail
  refine HC.o.mono ?_;rintro e w21 ⟨rfl,own21,h21,d21⟩;have hR:=HX.o;clear HC;by_cases hc:cdR=0
  .subst hc;rw[if_pos rfl]at hR;have HY:=Y3 h21 d21 hR;clear h21 d21 hR;go_wp2
   go_ret3
   rw[HY.o.2.2];exact⟨rfl,own21,HY.o.1,HY.o.2.1⟩
  .have q9:(cdR==0)=false:=by simpa using hc
   rw[if_neg hc]at hR;have HT:=qqh (zx.from d21 (yX h21 av 3));obtain⟨-,-,-,-,-,cS,-,-,-⟩:=h21.cells;have HY:=qqh hR;clear h21 d21 hR hc;go_wp2_with fail
   refine HT.o.mono ?_;rintro e w22 ⟨rfl,own22,h22,d22⟩;have HZ:=Y2 h22 d22;clear h22 d22 HT cS;go_wp2
   go_ret3
   rw[HY.o];exact⟨rfl,own22,HZ.o.1,HZ.o.2⟩
 .have q0:(ac==0)=false:=by simpa using hc
  rw[if_neg hc]at hR;unfold CaS.take1 at hR;have HC:=qqh (zx.from d1 (qZ h1 3));obtain⟨-,-,-,-,-,cS,-,-,-⟩:=h1.cells;have H:=Y3 hf hR hnx;clear h1 d1 hf hR hc hnx;go_wp2_with fail
  refine HC.o.mono ?_;rintro e w2 ⟨rfl,own2,h2,d2⟩;have hR:=H.o.2.1;clear HC cS;obtain⟨st,hst⟩:=qqe ((pos b.st 3).length);rw[<-hst]at hR⊢;by_cases hc:st=0
  .rw [if_pos hc]at hR;have q1:((st:Int)==0)=true:=by simpa using hc
   have HE:=qqh (zx.from d2 (RF h2 H.o.1 1 oM oM));have hfe:=CaS.Fit.j6 (n:=n) 1 0 H.o.1 H.o.2.2;generalize CaS.j6 n 1 0 b=r at*;obtain⟨b2,g2,cd2⟩:=r;simp only at hR hfe HE;have HX:=Y2 hfe hR;clear h2 d2 hR hfe hst hc H;go_wp2_with fail
   refine HE.o.mono ?_;rintro e w3 ⟨rfl,own3,h3,d3⟩;have hR:=HX.o.2;clear HE;by_cases hc:cd2=0
   rotate_left
   .have q0:(cd2==0)=false:=by simpa using hc
    rw[if_pos hc]at hR;have HY:=Y3 h3 d3 hR;clear h3 d3 hR;go_wp2
    go_ret3
    rw[HY.o.2.2];exact⟨rfl,own3,HY.o.1,HY.o.2.1⟩
   subst hc;rw[if_neg oe]at hR;have hf:=HX.o.1;unfold CaS.kt at hR;have HC:=qqh (zx.from d3 (qZ h3 3));obtain⟨-,-,-,-,-,cS,-,-,-⟩:=h3.cells;have H:=Y2 hf hR;clear h3 d3 hf hR HX;go_wp2_with fail
   refine HC.o.mono ?_;rintro e w4 ⟨rfl,own4,h4,d4⟩;have hR:=H.o.2;clear HC cS;obtain⟨st2,hst⟩:∃st,st=(pos b2.st 3).length:=⟨_,rfl⟩
   rw[<-hst]at hR⊢;by_cases hc:st2=0
   .rw [if_pos hc]at hR;have q9:((st2:Int)==0)=true:=by simpa using hc
    have HY:=Y3 h4 d4 hR;clear h4 d4 hR hst hc;go_wp2
    go_ret3
    rw[HY.o.2.2];exact⟨rfl,own4,HY.o.1,HY.o.2.1⟩
   rw[if_neg hc]at hR;have q9:((st2:Int)==0)=false:=by simpa using hc
   clear hst;unfold CaS.take3 at hR;have hwl:=h4.wl;have hf0:=H.o.1;have HC:=qqh (zx.from d4 (vR h4 hf0.w1 (by have:=hf0.dO;omega)));have hf:=hf0.jX (n:=n) hwl;generalize CaS.jX n b2=r at*;obtain⟨b3,cd3⟩:=r;simp only at hR HC hf;have HX:=Y2 hf hR;clear h4 d4 hR hf hf0 hwl H;go_wp2_with fail
   refine HC.o.mono ?_;rintro e w5 ⟨rfl,own5,h5,d5⟩;have hR:=HX.o.2;clear HC;by_cases hc:cd3=0
   rotate_left
   .have q9:(cd3==0)=false:=by simpa using hc
    rw[if_pos hc]at hR;have HY:=Y3 h5 d5 hR;clear h5 d5 hR;go_wp2
    go_ret3
    rw[HY.o.2.2];exact⟨rfl,own5,HY.o.1,HY.o.2.1⟩
   subst hc;rw[if_neg oe]at hR;have HA:=qqh (zx.from d5 (RG h5));obtain⟨-,-,-,-,-,cS,-,-,-⟩:=h5.cells;have HY:=qqh hR;clear h5 d5 hR;go_wp2_with fail
   refine HA.o.mono ?_;rintro e w6 ⟨rfl,own6,h6,d6⟩;have hR:=HY.o;have hf:=HX.o.1.al;generalize allocVal b3.st=av2 at*;generalize allocCode b3.st=ac2 at*;generalize b3.al=b4 at*;clear HA cS HX HY;by_cases hc:ac2=0
   rotate_left
   .have q9:(ac2==0)=false:=by simpa using hc
    rw[if_pos hc]at hR;have HY:=Y3 h6 d6 hR;clear h6 d6 hR;go_wp2
    go_ret3
    rw[HY.o.2.2];exact⟨rfl,own6,HY.o.1,HY.o.2.1⟩
   subst hc;rw[if_neg oe]at hR;unfold CaS.ko at hR;have HC:=qqh (zx.from d6 (uG h6 hf oM));generalize hrr:CaS.jV n b4=r at*;obtain⟨bR,cdR⟩:=r;simp only at hR HC;have HX:=qqh hR;clear h6 d6 hR hf hrr;go_wp2_with fail
   refine HC.o.mono ?_;rintro e w26 ⟨rfl,own26,h26,d26⟩;have hR:=HX.o;clear HC;by_cases hc:cdR=0
   .subst hc;rw[if_pos rfl]at hR;have HY:=Y3 h26 d26 hR;clear h26 d26 hR;go_wp2
    go_ret3
    rw[HY.o.2.2];exact⟨rfl,own26,HY.o.1,HY.o.2.1⟩
   .have q9:(cdR==0)=false:=by simpa using hc
    rw[if_neg hc]at hR;have HT:=qqh (zx.from d26 (yX h26 av2 3));obtain⟨-,-,-,-,-,cS,-,-,-⟩:=h26.cells;have HY:=qqh hR;clear h26 d26 hR hc;go_wp2_with fail
    refine HT.o.mono ?_;rintro e w27 ⟨rfl,own27,h27,d27⟩;have HZ:=Y2 h27 d27;clear h27 d27 HT cS;go_wp2
    go_ret3
    rw[HY.o];exact⟨rfl,own27,HZ.o.1,HZ.o.2⟩
  .rw [if_neg hc]at hR;have q1:((st:Int)==0)=false:=by simpa using hc
   unfold CaS.kt at hR;have HC:=qqh (zx.from d2 (qZ h2 3));obtain⟨-,-,-,-,-,cS,-,-,-⟩:=h2.cells;rw[<-hst]at hR HC;have H:=Y2 H.o.1 hR;clear h2 d2 hR hst;have hcc:=qqh hc;clear hc;go_wp2_with fail
   refine HC.o.mono ?_;rintro e w4 ⟨rfl,own4,h4,d4⟩;have hR:=H.o.2;have hc:=hcc.out;clear HC cS;obtain⟨b2,hb2⟩:=qqe (b);rw[if_neg hc]at hR;subst hb2;unfold CaS.take3 at hR;have hwl:=h4.wl;have hf0:=H.o.1;have HC:=qqh (zx.from d4 (vR h4 hf0.w1 (by have:=hf0.dO;omega)));have hf:=hf0.jX (n:=n) hwl;generalize CaS.jX n b2=r at*;obtain⟨b3,cd3⟩:=r;simp only at hR HC hf;have HX:=Y2 hf hR;clear h4 d4 hR hf hf0 hwl H;go_wp2_with fail
   refine HC.o.mono ?_;rintro e w5 ⟨rfl,own5,h5,d5⟩;have hR:=HX.o.2;clear HC;by_cases hc:cd3=0
   rotate_left
   .have q9:(cd3==0)=false:=by simpa using hc
    rw[if_pos hc]at hR;have HY:=Y3 h5 d5 hR;clear h5 d5 hR;go_wp2
    go_ret3
    rw[HY.o.2.2];exact⟨rfl,own5,HY.o.1,HY.o.2.1⟩
   subst hc;rw[if_neg oe]at hR;have HA:=qqh (zx.from d5 (RG h5));obtain⟨-,-,-,-,-,cS,-,-,-⟩:=h5.cells;have HY:=qqh hR;clear h5 d5 hR;go_wp2_with fail
   refine HA.o.mono ?_;rintro e w6 ⟨rfl,own6,h6,d6⟩;have hR:=HY.o;have hf:=HX.o.1.al;generalize allocVal b3.st=av2 at*;generalize allocCode b3.st=ac2 at*;generalize b3.al=b4 at*;clear HA cS HX HY;by_cases hc:ac2=0
   rotate_left
   .have q9:(ac2==0)=false:=by simpa using hc
    rw[if_pos hc]at hR;have HY:=Y3 h6 d6 hR;clear h6 d6 hR;go_wp2
    go_ret3
    rw[HY.o.2.2];exact⟨rfl,own6,HY.o.1,HY.o.2.1⟩
   subst hc;rw[if_neg oe]at hR;unfold CaS.ko at hR;have HC:=qqh (zx.from d6 (uG h6 hf oM));generalize hrr:CaS.jV n b4=r at*;obtain⟨bR,cdR⟩:=r;simp only at hR HC;have HX:=qqh hR;clear h6 d6 hR hf hrr;go_wp2_with fail
   refine HC.o.mono ?_;rintro e w26 ⟨rfl,own26,h26,d26⟩;have hR:=HX.o;clear HC;by_cases hc:cdR=0
   .subst hc;rw[if_pos rfl]at hR;have HY:=Y3 h26 d26 hR;clear h26 d26 hR;go_wp2
    go_ret3
    rw[HY.o.2.2];exact⟨rfl,own26,HY.o.1,HY.o.2.1⟩
   .have q9:(cdR==0)=false:=by simpa using hc
    rw[if_neg hc]at hR;have HT:=qqh (zx.from d26 (yX h26 av2 3));obtain⟨-,-,-,-,-,cS,-,-,-⟩:=h26.cells;have HY:=qqh hR;clear h26 d26 hR hc;go_wp2_with fail
    refine HT.o.mono ?_;rintro e w27 ⟨rfl,own27,h27,d27⟩;have HZ:=Y2 h27 d27;clear h27 d27 HT cS;go_wp2
    go_ret3
    rw[HY.o];exact⟨rfl,own27,HZ.o.1,HZ.o.2⟩
end
theorem xh{α:Type}(l:List α)(i j:Nat)(x d:α):(l.set i x).getD j d=if i=j/\i<l.length then x else l.getD j d:=by
 simp only[qyf,qyo];by_cases h:i=j
 .subst h;by_cases hi:i<l.length
  .simp [hi]
  .simp [hi]
 .simp [h]
abbrev plc(ps:List (Int×Bool))(k:Nat):Int×Bool:=ps.getD k (-1,false)
theorem wY{ps:List (Int×Bool)}{k:Nat}(h:k<ps.length):plc ps k=ps[k]:=by simp[plc,h]
structure TieL(bl sl:Nat)(ps:List (Int×Bool))(st:List Int)(K:List Int)(o:Option Nat):Prop where
 hpl:ps.length=bl
 hsl:st.length=sl
 good:Good ps sl
 live:∀k,k<bl->plc ps k≠(-1,false)->st.getD (plc ps k).1.toNat 0=2
 used:∀s,s<sl->st.getD s 0=2->∃k,k<bl/\(plc ps k).1=(s:Int)
 opn:∀s,s<sl->(st.getD s 0=1↔o=some s)
 rng:∀s,s<sl->0<=st.getD s 0/\st.getD s 0<=4
 olt:∀s,o=some s->s<sl
 kk:∀k:Int,k∈K↔getC ps k=0
 kd:K.Nodup
theorem vv{l:List Int}{s:Nat}{t:Int}(hs:s<l.length)(ht:stateB t=true)(hm:mayB (l.getD s 0) t=true):turnCode l (s:Int) t=0/\turnList l (s:Int) t=l.set s t:=by
 have h:turnCode l (s:Int) t=0:=by
  unfold turnCode;rw[if_neg oM,if_neg (by rw[ht];decide),qxt,if_neg (by rw[hm];decide)]
 exact⟨h,by unfold turnList;rw[if_pos h,qxt]⟩
theorem yw{ps:List (Int×Bool)}{k:Int}:getC ps k=0↔∃m:Nat,m<ps.length/\k=(m:Int)/\plc ps m≠(-1,false):=by
 unfold getC;constructor
 .intro h;split at h
  .cases h
  .next hr=>
   split at h
   .cases h
   .next hn=>exact⟨k.toNat,oM,oM,hn⟩
 .rintro ⟨m,h1,rfl,h2⟩;rw[if_neg oM,if_neg (by rw[qxt];exact h2)]
theorem qe{ps:List (Int×Bool)}{m:Nat}(h:m<ps.length)(hn:plc ps m≠(-1,false)):getV ps (m:Int)=plc ps m:=by
 unfold getV;rw[if_neg oM,qxt,if_neg hn]
section
variable{bl sl:Nat}{ps:List (Int×Bool)}{st K:List Int}{o:Option Nat}
theorem TieL.slot(h:TieL bl sl ps st K o){k:Nat}(hk:k<bl)(hn:plc ps k≠(-1,false)):∃s:Nat,s<sl/\(plc ps k).1=(s:Int)/\st.getD s 0=2:=by
 have hl:k<ps.length:=by rw[h.hpl];exact hk
 have h1:=(h.good.each k hl).resolve_left (by rw[<-wY hl];exact hn);rw[<-wY hl]at h1;have h2:=h.live k hk hn;exact⟨(plc ps k).1.toNat,oM,oM,h2⟩
theorem TieL.inj(h:TieL bl sl ps st K o){i j:Nat}(hi:i<bl)(hj:j<bl)(h0:0<=(plc ps i).1)(he:(plc ps i).1=(plc ps j).1):i=j:=by
 have h1:i<ps.length:=by rw[h.hpl];exact hi
 have h2:j<ps.length:=by rw[h.hpl];exact hj
 rw[wY h1]at h0 he;rw[wY h2]at he;exact h.good.inj i j h1 h2 h0 he
theorem WG(pre:List Nat):∀(l:List Int),pre.Nodup->(∀k∈pre,k<l.length/\l.getD k 0=3)->∀s,(freeTo l pre).getD s 0=if s∈pre then 0 else l.getD s 0:=by
 induction pre with
 |nil=>intro l _ _ s;simp[freeTo]
 |cons x pre ih=>
  intro l hd h s;obtain⟨hx,h3⟩:=h x oe;have ht:=(vv (t:=0) hx de (by rw[h3];decide)).2;have e:freeTo l (x::pre)=freeTo (l.set x 0) pre:=by simp only[freeTo,List.foldl_cons,ht]
  rw[qzw]at hd;rw[e,ih (l.set x 0) hd.2 (fun k hk=>by
   obtain⟨h1,h2⟩:=h k (by simp[hk]);refine⟨by simpa using h1,?_⟩;rw[xh,if_neg (fun(e:x=k/\x<l.length)=>hd.1 (e.1▸hk))];exact h2) s,xh]
  by_cases hsx:x=s
  .subst hsx;rw[if_neg hd.1,if_pos ⟨rfl,hx⟩,if_pos oe]
  .rw [if_neg (fun(e:x=s/\x<l.length)=>hsx e.1)];have:s≠x:=fun e=>hsx e.symm;by_cases hs:s∈pre
   .rw [if_pos hs,if_pos (by simp[hs])]
   .rw [if_neg hs,if_neg (by simp[hs,this])]
theorem ZM{l:List Int}{x:Int}{s:Nat}:s∈pos l x↔s<l.length/\l.getD s 0=x:=by
 simp[pos,xx,List.getD_eq_getElem?_getD]
theorem TD(l:List Int)(x:Int):(pos l x).Nodup:=List.nodup_range.filter _
theorem TE(l:List Int)(s:Nat)(hs:s<l.length):(freeTo l (pos l 3)).getD s 0=if l.getD s 0=3 then 0 else l.getD s 0:=by
 rw[WG _ _ (TD l 3) (fun k hk=>ZM.1 hk) s];by_cases h:l.getD s 0=3
 .rw [if_pos (ZM.2 ⟨hs,h⟩),if_pos h]
 .rw [if_neg (fun e=>h (ZM.1 e).2),if_neg h]
theorem TieL.freed(h:TieL bl sl ps st K o):TieL bl sl ps (freeTo st (pos st 3)) K o:=by
 have hg:∀s,s<sl->(freeTo st (pos st 3)).getD s 0=if st.getD s 0=3 then 0 else st.getD s 0:=fun s hs=>TE st s jE
 exact{h with
  hsl:=by rw[qQ];exact h.hsl
  live:=fun k hk hn=>by
   obtain⟨s,hs,he,h2⟩:=h.slot hk hn;rw[he,qxt,hg s hs,h2];decide
  used:=fun s hs h2=>by
   rw[hg s hs]at h2;split at h2
   .cases h2
   .exact h.used s hs h2
  opn:=fun s hs=>by
   rw[hg s hs,<-h.opn s hs];split
   .next e=>rw[e];decide
   .rfl
  rng:=fun s hs=>by
   rw[hg s hs];split
   .decide
   .exact h.rng s hs}
theorem TieL.turned(h:TieL bl sl ps st K o){s:Nat}{t:Int}{o':Option Nat}(hs:s<sl)(h2:st.getD s 0≠2)(ht2:t≠2)(ht:0<=t/\t<=4)(ho:∀r,r<sl->(if r=s then t=1 else o=some r)=(o'=some r))(ho':∀r,o'=some r->r<sl):TieL bl sl ps (st.set s t) K o':=by
 have hl:s<st.length:=by rw[h.hsl];exact hs
 have hg:∀r,(st.set s t).getD r 0=if r=s then t else st.getD r 0:=fun r=>by
  rw[xh];by_cases e:s=r
  .subst e;rw[if_pos ⟨rfl,hl⟩,if_pos rfl]
  .rw [if_neg (fun x=>e x.1),if_neg (fun x=>e x.symm)]
 exact{h with
  hsl:=by rw[qze];exact h.hsl
  live:=fun k hk hn=>by
   obtain⟨r,hr,he,h3⟩:=h.slot hk hn;rw[he,qxt,hg r,if_neg (fun(e:r=s)=>h2 (by rw[<-e];exact h3))];exact h3
  used:=fun r hr h3=>by
   rw[hg r]at h3;split at h3
   .exact absurd h3 ht2
   .exact h.used r hr h3
  opn:=fun r hr=>by
   rw[hg r,<-ho r hr];split
   .exact Iff.rfl
   .exact h.opn r hr
  rng:=fun r hr=>by
   rw[hg r];split
   .exact ht
   .exact h.rng r hr
  olt:=ho'}
theorem TF{t:Int}(h:t=2\/t=3\/t=4):mayB 1 t=true:=by rcases h with rfl|rfl|rfl<;>decide
theorem TieL.shut{s:Nat}(h:TieL bl sl ps st K (some s)){t:Int}(ht:t=3\/t=4):turnCode st (s:Int) t=0/\TieL bl sl ps (turnList st (s:Int) t) K none:=by
 have hs:=h.olt s rfl;have h1:=(h.opn s hs).2 rfl;obtain⟨hc,hl⟩:=vv (l:=st) (s:=s) (t:=t) jE jt (by rw[h1];exact TF (.inr ht));refine⟨hc,?_⟩;rw[hl];refine h.turned hs (by rw[h1];decide) jt jt (fun r hr=>?_) (fun r hr=>by cases hr);split
 .rcases ht with rfl|rfl<;>simp
 .next e=>simp;exact fun e2=>e e2.symm
theorem Xq{l:List Int}(h:free l<l.length):l.getD (free l) 0=0:=by
 unfold free at h⊢;have:=List.findIdx_getElem (p:=(·==0)) (xs:=l) (w:=h);simp only[qyf,qyj h,Option.getD_some];simpa using this
theorem TieL.alloc(h:TieL bl sl ps st K none)(hc:allocCode st=0):∃s:Nat,s<sl/\allocVal st=(s:Int)/\st.getD s 0=0/\TieL bl sl ps (allocList st) K (some s):=by
 unfold allocCode at hc;split at hc
 .next hf=>
  have hs:free st<sl:=by rw[<-h.hsl];exact hf
  refine⟨free st,hs,by unfold allocVal;rw[if_pos hf],Xq hf,?_⟩;refine h.turned hs (by rw[Xq hf];decide) de de (fun r hr=>?_) (fun r hr=>by cases hr;exact hs);split
  .next e=>subst e;simp
  .next e=>simp;exact fun e2=>e e2.symm
 .cases hc
theorem rf{st:List Int}(hc:allocCode st≠0):allocList st=st:=by
 unfold allocCode at hc;split at hc
 .exact absurd rfl hc
 .next h=>exact List.set_eq_of_length_le oM
theorem ZN(ps:List (Int×Bool))(k j:Nat)(x:Int×Bool)(hk:k<ps.length):plc (ps.set k x) j=if j=k then x else plc ps j:=by
 rw[plc,xh];by_cases e:k=j
 .subst e;rw[if_pos ⟨rfl,hk⟩,if_pos rfl]
 .rw [if_neg (fun x=>e x.1),if_neg (fun x=>e x.symm)]
theorem TieL.left(h:TieL bl sl ps st K o){k:Int}(hg:getC ps k=0){K':List Int}(hd:K'.Nodup)(hK:∀x,x∈K'↔x∈K/\x≠k):
  turnCode st (getV ps k).1 3=0/\TieL bl sl (dropL ps k) (turnList st (getV ps k).1 3) K' o:=by
 obtain⟨m,hm,rfl,hn⟩:=yw.1 hg;have hmb:m<bl:=by rw[<-h.hpl];exact hm
 obtain⟨s,hs,he,h2⟩:=h.slot hmb hn;rw[qe hm hn,he];obtain⟨hc,hl⟩:=vv (l:=st) (s:=s) (t:=3) jE de (by rw[h2];decide);refine⟨hc,?_⟩;have hp:dropL ps (m:Int)=ps.set m (-1,false):=by unfold dropL;rw[if_pos hg,qxt]
 rw[hl,hp];have hsl:s<st.length:=by rw[h.hsl];exact hs
 have hgs:∀r,(st.set s 3).getD r 0=if r=s then 3 else st.getD r 0:=fun r=>by
  rw[xh];by_cases e:s=r
  .subst e;rw[if_pos ⟨rfl,hsl⟩,if_pos rfl]
  .rw [if_neg (fun x=>e x.1),if_neg (fun x=>e x.symm)]
 have hgp:=fun j=>ZN ps m j (-1,false) hm;exact{
  hpl:=by rw[qze];exact h.hpl
  hsl:=by rw[qze];exact h.hsl
  good:=h.good.drop m
  live:=fun j hj hjn=>by
   rw[hgp j]at hjn⊢;by_cases e:j=m
   .rw [if_pos e]at hjn;exact absurd rfl hjn
   .rw [if_neg e]at hjn⊢;obtain⟨r,hr,her,hr2⟩:=h.slot hj hjn;rw[her,qxt,hgs r,if_neg (fun e2=>e (h.inj hj hmb (by rw[her];omega) (by rw[her,he,e2])))];exact hr2
  used:=fun r hr h3=>by
   rw[hgs r]at h3;by_cases e:r=s
   .rw [if_pos e]at h3;cases h3
   .rw [if_neg e]at h3;obtain⟨j,hj,hjr⟩:=h.used r hr h3;refine⟨j,hj,?_⟩;rw[hgp j,if_neg (fun e2=>e ?_)]
    .exact hjr
    .subst e2;rw[he]at hjr;exact(Int.ofNat.inj hjr).symm
  opn:=fun r hr=>by
   rw[hgs r,<-h.opn r hr];by_cases e:r=s
   .rw [if_pos e,e,h2];decide
   .rw [if_neg e]
  rng:=fun r hr=>by
   rw[hgs r];split
   .decide
   .exact h.rng r hr
  olt:=h.olt
  kk:=fun x=>by
   rw[hK,h.kk,yw,yw];constructor
   .rintro ⟨⟨j,hj,rfl,hjn⟩,hne⟩;refine⟨j,by rw[qze];exact hj,rfl,?_⟩;rw[hgp j,if_neg (fun e=>hne (by rw[e]))];exact hjn
   .rintro ⟨j,hj,rfl,hjn⟩;rw[hgp j]at hjn;rw[qze]at hj;by_cases e:j=m
    .rw [if_pos e]at hjn;exact absurd rfl hjn
    .rw [if_neg e]at hjn;exact⟨⟨j,hj,rfl,hjn⟩,fun e2=>e oM⟩
  kd:=hd}
theorem TieL.room{s:Nat}(h:TieL bl sl ps st K (some s)):K.length<sl:=by
 have hs:=h.olt s rfl;have h1:=(h.opn s hs).2 rfl;have hmap:∀x∈K,∃r:Nat,r<sl/\(getV ps x).1=(r:Int)/\r≠s/\∃m:Nat,m<ps.length/\x=(m:Int)/\plc ps m≠(-1,false):=by
  intro x hx;obtain⟨m,hm,rfl,hn⟩:=yw.1 ((h.kk x).1 hx);obtain⟨r,hr,he,h2⟩:=h.slot (by rw[<-h.hpl];exact hm) hn;exact⟨r,hr,by rw[qe hm hn];exact he,(fun(e:r=s)=>by rw[e,h1]at h2;cases h2),m,hm,rfl,hn⟩
 have hnd:(s::K.map (fun x=>(getV ps x).1.toNat)).Nodup:=by
  rw[qzw];constructor
  .intro hm;obtain⟨x,hx,e⟩:=qzq.1 hm;obtain⟨r,hr,he,hne,-⟩:=hmap x hx;rw[he,qxt]at e;exact hne e
  .have hd:=h.kd;clear hs h1;have key:∀L:List Int,L.Nodup->(∀x∈L,x∈K)->(L.map (fun x=>(getV ps x).1.toNat)).Nodup:=by
    intro L
    induction L with
    |nil=>intro _ _;exact qzx
    |cons x L ih=>
     intro hL hK;rw[qzw]at hL;rw[qzh,qzw];refine⟨fun hm=>?_,ih hL.2 (fun y hy=>hK y (by simp[hy]))⟩;obtain⟨y,hy,e⟩:=qzq.1 hm;obtain⟨r,hr,he,-,m,hm',rfl,hn⟩:=hmap x (hK x oe);obtain⟨r2,hr2,he2,-,m2,hm2,rfl,hn2⟩:=hmap y (hK y (by simp[hy]));rw[he,he2,qxt,qxt]at e;rw[qe hm' hn]at he;rw[qe hm2 hn2]at he2;have:=h.inj (i:=m) (j:=m2) (by rw[<-h.hpl];exact hm') (by rw[<-h.hpl];exact hm2) (by rw[he];omega) (by rw[he,he2,e]);exact hL.1 (by rw[this];exact hy)
   exact key K hd (fun x hx=>hx)
 have:=xX sl _ hnd (fun r hr=>by
  rcases qzm.1 hr with rfl|hr
  .exact hs
  .obtain ⟨x,hx,rfl⟩:=qzq.1 hr;obtain⟨r,hr,he,-⟩:=hmap x hx;rw[he,qxt];exact hr)
 simp at this;omega
end
end Go.Proofs.YtpejdgiccaijfaaGreatDoor
