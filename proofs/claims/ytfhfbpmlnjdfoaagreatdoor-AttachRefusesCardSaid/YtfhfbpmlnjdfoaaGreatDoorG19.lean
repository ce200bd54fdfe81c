/- A cache: Check -/
import Derived.Test.YtfhfbpmlnjdfoaaGreatDoorG18
set_option maxRecDepth 100000
set_option maxHeartbeats 4000000
namespace Go.Proofs.YtfhfbpmlnjdfoaaGreatDoor
open Go Go.RowKit Go.Shelf Tryz
attribute [local go_sem] qYh
def CaS.ent(a:CaS)(x:It9):Ent:=⟨x.1,x.2.1.toNat,x.2.2,(a.sums x.1).getD 0⟩
def CaS.ents(n:CaN)(a:CaS):List Ent:=(vis (spanL a.ps 0 n.bl) 0).map a.ent
def CaS.fd(a:CaS):CaS:=a.dev (flushR a.dF a.dO a.dP)
def CaS.svR(n:CaN)(a:CaS):DRes:=saveR a.dF a.dO a.dP (ckO (1+(1-a.which)*n.pa) n.pa (pagesB (a.next-1) (a.ents n)))
def CaS.ckd(n:CaN)(a:CaS):CaS:={a.dev (a.svR n)with which:=1-a.which,cov:=a.next-1,W:=[],st:=freeTo a.st (pos a.st 3)}
def CaS.ckpt(n:CaN)(a:CaS):CaS×Int:=
 if(flushR a.bF a.bO a.bP).cd≠0 then(a.fb,(flushR a.bF a.bO a.bP).cd)
 else if(flushR a.fb.dF a.fb.dO a.fb.dP).cd≠0 then(a.fb.fd,(flushR a.fb.dF a.fb.dO a.fb.dP).cd)
 else if(a.fb.fd.svR n).cd≠0 then(a.fb.fd.dev (a.fb.fd.svR n),(a.fb.fd.svR n).cd)else(a.fb.fd.ckd n,0)
theorem xY(F:List Bk)(O:List (Nat×Bk))(P:List Int):(flushR F O P).O.length<=O.length:=by
 unfold flushR;repeat' split
 all_goals simp
theorem RF{qs:List (Int×Bool)}{fr:Nat}{x:It9}(h:x∈vis qs fr):∃k,∃hk:k<qs.length,x=(fr+k,qs[k])/\qs[k]≠(-1,false):=by
 have:∀m,m<=qs.length->x∈visTo qs fr m->∃k,∃hk:k<qs.length,x=(fr+k,qs[k])/\qs[k]≠(-1,false):=by
  intro m
  induction m with
  |zero=>intro _ h;cases h
  |succ m ih=>
   intro hm h;by_cases hq:qs[m]=(-1,false)
   .rw [vZ oM hq]at h;exact ih oM h
   .rw [tp oM hq]at h;rcases qzq.1 h with h|h
    .exact ih oM h
    .simp at h;exact⟨m,oM,h,hq⟩
 exact this _ (qXv _) h
theorem xx:∀(n:Nat) (l:List Nat),l.Nodup->(∀x∈l,x<n)->l.length<=n
 |0,l,_,h=>by
  cases l with
  |nil=>exact qXv _
  |cons x l=>exact absurd (h x oe) oM
 |n+1,l,hd,h=>by
  by_cases hn:n∈l
  .have h1:=xx n (l.erase n) (hd.erase n) (fun x hx=>by
    have h2:=(hd.mem_erase_iff).1 hx;have:=h x h2.2;have:=h2.1;omega)
   rw[List.length_erase_of_mem hn]at h1;omega
  .have h1:=xx n l hd (fun x hx=>by
    have:=h x hx;have:x≠n:=fun e=>hn (e▸hx);omega)
   omega
theorem zaq{ps:List (Int×Bool)}{slots:Nat}(h:Good ps slots)(m:Nat):(vis (spanL ps 0 m) 0).length<=slots:=by
 have hq:∀k (hk:k<(spanL ps 0 m).length),∃h:k<ps.length,(spanL ps 0 m)[k]=ps[k]:=fun k hk=>⟨by simp[spanL]at hk;omega,by simp[spanL]⟩
 have key:∀k,k<=(spanL ps 0 m).length->((visTo (spanL ps 0 m) 0 k).map (fun x=>x.2.1.toNat)).Nodup/\∀x∈visTo (spanL ps 0 m) 0 k,∃j,∃hj:j<ps.length,j<k/\x.2=ps[j]/\0<=ps[j].1/\ps[j].1<slots:=by
  intro k
  induction k with
  |zero=>exact fun _=>⟨qXc,fun x hx=>by cases hx⟩
  |succ k ih=>
   intro hk;obtain⟨h1,h2⟩:=ih oM;by_cases hb:(spanL ps 0 m)[k]=(-1,false)
   .rw [vZ oM hb];exact⟨h1,fun x hx=>by obtain⟨j,hj,h3,h4⟩:=h2 x hx;exact⟨j,hj,oM,h4⟩⟩
   .rw [tp oM hb];obtain⟨hk',e⟩:=hq k oM;have hgk:=(h.each k hk').resolve_left (by rw[<-e];exact hb);refine⟨?_,fun x hx=>?_⟩
    .rw [qzl,qXa];refine⟨h1,oe,?_⟩;intro u hu v hv huv;subst huv;obtain⟨x,hx,rfl⟩:=qzv.1 hu;obtain⟨j,hj,h3,h4,h5,h6⟩:=h2 x hx;simp only[qzm,qzo,qzy]at hv;rw[h4,e]at hv;have:=h.inj j k hj hk' h5 oM;omega
    .rcases qzq.1 hx with hx|hx
     .obtain ⟨j,hj,h3,h4⟩:=h2 x hx;exact⟨j,hj,oM,h4⟩
     .simp at hx;subst hx;exact⟨k,hk',oM,e,hgk⟩
 obtain⟨h1,h2⟩:=key _ (qXv _);have:=xx slots _ h1 (fun x hx=>by
  obtain⟨y,hy,rfl⟩:=qzv.1 hx;obtain⟨j,hj,-,h4,h5,h6⟩:=h2 y hy;rw[h4];omega)
 rwa[qzg]at this
section
variable{own own':Nat->Nat}{w w':World}{c:Nat}{n:CaN}{p:CaP}{a:CaS}
theorem RG(h:CaAt own w c n p a)(hO:a.dO.length<=50000)(seq wh:Nat)(hwh:wh<=1)(lo:Option Addr)(k lc:Nat)(E:List Ent)(hE:E.length=k)(hk:needN k<=n.pa)(hk1:k<=100000)
  (hbuild:∀W,Below w.heap.size w W->Calls prog 191 #[.int .i64 (seq:Int),.slice lo k lc] W (xw W seq E)):
  Calls prog 60 #[ptr p.ssd,.int .i64 1,.int .i64 (n.pa:Int),.int .i64 (wh:Int),.int .i64 (seq:Int),.slice lo k lc] w
   (zv own w c n p (a.dev (saveR a.dF a.dO a.dP (ckO (1+wh*n.pa) n.pa (pagesB seq E)))) (.int .i64 (saveR a.dF a.dO a.dP (ckO (1+wh*n.pa) n.pa (pagesB seq E))).cd)):=by
 have hz:=h.ok.z;have hs:=h.fl;have hs1:=h.ok.s1;have hp2:=h.ok.p2;unfold CaN.size at hz hs;exact(QG h.kT (fun _ h=> .inr h) 1 n.pa seq wh hwh lo k lc E hE hk hk1 oM oM hbuild).mono fun _ _ ⟨he,hd,hu⟩=>⟨he,_,h.kP hu hd (UX _ _ _ _),h.did2 hu⟩
def CkI(a:CaS)(wz:World)(lb:Nat){qs:List (Int×Bool)}(pre:List (ItM qs 0))(W:World):Prop:=
 Upd (fun j=>j=lb\/wz.heap.size<=j) wz W/\∃v,W.heap[lb]?=some (.cells #[v] 22 (0,0))/\Sl W 37 4 v pre.length ((pre.map (fun x=>a.ent x.1)).flatMap entC)/\From wz.heap.size v/\(pre=[]->v=.slice none 0 0)
theorem Sl.cellsAt{w:World}{e:TypeId}{k n:Nat}{v:Value}{xs:List Value}(h:Sl w e k v n xs){g:Nat}(hg:v.ownBlock=some g):∃cs t z,w.heap[g]?=some (.cells cs t z):=by
 obtain⟨-,⟨rfl,-⟩|⟨g',off,cap,cur,rfl,hg',-⟩⟩:=h
 .cases hg
 .cases hg;exact⟨_,_,_,hg'⟩
theorem Ei:(prog.info? 37).map (fun i=>(i.zero.map (·.cells.size),i.size,i.bytes))=some (some 4,4,32):=kR
theorem sD:∃i z,prog.info? 37=some i/\i.zero=some z/\z.cells.size=4/\i.size=4/\i.bytes=32:=by
 obtain⟨i,hi,hb⟩:=qYi.1 Ei;simp only[qYk]at hb;obtain⟨h1,h2,h3⟩:=hb;obtain⟨z,hz,hzs⟩:=qYi.1 h1;exact⟨i,z,hi,hz,hzs,h2,h3⟩
theorem ZY(h:CaAt own w c n p a)(hsm:∀k v,a.sums k=some v->v<=4294967295)(hdO:a.dO.length<=50000):
  Calls prog 80 #[ptr c] w (zv own w c n p (a.ckpt n).1 (.int .i64 (a.ckpt n).2)):=by
 obtain⟨w1,hw1⟩:=qqe (w.alloc (.cells #[ptr c] 62));have hu1:=qqu hw1;have h1:=h.new hu1;have hb1:Box own w1 w.heap.size (.cells #[ptr c] 62):=by rw[hw1];exact Box.made h.far _
 have d1:=h.ki hu1;have HH:=Y3 h hsm hdO;have hcl:=h.clt;obtain⟨-,c15,-⟩:=h.cells;have H1:=Y3 h1 hb1 d1;have HC:=qqh (xM h1);have hR:a.ckpt n=a.ckpt n:=rfl
 conv at hR=>rhs;unfold CaS.ckpt
 obtain⟨R,hRR⟩:=qqe (a.ckpt n);rw[<-hRR]at hR⊢;clear h hsm hdO h1 hb1 d1 hu1 hRR;generalize hcd:(flushR a.bF a.bO a.bP).cd=cd at*;replace hR:=qqh hR;refine(callsIn_wide (n:=3)).1 ?_;refine callsIn_of_wp_marks func80 rfl trivial ?_ rfl;simp only[ntmps80,qXm,qze,qzh,Nat.reduceAdd,Nat.reduceSub,qxi,qxj,qXg,qxz,qzz,qya];refine wpIn_wide.2 ?_;go_wp2_with fail
 rw[<-hw1];clear hw1 c15;refine HC.o.mono ?_;rintro e w2 ⟨rfl,own2,hca2,hd2⟩;replace hca2:CaAt own2 w2 c n p a.fb:=hca2;obtain⟨h1,hb1,d1⟩:=H1.o;have hb2:=hb1.did hd2;have c14:=hca2.cells.1;have cb:=za hb2.1 0;have H2:=Y3 hca2 hb2 (d1.trans hd2);have HC2:=qqh (uC hca2);clear hca2 hd2 hb2 h1 hb1 d1 HC H1 hcd;by_cases hc:cd=0
 rotate_left
 .have q0:(cd==0)=false:=by simpa using hc
  go_wp2_with fail
  obtain⟨h2,-,d2⟩:=H2.o;have hR':=hR.out;rw[if_pos hc]at hR';rw[hR'];clear cb c14 HC2 H2 hcl HH q0;exact⟨_,results_tmp rfl _ _ _,rfl,_,h2,d2⟩
 subst hc;replace hR:=hR.out;rw[if_neg oe]at hR;generalize (flushR a.fb.dF a.fb.dO a.fb.dP).cd=cd at*;replace hR:=qqh hR;go_wp2_with fail
 refine HC2.o.mono ?_;rintro e w3 ⟨rfl,own3,hca3,hd3⟩;replace hca3:CaAt own3 w3 c n p a.fb.fd:=hca3;obtain⟨h2,hb2,d2⟩:=H2.o;have hb3:=hb2.did hd3;have H3:=Y3 hca3 hb3 (d2.trans hd3);clear hca3 hd3 hb3 h2 hb2 d2 HC2 H2 c14 cb;by_cases hc:cd=0
 rotate_left
 .have q0:(cd==0)=false:=by simpa using hc
  go_wp2_with fail
  obtain⟨h2,-,d2⟩:=H3.o;have hR':=hR.out;rw[if_pos hc]at hR';rw[hR'];clear H3 hcl HH q0;exact⟨_,results_tmp rfl _ _ _,rfl,_,h2,d2⟩
 subst hc;replace hR:=hR.out;rw[if_neg oe]at hR;replace hR:=qqh hR;go_wp2_with fail
 obtain⟨h3,hb3,d3⟩:=H3.o;obtain⟨w4,hw4⟩:=qqe (w3.alloc (.cells #[.slice none 0 0] 22));have hu4:Upd (fun _=>False) w3 w4:=by rw[hw4];exact((uur _ w3).alloc _)
 have hud:Upd (fun _=>False) w4 w4.drew:=(uur _ w4).drew;have h4:=h3.new hu4;have hb4:=hb3.new hu4;have hl4:Box own3 w4 w3.heap.size (.cells #[.slice none 0 0] 22):=by rw[hw4];exact Box.made h3.far _
 have d4:=d3.trans (h3.ki hu4);obtain⟨lb,hlb⟩:=qqe (w3.heap.size);rw[<-hlb]at hl4;have HLB:=qqh (show w.heap.size<=lb by have:=d3.upd.size;omega);have H4:=Y4 (h4.new hud) (hb4.new hud) (hl4.new hud) (d4.trans (h4.ki hud));obtain⟨vi,mi,hix,hib,his⟩:=(h4.new hud).ix;have hpsl:=h4.pl;have hgd:=Y3 hix.good h4.ok.s2 h4.ok.b2;have hb1:=HH.o.1.ok.b1;have hA:=zao hix 0 n.bl (by rw[hpsl];omega);have HA:=qqh hA;obtain⟨-,-,-,-,c18,-⟩:=h4.cells;have s1:=h4.sup.2.1;have cb:=za hb4.1 0;rw[<-hw4,<-hlb];clear h3 hb3 d3 hu4 h4 hb4 hl4 d4 hix hib his hA hw4 hud hlb
 go_still_tail 10,kR
 change wpList _ _ _ _ _ w4.drew
 generalize w4.drew=w4d at*;clear c18 s1 cb;go_wp2_with fail
 refine HA.o.mono ?_;rintro e w5 ⟨Bs,Bp,g,off,cap,rfl,⟨hB1,hB2,hB3⟩,hBs,hBp,hg,hcs,hcp,hcl5,hb5⟩;go_wp2_with fail
 have hle:(spanL a.ps 0 n.bl).length<=4096:=by
  have:=HH.o.1.ok.b2;simp[spanL];omega
 have hps':a.fb.fd.ps=a.ps:=rfl;rw[hps']at hcs hcl5 hpsl hgd;have hgood:∀k (h:k<(spanL a.ps 0 n.bl).length),(spanL a.ps 0 n.bl)[k]=(-1,false)\/(0<=(spanL a.ps 0 n.bl)[k].1/\(spanL a.ps 0 n.bl)[k].1<n.sl):=by
  intro k hk;have:(spanL a.ps 0 n.bl)[k]=a.ps[k]'(by simp[spanL]at hk;omega):=by simp[spanL]
  rw[this];exact hgd.out.1.each k _
 have hsz5:=hb5.size;have hlb4:lb<w4d.heap.size:=zf H4.o.2.2.1.1;have hlo:own3 lb=0:=H4.o.2.2.1.2;have HU5:Hid (Upd (fun _=>False) w4d w5):=uuo hb5;have hvl:(vis (spanL a.ps 0 n.bl) 0).length<=4096:=qXx (Tw _ _ _) hle;obtain⟨qs,hqs⟩:=qqe (spanL a.ps 0 n.bl);rw[<-hqs]at hcs hcl5 hle hgood hvl;have hql:qs.length=n.bl:=by rw[hqs];simp[spanL];omega
 have HG:=Y4 hgood hgd.out.2 hql hqs;obtain⟨h4,hb4,-,d4⟩:=H4.o;have hne:∀j,(j=lb\/w5.heap.size<=j)->own3 j=0/\j≠0/\j≠1:=by
  intro j hj;have hn1:=h4.nib.lt;have hn2:=h4.tur.lt;have ho1:=h4.on;rcases hj with rfl|hj
  .refine ⟨hlo,fun e=>?_,fun e=>?_⟩
   .have h2:=za (H4.o.2.2.1.1) 0;rw[e]at h2;have:=h2.symm.trans (h4.nib.c 0 de);simp at this
   .have h2:=za (H4.o.2.2.1.1) 0;rw[e]at h2;have:=h2.symm.trans h4.tur.c0;simp at this
  .exact ⟨h4.far j oM,oM,oM⟩
 have hwb:w.heap.size≠lb:=by
  intro e;have:=hb4.1;rw[e]at this;have:=this.symm.trans H4.o.2.2.1.1;simp at this
 have HNE:=Y2 hne hwb;clear h4 hb4 d4 hne hwb;refine(wpIn_wide (n:=4)).1 ?_
 refine' wpIn_rangeFunc_ownH rfl oM (gf:=217) (lb:= #[.pointer (some ⟨Bs,0,none⟩),.pointer (some ⟨Bp,0,none⟩)]) rfl trivial (enters_of func217 kR rfl)
  (Ty _ oM (fun j=>j=lb\/w5.heap.size<=j) Bs Bp g off cap qs 0 w5 hle oM (fun k hk=>(hgood k hk).imp id And.left) hg hBp hBs oM oM hcs hcp hcl5) uR (fun W l o o' hl=>wN (M:=w5.heap.size) (fun j h=> .inr h) W l o o' hl) (qxl _ _) (fun _=>rfl)
  (CkI a w5 lb)
  (fun _ _ _=>False)
  (fun pre X Y row hs hg hr=>by
   obtain⟨hu,v,hv,hs,hf,hn⟩:=hs;exact⟨xt hu hg (fun r e=> .inr (hr r e).1),v,(grownBy_keeps_cells hg (fun r e=>(hr r e).2) hv rfl).trans hv,
    hs.keep (Upd.kB (S:=fun j=>row=some j) hg (fun g e _=>e)) (fun g hgv e=>by
     obtain⟨o,ho,hc⟩:=(hr g e).2;obtain⟨cs,t,z,hcs⟩:=hs.cellsAt hgv;rw[hcs]at ho;cases ho;cases hc),hf,hn⟩)
  (fun _ _ _ _ _ hs _ _=>hs)
  ⟨uur _ _,_,HU5.o.j6 H4.o.2.2.1.1,Sl.nil _ _ _,From.nil _ _ _,fun _=>rfl⟩
  (fun x a' W=>∃pb,a'=(_:ItM qs 0->Nat->Act) x pb/\Ae x.1 pb W)
  (fun x a'=>fun s X Y row hs hg hr=>by obtain⟨pb,e,hp⟩:=hs;exact⟨pb,e,Tz _ x.1 pb () X Y row hp hg hr⟩)
  ?assign ?body ?done ?stop
 case assign=>
  rintro l pre x W K ⟨hu,v,hv,hs,hf,hn⟩ hK
  gi_wp2
  have hun:Upd (fun _=>False) W (W.alloc (.cells #[.int .i64 x.1.2.1,.bool x.1.2.2] 95)):=(uur _ _).alloc _;have hg0:=World.grownBy_alloc W (.cells #[.int .i64 x.1.2.1,.bool x.1.2.2] 95) none;refine hK _ _ (KeepsFrom.of_grownBy hg0 (fun j e=>by cases e)) (hun.mono fE) ⟨hu.trans (hun.mono fE),v,hun.j6 hv,hs.keep hun (fun _ _ h=>h),hf,hn⟩ ⟨W.heap.size,?_,zc W _ rfl⟩;generalize W.heap.size=pb;exact rfl
 case stop=>
  rintro D c pre W _ _ h _;exact h.elim
 case body=>
  rintro l pre ⟨⟨xn,xs,xd⟩,hx⟩ a' W hl _ ⟨hu,v,hv,hs,hf,-⟩ ⟨pb,rfl,hp⟩ hlt;have hxx:xn<4096/\0<=xs/\xs<n.sl:=by
   obtain⟨k,hk,e,hq⟩:=RF hx;simp only[qYk]at e;obtain⟨rfl,e2⟩:=e;have:=(HG.o.1 k hk).resolve_left hq;rw[<-e2]at this;exact⟨oM,this⟩
  obtain⟨hx1,hx2,hx3⟩:=hxx;obtain⟨h4,hb4,-,d4⟩:=H4.o;have hne:=HNE.o.1;have hwb:=HNE.o.2;have hpl:pb≠lb:=by
   intro e;have h2:W.heap[pb]?=_:=hp;rw[e]at h2;have:=h2.symm.trans hv;simp at this
  have hpv:∀g,v.ownBlock=some g->g≠pb:=by
   intro g hg e;obtain⟨-,⟨rfl,-⟩|⟨g',off,cap,cur,rfl,hg',-⟩⟩:=hs
   .cases hg
   .cases hg;replace e:g'=pb:=e;rw[e]at hg';have:=hg'.symm.trans (show W.heap[pb]?=_ from hp);simp at this
  have hlv:∀g,v.ownBlock=some g->g≠lb:=fun g hg e=>by have:=hf g hg;omega
  obtain⟨mm,hmm⟩:=qqe ((a.sums (xn:Int)).getD 0);have hMM:∀X,Upd (fun j=>j=lb\/w5.heap.size<=j) w4d X->X.cell? ⟨w.heap.size,0,none⟩=some (ptr c)/\X.cell? ⟨c,22,none⟩=some (.map (some p.sm))/\(Instr.lookup 116 (.map (some p.sm)) (.int .i64 (xn:Int)) false).run prog X=.ok (.int .i64 (mm:Int)) X:=by
   intro X hX;have hCA:=h4.kv hX hne;obtain⟨-,-,-,-,-,-,-,-,c22⟩:=hCA.cells;refine⟨za ((hX.block _ (zf hb4.1) (fun hs=>by
    rcases hs with hs|hs
    .exact hwb hs
    .have:=zf hb4.1;omega)).trans hb4.1) 0,c22,?_⟩
   rw[hmm];exact hCA.sm.1.look1 oM oM
  have hW4:Upd (fun j=>j=lb\/w5.heap.size<=j) w4d W:=(HU5.o.mono fE).trans hu;obtain⟨Wd,hWd⟩:=qqe (W.drew);have hud:Upd (fun _=>False) W Wd:=by rw[hWd];exact(uur _ W).drew
  have hUd:=hW4.trans (hud.mono (S':=fun j=>j=lb\/w5.heap.size<=j) (fun _ _ h=>h.elim));obtain⟨Wa,hWa⟩:=qqe (Wd.alloc (.cells #[.int .i64 (xn:Int),.int .i64 xs,.bool xd,.int .i64 (mm:Int)] 37));have hua:=qqu hWa;have hUa:=hUd.trans (hua.mono (S':=fun j=>j=lb\/w5.heap.size<=j) (fun _ _ h=>h.elim));have hga:=qqg hWa;obtain⟨i0,z0,hi,hz,hzs,hisz,hiby⟩:=sD;have hsA:=(hs.keep hud (fun _ _ h=>h)).keep hua (fun _ _ h=>h);have hpl4:pre.length<=4096:=oM;obtain⟨v',w',hrun,hs',hu',hbf⟩:=yl (P:=prog) (m:=1) (x':=.slice (some ⟨Wd.heap.size,0,none⟩) 1 1) (news:=[.int .i64 (xn:Int),.int .i64 xs,.bool xd,.int .i64 (mm:Int)]) 22 22 i0 z0 32 underlying22 hi hz hisz hiby hzs de hsA
   ⟨rfl,de,_,_,rfl,(fun h=>by cases h),fun b hb j u hj=>by cases hb;rw[qxa,za hga];simpa using hj⟩ jd (by simp only[maxLen];omega) oM
  obtain⟨ao',cc',hv'⟩:=hs'.rd.j7;subst hv';have hU':=hUa.trans (hu'.mono (S':=fun j=>j=lb\/w5.heap.size<=j) (fun j _ hj=> .inr (hf j hj)));obtain⟨w7,hw7⟩:=qqe (w'.setCell ⟨lb,0,none⟩ (.slice ao' (pre.length+1) cc'));have hus7:Upd (fun j=>j=lb) w' w7:=by rw[hw7];exact zj _ _ _ _
  have hU7:=hU'.trans (hus7.mono (S':=fun j=>j=lb\/w5.heap.size<=j) (fun j _ hj=> .inl hj));have gd:Wd.heap[pb]?=some (.cells #[.int .i64 xs,.bool xd] 95 (0,0)):=hud.j6 hp;have ga:=hua.j6 gd;have g':=(hu'.block pb (zf ga) (fun h=>hpv pb h rfl)).trans ga;have g7:=(hus7.block pb (zf g') hpl).trans g';have vd:=hud.j6 hv;have va:=hua.j6 vd;have v6:=(hu'.block lb (zf va) (fun h=>hlv lb h rfl)).trans va;have v7:w7.heap[lb]?=some (.cells #[.slice ao' (pre.length+1) cc'] 22 (0,0)):=by rw[hw7];exact zi v6 0 _
  have cd0:=za gd 0;have cd1:=za gd 1;have ca0:=za ga 0;have ca1:=za ga 1;have c60:=za g' 0;have c61:=za g' 1;have c70:=za g7 0;have c71:=za g7 1;have cl0:=za vd 0;have cla:=za va 0;have cl6:=za v6 0;have fl6:=zg v6 0;simp at cd0 cd1 ca0 ca1 c60 c61 c70 c71 cl0 cla cl6;have hKO:KeepsOthers W w7:=by
   have e1:KeepsOthers W Wa:=⟨by have h1:=hud.size;have h2:=hua.size;omega,fun k o hk ho=>hua.j6 (hud.j6 hk)⟩
   have e2:KeepsOthers Wa w':=zD hu' (fun j hj _=>hsA.cellsAt hj);exact(e1.trans e2).trans (zD hus7 (fun j hj _=>⟨_,_,_,hj▸v6⟩))
  have hPOST:KeepsFrom w5.heap.size W w7/\Upd (fun j=>j=lb\/w5.heap.size<=j) W w7/\CkI a w5 lb (pre++[(⟨(xn,xs,xd),hx⟩:ItM qs 0)]) w7:=by
   have hWW:Upd (fun j=>j=lb\/w5.heap.size<=j) W w7:=(((hud.mono fE).trans (hua.mono fE)).trans (hu'.mono (fun j _ hj=> .inr (hf j hj)))).trans (hus7.mono (fun j _ hj=> .inl hj));have hfv:From w5.heap.size (.slice ao' (pre.length+1) cc'):=by
    intro g hg;rcases hbf with e|⟨g2,e,hge⟩
    .rw [e]at hg;exact hf g hg
    .rw [e]at hg;cases hg;have h1:=hu.size;have h2:=hud.size;have h3:=hua.size;omega
   refine⟨hKO.from _,hWW,hu.trans hWW,_,v7,?_,hfv,fun e=>by simp at e⟩;have hs7:=hs'.keep hus7 (fun g hg e=>by have:=hfv g hg;omega);have hcells:entC (a.ent (xn,xs,xd))=[.int .i64 (xn:Int),.int .i64 xs,.bool xd,.int .i64 (mm:Int)]:=by
    unfold entC CaS.ent;simp only;rw[<-hmm,Int.toNat_of_nonneg hx2]
   have hml:(pre++[(⟨(xn,xs,xd),hx⟩:ItM qs 0)]).length=pre.length+1:=oe;have hmE:((pre++[(⟨(xn,xs,xd),hx⟩:ItM qs 0)]).map (fun x=>a.ent x.1)).flatMap entC=(pre.map (fun x=>a.ent x.1)).flatMap entC++[.int .i64 (xn:Int),.int .i64 xs,.bool xd,.int .i64 (mm:Int)]:=by
    rw[qzl,qyf,<-hcells];simp
   rw[hml,hmE];exact hs7
  obtain⟨Sd1,Sd2,Sd3⟩:=hMM _ hUd;obtain⟨Sa1,Sa2,Sa3⟩:=hMM _ hUa;obtain⟨S61,S62,S63⟩:=hMM _ hU';obtain⟨S71,S72,S73⟩:=hMM _ hU7;have HP:=qqh hPOST;replace hmm:=qqh hmm;have HSd:=Y5 Sd1 Sd2 cd0 cd1 Sd3;have HSa:=Y5 Sa1 Sa2 ca0 ca1 Sa3;have HS6:=Y5 S61 S62 c60 c61 S63;have HS7:=Y5 S71 S72 c70 c71 S73;have HW:=Y4 hrun hWa hWd hw7;clear hPOST Sd1 Sd2 Sd3 Sa1 Sa2 Sa3 S61 S62 S63 S71 S72 S73 hrun hWa hWd hw7 hKO v7 v6 va vd g7 g' ga gd hU7 hus7 hU' hbf hu' hs' hsA hga hUa hua hUd hud hW4 hMM hne hpv hlv hs hf hv hp h4 hb4 d4 hu hi hz hzs hisz hiby cd0 cd1 ca0 ca1 c60 c61 c70 c71
  gi_wp2
  refine wF (S:=fun W=>W.cell? ⟨w.heap.size,0,none⟩=some (ptr c)/\W.cell? ⟨c,22,none⟩=some (.map (some p.sm))/\W.cell? ⟨pb,0,none⟩=some (.int .i64 xs)/\W.cell? ⟨pb,1,none⟩=some (.bool xd)/\(Instr.lookup 116 (.map (some p.sm)) (.int .i64 (xn:Int)) false).run prog W=.ok (.int .i64 (mm:Int)) W) (by rintro⟨_,_,h⟩;exact h) kR kR (by rw[<-HW.o.2.2.1];exact HSd.out) (fun _=>?_);rw[<-HW.o.2.2.1];have hHeld:=HSd.out;refine Wl.i [1,2,3,4,5,6,7,8,9,10,11,12] ?_;iterate 12 refine Wl.t hHeld ?_
  refine Wl.o ?_;refine qZe (rs:=[0,13]) kR oe ?_;refine qxb rfl (fun K hK=>?_) (qxb rfl (fun K hK=>?_) qxc)
  .go_simp
   refine hK.o _ _ (hHeld) (fun _=>?_);clear hK K;refine Wl.r 13 (fun K hK=>?_);go_simp
   rw[<-HW.o.2.1];refine hK.o _ _ (HSa.out) (fun _=>?_);clear hK K;refine Wl.r 14 (fun K hK=>?_);refine zJ rfl _ _ _ rfl rfl rfl HW.o.1 ?_;refine hK.o _ _ (HS6.o) (fun _=>?_);clear hK K;refine Wl.r 15 (fun K hK=>?_);go_simp
   rw[<-HW.o.2.2.2];refine hK.o _ _ (HS7.o) (fun _=>?_);clear hK K;refine Wl.d ?_
   gi_wp2
   exact HP.o
  .go_simp
   rw[<-HW.o.2.1];refine hK.o _ _ (HSa.out) (fun _=>?_);clear hK K;refine Wl.r 0 (fun K hK=>?_);go_simp
   refine hK.o _ _ (HSa.out) (fun _=>?_);clear hK K;refine Wl.r 14 (fun K hK=>?_);refine zJ rfl _ _ _ rfl rfl rfl HW.o.1 ?_;refine hK.o _ _ (HS6.o) (fun _=>?_);clear hK K;refine Wl.r 15 (fun K hK=>?_);go_simp
   rw[<-HW.o.2.2.2];refine hK.o _ _ (HS7.o) (fun _=>?_);clear hK K;refine Wl.d ?_
   gi_wp2
   exact HP.o
 case done=>
  rintro D ys W hD hys ⟨hu,v,hv,hs,hf,hnil⟩ hK;have hE:ys.map (fun x=>a.ent x.1)=a.ents n:=by
   rw[show(fun x:ItM qs 0=>a.ent x.1)=a.ent∘(·.1)from rfl,<-qzn,hys,HG.o.2.2.2];rfl
  rw[hE]at hs;have hkl:(a.ents n).length=ys.length:=by rw[<-hE];simp
  have hkn:ys.length<=n.sl:=by
   rw[<-hkl];unfold CaS.ents;rw[qzg];exact zaq hgd.out.1 _
  have hok:∀x∈a.ents n,qN x:=by
   intro x hx;rw[<-hE]at hx;obtain⟨⟨y,hy⟩,-,rfl⟩:=qzv.1 hx;obtain⟨k,hk,rfl,hq⟩:=RF hy;have h1:=(HG.o.1 k hk).resolve_left hq;have h2:=HG.o.2.1;refine⟨by simp only[CaS.ent];omega,by simp only[CaS.ent];omega,?_⟩;simp only[CaS.ent];cases hc:a.sums ((0+k:Nat):Int)with
   |none=>simp
   |some m=>exact HH.o.2.1 _ _ hc
  obtain⟨h4,hb4,-,d4⟩:=H4.o;have hW4:Upd (fun j=>j=lb\/w5.heap.size<=j) w4d W:=(HU5.o.mono fE).trans hu;have h5:=h4.kv hW4 HNE.o.1;have hb5:Box own3 W w.heap.size (.cells #[ptr c] 62):=⟨(hW4.block _ (zf hb4.1) (fun hs=>by
    rcases hs with hs|hs
    .exact HNE.o.2 hs
    .have:=zf hb4.1;omega)).trans hb4.1,hb4.2⟩
  have hl5:Box own3 W lb (.cells #[v] 22):=⟨hv,hlo⟩
  have hD5:Box own3 W D (.deferred (some [])):=⟨hK,h4.far D oM⟩
  have d5:Did own own3 w W:=⟨d4.upd.new hW4 (fun i hi hs=>by have h1:=HLB.o;have h2:=d4.upd.size;rcases hs with hs|hs<;>omega),d4.old,d4.new,fun j hj=>d4.far j (by have:=hW4.size;omega)⟩
  obtain⟨ao,cc,hvv⟩:=hs.rd.j7;have hnb:∀W',Below W.heap.size W W'->Calls prog 191 #[.int .i64 ((a.next-1:Nat):Int),.slice ao ys.length cc] W' (xw W' (a.next-1) (a.ents n)):=by
   intro W' hb';have hmx:a.next<=1099511627777:=h5.jr.good.mx;have hN:=h5.nib.below hb';by_cases hy0:ys=[]
   .have e:=hnil hy0;rw[hvv]at e;injection e with e1 e2 e3
    have hE0:a.ents n=[]:=qyd (by rw[hkl,e2]);rw[e1,e2,e3,hE0];exact sQ _ oM hN
   .have hy1:0<ys.length:=List.length_pos_iff.2 hy0;obtain⟨-,⟨-,e⟩|⟨g,off,cap,cur,e,hg,hnc,hcm,hz,hc⟩⟩:=hs.keep (uuo (S:=fun _=>False) hb') (fun _ _ h=>h)
    .omega
    rw[hvv]at e;injection e with e1 e2 e3
    subst e1 e3;have hsl:=h4.ok.s2;exact Wu (a.ents n) hkl hy1 oM (fun j u hj=>by rw[za hg];exact hc j u hj) hnc hcm _ oM hok hN
  have hnx:JnGood (1+2*n.pa) n.jo a.cov a.next a.W:=h5.jr.good;have hnw:1<=a.next:=by have:=hnx.wl;omega
  have hnm:a.next<=1099511627777:=hnx.mx;have hwh:a.which<=1:=h5.wh;have HN:Hid (Calls prog 154 #[ptr p.jr] W fun e w'=>e=.returned (.int .i64 (a.next:Int))/\W=w'):=(ca_jnext h5:)
  obtain⟨-,-,c16,c17,-⟩:=h5.cells;replace c16:W.cell? ⟨c,16,none⟩=some (.int .i64 (a.which:Int)):=c16;have cb:=za hb5.1 0;have e1:((1-a.which:Nat):Int)=1-(a.which:Int):=oM;have e2:((a.next-1:Nat):Int)=(a.next:Int)-1:=oM;have HE:=Y2 e1 e2;subst hvv;have H5:=Y5 h5 hb5 hl5 hD5 d5;have hneed:needN ys.length<=n.pa:=by have:=h5.ok.p1;unfold needN;omega
  have hdO':(a.fb.fd).dO.length<=50000:=qXx (xY _ _ _) HH.o.2.2;have HB:=Y4 hnb hkl hneed hdO';have hy4:ys.length<=4096:=by have:=h5.ok.s2;omega
  have hDw:Hid (w.heap.size<=D):=by show _<=_;have h1:=d4.upd.size;omega
  clear h4 hb4 d4 hW4 h5 hb5 hl5 hD5 d5 hK hnx e1 e2 hnb hkl hneed hdO' hok hE hs hf hv hys hnil hu hcs hcp hcl5 hle hgood hqs;go_wp2_with fail
  refine HN.o.mono ?_;rintro e w6 ⟨rfl,rfl⟩;go_wp2_with fail
  obtain⟨h5,hb5,hl5,hD5,d5⟩:=H5.o;have hud:Upd (fun _=>False) W W.drew:=(uur _ W).drew;have hsv:Calls prog 60 #[ptr p.ssd,.int .i64 1,.int .i64 (n.pa:Int),.int .i64 ((1-a.which:Nat):Int),.int .i64 ((a.next-1:Nat):Int),.slice ao ys.length cc] W.drew (zv own3 W.drew c n p (a.fb.fd.dev (a.fb.fd.svR n)) (.int .i64 (a.fb.fd.svR n).cd)):=RG (h5.new hud) HB.o.2.2.2 (a.next-1) (1-a.which) oM ao ys.length cc (a.ents n) HB.o.2.1 HB.o.2.2.1 oM (fun W' hb'=>HB.o.1 W' ((qxl _ W).drew.trans hb'));obtain⟨b,hb⟩:=qqe (a.fb.fd.dev (a.fb.fd.svR n));rw[<-hb]at hsv;generalize (a.fb.fd.svR n).cd=cd at*;have HS:=qqh hsv;have HBb:=qqh hb;clear hb;have H6:=Y4 (hb5.new hud) (hl5.new hud) (hD5.new hud) (d5.trans (h5.ki hud));obtain⟨c14,-⟩:=h5.cells;have c7:=h5.lay.1;obtain⟨-,-,-,-,c4,-⟩:=h5.sup;have cl:=za hl5.1 0;clear h5 hb5 hl5 hD5 d5 hud hsv c16 c17
  go_still_tail 17,kR
  change wpList _ _ _ _ _ W.drew
  generalize W.drew=W2 at*;clear c14 c7 c4 cl cb;go_wp2_with fail
  rw[<-HE.o.1,<-HE.o.2];refine HS.o.mono ?_;rintro e w7 ⟨rfl,own7,hca7,hd7⟩;obtain⟨hb6,hl6,hD6,d6⟩:=H6.o;have hb7:=hb6.did hd7;have hD7:=hD6.did hd7;have d7:=d6.trans hd7;have hcl7:=hca7.clt;have cb:=za hb7.1 0;have c16:=hca7.cells.2.2.1;have f16:=hca7.fz 16;have c17:=hca7.cells.2.2.2.1;have hne:w.heap.size≠c:=oM;have H7:=Y4 hca7 hb7 hD7 d7;clear hca7 hd7 hb6 hl6 hD6 d6 hb7 hD7 d7;by_cases hc:cd=0
  rotate_left
  .have q0:(cd==0)=false:=by simpa using hc
   have hR':=hR.out;rw[if_pos hc,<-HBb.out]at hR';have HR':=qqh hR';clear hR';go_wp2_with fail
   obtain⟨h7,-,hD7,d7⟩:=H7.o;refine⟨oe,.inl ⟨_,_,rfl,run_takeDeferred hD7.1,?_⟩⟩;have h7':=h7.putObj hD7 rfl (.deferred none);have d7':=d7.putObj hDw.out (.deferred none);rw[HR'.o];exact⟨_,results_tmp rfl _ _ _,rfl,own7,h7',d7'⟩
  subst hc;replace hR:=hR.out;rw[if_neg oe]at hR;replace hR:=qqh hR;go_wp2_with fail
  obtain⟨h7,hb7,hD7,d7⟩:=H7.o;have h8:=h7.turn1 (1-a.which) oM;have d8:=d7.trans (h7.did1 (.int .i64 ((1-a.which:Nat):Int)));have hus:=zj w7 c 16 (.int .i64 ((1-a.which:Nat):Int));have hb8:Box own7 (w7.setCell ⟨c,16,none⟩ (.int .i64 ((1-a.which:Nat):Int))) w.heap.size (.cells #[ptr c] 62):=⟨(hus.block _ (zf hb7.1) hne).trans hb7.1,hb7.2⟩
  have hD8:Box own7 (w7.setCell ⟨c,16,none⟩ (.int .i64 ((1-a.which:Nat):Int))) D (.deferred (some [])):=⟨(hus.block _ (zf hD7.1) (fun e=>by have:=hD7.2;rw[e,h7.oc]at this;exact absurd this de)).trans hD7.1,hD7.2⟩
  generalize w7.setCell ⟨c,16,none⟩ (.int .i64 ((1-a.which:Nat):Int))=w8 at*;have hbn:b.next=a.next:=by rw[HBb.out];rfl
  have H8:=Y3 hb8 hD8 d8;have HV:=qqh (QW h8 ((a.next-1:Nat):Int) (by show _=(b.next:Int)-1;rw[hbn];exact HE.o.2));clear h7 hb7 hD7 d7 h8 d8 hus hb8 hD8 cb c16 f16 c17 hbn;refine HV.o.mono ?_;rintro e w9 ⟨rfl,own9,hca9,hd9⟩;obtain⟨hb8,hD8,d8⟩:=H8.o;have hb9:=hb8.did hd9;have cb:=za hb9.1 0;have H9:=Y2 (hD8.did hd9) (d8.trans hd9);have HR:=qqh (Uc hca9);clear hb8 hD8 d8 hb9 hca9 hd9;go_wp2_with fail
  refine HR.o.mono ?_;rintro e w10 ⟨rfl,own10,hca10,hd10⟩;obtain⟨hD9,d9⟩:=H9.o;have HX:=Y3 hca10 (hD9.did hd10) (d9.trans hd10);clear hca10 hd10 hD9 d9 cb;go_wp2
  obtain⟨h10,hD10,d10⟩:=HX.o;refine⟨oe,.inl ⟨_,_,rfl,run_takeDeferred hD10.1,?_⟩⟩;have h10':=h10.putObj hD10 rfl (.deferred none);have d10':=d10.putObj hDw.out (.deferred none);rw[hR.out];refine⟨_,results_tmp rfl _ _ _,rfl,own10,?_,d10'⟩;rw[HBb.out]at h10';exact h10'
end
end Go.Proofs.YtfhfbpmlnjdfoaaGreatDoor
namespace Go.Proofs.YtfhfbpmlnjdfoaaGreatDoor
open Go Go.RowKit Tryz
def zcy(n:CaN):CaS:=zcx n (caS0 n 1 0 (List.replicate n.size zB) [] [] (List.replicate n.bl zB) [] []) []
theorem Ej(F:List Bk)(L:List (Nat×Bk)):∀O,wrsR F L O []=⟨F,O++L,[],0⟩:=by
 induction L with
 |nil=>intro O;simp[wrsR]
 |cons x L ih=>
  intro O;have e:writeR F O [] x.1 x.2=⟨F,O++[(x.1,x.2)],[],0⟩:=rfl;rw[wrsR_yes (by rw[e]),e,ih];simp
theorem rt{qs:List (Int×Bool)}{fr:Nat}(h:∀k:Nat,qs[k]?.getD (-1,false)=(-1,false)):∀m,visTo qs fr m=[]
 |0=>rfl
 |m+1=>by simp only[visTo,uJ];rw[rt h m,if_pos (h m)];rfl
theorem RH{n:CaN}{a:CaS}(hb:a.bP=[])(hd:a.dP=[])(hps:a.ps=List.replicate n.bl (-1,false)):a.ckpt n=(zcx n a [],0):=by
 have he:a.ents n=[]:=by
  unfold CaS.ents;rw[show vis (spanL a.ps 0 n.bl) 0=[]from rt (fun k=>by
   rw[hps];unfold spanL;rw[qyc,qyu];split
   .rw [qys];split<;>rfl
   .rfl) _]
  rfl
 obtain⟨wh,dF,dO,dP,bF,bO,bP,cov,next,W,iN,ps,st,G,kN,K,A,H,mN,sums⟩:=a;simp only at hb hd;subst hb hd;have hs:∀(F:List Bk) (L:List (Nat×Bk)),saveR F [] [] L=⟨flushF F L,[],[],0⟩:=fun F L=>by
  unfold saveR;rw[Ej];rfl
 have h1:((CaS.mk wh dF dO [] bF bO [] cov next W iN ps st G kN K A H mN sums).fb.fd.svR n)=⟨flushF (flushF dF dO) (ckO (1+(1-wh)*n.pa) n.pa (pagesB (next-1) [])),[],[],0⟩:=by
  show saveR (flushF dF dO) [] [] (ckO (1+(1-wh)*n.pa) n.pa (pagesB (next-1) ((CaS.mk wh dF dO [] bF bO [] cov next W iN ps st G kN K A H mN sums).ents n)))=_;rw[he,hs]
 unfold CaS.ckpt;rw[if_neg (by exact fun h=>h rfl),if_neg (by exact fun h=>h rfl),if_neg (by rw[h1];exact fun h=>h rfl)];unfold CaS.ckd;rw[h1];rfl
section
variable{own own':Nat->Nat}{w w':World}{c:Nat}{n:CaN}{p:CaP}{a:CaS}
theorem Af(h:CaAt own w c n p a):Calls prog 91 #[ptr c] w fun e w'=>e=.returned (.tuple #[ptr p.ssd,ptr p.back])/\Upd (fun _=>False) w w':=by
 obtain⟨c14,c15,-⟩:=h.cells;clear h;go_enter func91,ntmps91
 go_wp2
 go_quiet(fail)
 have hu:Upd (fun _=>False) w (w.drewN nq):=(uur _ w).drewN nq;generalize w.drewN nq=w2 at*;go_wp2
 go_ret2
 exact⟨rfl,hu⟩
theorem C_one(n:CaN):∀v∈n.C,v.oneCell'=true:=by
 intro v hv;simp only[CaN.C,qzr,qXd,qZb]at hv;rcases hv with rfl|rfl|rfl|rfl|rfl|rfl|rfl<;>rfl
theorem Ue(sl jo pa lo:Nat):∀v∈layC sl jo pa lo,v.oneCell'=true:=by
 intro v hv;simp only[qzr,qXd,qZb]at hv;rcases hv with rfl|rfl|rfl|rfl|rfl|rfl|rfl<;>rfl
theorem zar(h:CaAt own w c n p a):Calls prog 25 #[ptr c] w fun e w'=>e=.returned (.agg n.C.toArray)/\Below w.heap.size w w':=by
 obtain⟨U,hU⟩:=qqe (n.C);have hr:w.rangeAt c 0 U:=fun j v hv=>by
  have:=zh h.str j v (by rw[caC,qyi oS,<-hU];exact hv);exact this
 have hU7:U.length=7:=by rw[hU];rfl
 have hs:(prog.info? 40).map (·.size)=some U.length:=by rw[hU7];exact xf
 have h1:∀v∈U,v.oneCell'=true:=by rw[hU];exact C_one n
 have hc:=qYp hr (.cells U.toArray 40);rw[<-hU];have H:=Y3 hs h1 hU7;clear h hU hs h1 hU7;go_enter func25,ntmps25
 go_wp2_with (first
  |(refine qZg rfl _ _ rfl _ _ rfl _ _ (qYp hr _) underlying40 rfl H.o.1 ?_)
  |(refine zl rfl _ _ _ rfl _ _ _ rfl rfl (by rw[H.o.2.2];rfl) H.o.1 H.o.2.1 ?_)
  |fail)
 refine qYw (zI rfl _ _ w.heap.size 0 U _ rfl (zh (zc w _ rfl)) underlying40 rfl H.o.1) rfl ⟨rfl,(qxl _ w).alloc (qXv _) _⟩
theorem Ek(h:CaAt own w c n p a):Calls prog 34 #[ptr c] w fun e w'=>e=.returned (.agg (layC n.sl n.jo n.pa n.lo).toArray)/\Below w.heap.size w w':=by
 obtain⟨U,hU⟩:=qqe (layC n.sl n.jo n.pa n.lo);have hU7:U.length=7:=by rw[hU];rfl
 have hr:w.rangeAt c 7 U:=fun j v hv=>by
  have:=zh h.str (7+j) v (by
   rw[caC,qyj (by show(7:Nat)<=7+j;omega),show 7+j-n.C.length=j by show 7+j-7=j;omega,qyi oS,<-hU];exact hv)
  rw[qYe]at this;exact this
 have hs:(prog.info? 43).map (·.size)=some U.length:=by rw[hU7];exact xH
 have h1:∀v∈U,v.oneCell'=true:=by rw[hU];exact Ue _ _ _ _
 rw[<-hU];have H:=Y3 hs h1 hU7;clear h hU hs h1 hU7;go_enter func34,ntmps34
 go_wp2_with (first
  |(refine qZg rfl _ _ rfl _ _ rfl _ _ (qYp hr _) underlying43 rfl H.o.1 ?_)
  |(refine zl rfl _ _ _ rfl _ _ _ rfl rfl (by rw[H.o.2.2];rfl) H.o.1 H.o.2.1 ?_)
  |fail)
 refine qYw (zI rfl _ _ w.heap.size 0 U _ rfl (zh (zc w _ rfl)) underlying43 rfl H.o.1) rfl ⟨rfl,(qxl _ w).alloc (qXv _) _⟩
end
def zcz(w:World)(n:CaN)(d:Nat)(e:Ending)(w':World):Prop:=
 ∃li lc lf,e=.returned (.tuple #[.agg #[ptr li,ptr lc,ptr lf],.int .i64 0])/\LogI w' li d (1+2*n.pa+n.jo) n.lo 140/\LogC w' lc d (1+2*n.pa+n.jo+n.lo) n.lo 144/\
  LogF w' lf d (1+2*n.pa+n.jo+n.lo+n.lo) n.lo 148/\(w.heap.size<=li/\w.heap.size<=lc/\w.heap.size<=lf)/\Below w.heap.size w w'
theorem RI(n:CaN)(w:World):(Instr.field 40 (.agg n.C.toArray) 5).run prog w=.ok (.int .i64 (n.lo:Int)) w:=kR
section
variable{own own':Nat->Nat}{w w':World}{c:Nat}{n:CaN}{p:CaP}{a:CaS}
theorem zcA(h:CaAt own w c n p a):Calls prog 76 #[ptr c] w (zcz w n p.ssd):=by
 obtain⟨V,hV⟩:=qqe (layC n.sl n.jo n.pa n.lo);obtain⟨w1,hw1⟩:=qqe (w.alloc (.cells #[.pointer none,.pointer none,.pointer none] 67));have hu1:=qqu hw1;have h1:=h.new hu1;have hg1:=qqg hw1;have H1:=Y4 h1 hu1 hg1 hV;have hC:=qqh (Af h1);have HW1:=qqh hw1;have HO:=qqh h.ok;clear h h1 hu1 hw1 hV hg1;go_enter func76,ntmps76
 go_wp2_with fail
 rw[<-HW1.o];refine hC.out.mono ?_;rintro e w2 ⟨rfl,hu2⟩;have h2:=H1.o.1.new hu2;have H2:=Y2 h2 hu2;have hL:=Ek h2;rw[<-H1.o.2.2.2]at hL;have HL:=qqh hL;clear h2 hu2 hL;go_wp2_with fail
 refine HL.o.mono ?_;rintro e w3 ⟨rfl,hb3⟩;have hu3:=qqb hb3;have h3:=H2.o.1.new hu3;have H3:=Y2 h3 hu3;have HS:=qqh (zar h3);clear h3 hu3 hb3;go_wp2_with fail
 refine HS.o.mono ?_;rintro e w4 ⟨rfl,hb4⟩;have hu4:=qqb hb4;clear hb4;obtain⟨w5,hw5⟩:=qqe (w4.alloc (.cells V.toArray 43));have hu5:=qqu hw5;have hg5:=qqg hw5;have hVl:V.length=7:=by rw[H1.o.2.2.2];rfl
 have hV1:∀v∈V,v.oneCell'=true:=by rw[H1.o.2.2.2];exact Ue _ _ _ _
 have hsV:Hid ((prog.info? 43).map (·.size)=some V.length):=by show _=_;rw[hVl];exact xH
 have h5:=(H3.o.1.new hu4).new hu5;have U5:=(((H1.o.2.1.trans H2.o.2).trans H3.o.2).trans hu4).trans hu5;have g15:=(((H2.o.2.trans H3.o.2).trans hu4).trans hu5).j6 H1.o.2.2.1;have H5:=Y6 h5 U5 hg5 hVl hV1 g15;have HW5:=qqh hw5;have hz:n.size<=4096:=HO.o.z;have hl1:=HO.o.l1;have hdl:=h5.fl;have HN:=qqh (JO h5.ssd (1+2*n.pa+n.jo) n.lo hl1 jE 140);have hfd:=RI n;clear hu4 hu5 hg5 hVl hV1 h5 U5 g15 hw5 hdl;go_upto_region 5 with(first
  |(refine zl rfl _ _ _ rfl _ _ _ rfl rfl (by rw[H5.o.2.2.2.1];rfl) hsV.out H5.o.2.2.2.2.1 ?_)
  |fail)
 rw[<-HW5.o];clear hfd;have hvc:=za H5.o.2.2.1;rw[H1.o.2.2.2]at hvc;have v2:w5.cell? ⟨w4.heap.size,2,none⟩=some (.int .i64 (1+2*(n.pa:Int)+(n.jo:Int))):=hvc 2;have e1:(((1+2*n.pa+n.jo:Nat)):Int)=1+2*(n.pa:Int)+(n.jo:Int):=oe;rw[e1]at HN;clear hvc e1;go_wp2_with fail
 refine HN.o.mono ?_;rintro e w6 ⟨rfl,hl6,hb6⟩;have hu6:=qqb hb6;have h6:=H5.o.1.new hu6;have hdl:=h6.fl;have HN:=qqh (JP h6.ssd (1+2*n.pa+n.jo+n.lo) n.lo hl1 jE 144);have H6:=Y3 h6 hl6 hu6;have hvc:=za (hu6.j6 H5.o.2.2.1);rw[H1.o.2.2.2]at hvc;have v3:w6.cell? ⟨w4.heap.size,3,none⟩=some (.int .i64 (1+2*(n.pa:Int)+(n.jo:Int)+(n.lo:Int))):=hvc 3;have e1:(((1+2*n.pa+n.jo+n.lo:Nat)):Int)=1+2*(n.pa:Int)+(n.jo:Int)+(n.lo:Int):=oe;rw[e1]at HN;clear hvc e1 h6 hl6 hb6 hu6 hdl v2;go_wp2_with fail
 refine HN.o.mono ?_;rintro e w7 ⟨rfl,hl7,hb7⟩;have hu7:=qqb hb7;have h7:=H6.o.1.new hu7;have hdl:=h7.fl;have HN:=qqh (JQ h7.ssd (1+2*n.pa+n.jo+n.lo+n.lo) n.lo hl1 jE 148);have H7:=Y2 hl7 hu7;have hvc:=za ((H6.o.2.2.trans hu7).j6 H5.o.2.2.1);rw[H1.o.2.2.2]at hvc;have v4:w7.cell? ⟨w4.heap.size,4,none⟩=some (.int .i64 (1+2*(n.pa:Int)+(n.jo:Int)+(n.lo:Int)+(n.lo:Int))):=hvc 4;have e1:(((1+2*n.pa+n.jo+n.lo+n.lo:Nat)):Int)=1+2*(n.pa:Int)+(n.jo:Int)+(n.lo:Int)+(n.lo:Int):=oe;rw[e1]at HN;clear hvc e1 h7 hl7 hb7 hu7 hdl v3;go_wp2_with fail
 refine HN.o.mono ?_;rintro e w8 ⟨rfl,hl8,hb8⟩;have hu8:=qqb hb8;have g8:=((H6.o.2.2.trans H7.o.2).trans hu8).j6 H5.o.2.2.2.2.2;have c80:=za g8 0;have c81:=za g8 1;have c82:=za g8 2;have f8:=zg g8;have f80:=f8 0;have f81:=f8 1;have f82:=f8 2;have H8:=Y3 hl8 hu8 g8;clear hl8 hb8 hu8 g8 f8 v4;go_wp2
 obtain⟨hl8,hu8,g8⟩:=H8.o;have s0:=zi g8 0 (ptr w5.heap.size);have s1:=zi s0 1 (ptr w6.heap.size);have s2:=zi s1 2 (ptr w7.heap.size);have t1:=((zj w8 w.heap.size 0 (ptr w5.heap.size)).trans (zj _ w.heap.size 1 (ptr w6.heap.size))).trans (zj _ w.heap.size 2 (ptr w7.heap.size));have z1:=H1.o.2.1.size;have z5:=H5.o.2.1.size;have z6:=H6.o.2.2.size;have z7:=H7.o.2.size;have hw:w.heap.size<w5.heap.size:=zf H5.o.2.2.2.2.2;have li:=((H6.o.2.1.keep H7.o.2 id).keep hu8 id).keep t1 oM;have lc:=(H7.o.1.keep hu8 id).keep t1 oM;have lf:=hl8.keep t1 oM;refine qYw (zt rfl _ _ w.heap.size 0 [ptr w5.heap.size,ptr w6.heap.size,ptr w7.heap.size] _ rfl (zh s2) underlying67 rfl kR) rfl ⟨w5.heap.size,w6.heap.size,w7.heap.size,rfl,li,lc,lf,⟨oM,oM,oM⟩,?_⟩;exact Upd.below ((((H5.o.2.1.trans H6.o.2.2).trans H7.o.2).trans hu8).new t1 (fun i hi e=>oM))
end
structure Dvs(own:Nat->Nat)(w:World)(ssd back:Nat)(F:List Bk)(O:List (Nat×Bk))(G:List Bk)(Q:List (Nat×Bk))(P:List Int):Prop where
 ssd:Dv (fun j=>own j=2) w ssd F O []
 back:Dv (fun j=>own j=3) w back G Q P
 far:∀j,w.heap.size<=j->own j=0
 nib:Nib w
 tur:Tur w
 on:own 0=0
 ot:own 1=0
section
variable{own own':Nat->Nat}{w w':World}{ssd back:Nat}{F G:List Bk}{O Q:List (Nat×Bk)}{P:List Int}
theorem Dvs.new(h:Dvs own w ssd back F O G Q P)(hu:Upd (fun _=>False) w w'):Dvs own w' ssd back F O G Q P:=
 ⟨h.ssd.new hu,h.back.new hu,fun j hj=>h.far j (qXx hu.size hj),h.nib.keep hu id,h.tur.keep hu id,h.on,h.ot⟩
theorem Dvs.ki(h:Dvs own w ssd back F O G Q P)(hu:Upd (fun _=>False) w w'):Did own own w w':=⟨hu.mono fE,fun _ _=>rfl,fun j hj=>by rw[h.far j hj];decide,fun j hj=>h.far j (qXx hu.size hj)⟩
theorem Dvs.kT(h:Dvs own w ssd back F O G Q P):Dv (fun j=>own j=2\/w.heap.size<=j) w ssd F O []:=(Dv.kU _ _ _ _).open h.ssd
theorem Dvs.on2(h:Dvs own w ssd back F O G Q P):¬(own 0=2\/w.heap.size<=0):=fun h'=>by rcases h' with h'|h';rw[h.on]at h';exact absurd h' de;exact absurd h.nib.lt oM
theorem Dvs.kP{F':List Bk}{O':List (Nat×Bk)}(h:Dvs own w ssd back F O G Q P)(hu:Upd (fun j=>own j=2\/w.heap.size<=j) w w')(hd:Dv (fun j=>own j=2\/w.heap.size<=j) w' ssd F' O' []):Dvs (grow own 2 w.heap.size w'.heap.size) w' ssd back F' O' G Q P where
 ssd:=(Dv.kU _ _ _ _).mine hu.size hd
 back:=(Dv.kU _ _ _ _).other h.back de hu
 far:=(Did.step h.far (t:=2) de de hu).far
 nib:=h.nib.keep hu h.on2
 tur:=h.tur.keep hu (fun hs=>by rcases hs with hs|hs;rw[h.ot]at hs;exact absurd hs de;exact absurd h.tur.lt oM)
 on:=(zy h.nib.lt).trans h.on
 ot:=(zy h.tur.lt).trans h.ot
theorem Dvs.did2(h:Dvs own w ssd back F O G Q P)(hu:Upd (fun j=>own j=2\/w.heap.size<=j) w w'):Did own (grow own 2 w.heap.size w'.heap.size) w w':=Did.step h.far de de hu
theorem Did.zero{b:Nat}{o:Obj}(d:Did own own' w w')(hb:w.heap[b]?=some o)(h0:own b=0):w'.heap[b]?=some o/\own' b=0:=
 ⟨(d.upd.block _ (zf hb) (fun h=>h.1 h0)).trans hb,(d.old _ (zf hb)).trans h0⟩
def Kps(own:Nat->Nat)(w:World)(Fx:Nat->Option Obj):Prop:=∀b o,Fx b=some o->w.heap[b]?=some o/\own b=0
theorem Kps.did{Fx:Nat->Option Obj}(h:Kps own w Fx)(d:Did own own' w w'):Kps own' w' Fx:=fun b o hb=>d.zero (h b o hb).1 (h b o hb).2
theorem Kps.aside{Fx:Nat->Option Obj}(h:Kps own w Fx){S:Nat->Prop}(hu:Upd S w w')(hS:∀j,S j->Fx j=none):Kps own w' Fx:=fun b o hb=>
 ⟨(hu.block _ (zf (h b o hb).1) (fun hs=>by rw[hS b hs]at hb;cases hb)).trans (h b o hb).1,(h b o hb).2⟩
theorem ua{b:Nat}{v:Array Value}{t:TypeId}(hn:Nib w)(ht:Tur w)(hb:w.heap[b]?=some (.cells v t (0,0)))(h0:own b=0)(hp:∀k x,v[0]?≠some (.int k x)):∀j,j=b->own j=0/\j≠0/\j≠1:=by
 rintro j rfl;refine⟨h0,fun e=>?_,fun e=>?_⟩
 .have h2:=za hb 0;rw[e]at h2;exact hp _ _ (h2.symm.trans (hn.c 0 de))
 .have h2:=za hb 0;rw[e]at h2;exact hp _ _ (h2.symm.trans ht.c0)
theorem Did.mine{b:Nat}{w2:World}(d:Did own own' w w')(hu:Upd (fun j=>j=b) w' w2)(hb:w.heap.size<=b):Did own own' w w2:=
 ⟨d.upd.new hu (fun i hi e=>oM),d.old,d.new,fun j hj=>d.far j (qXx hu.size hj)⟩
theorem xP{b:Nat}{v u:Value}{t:TypeId}(h:w.heap[b]?=some (.cells #[v] t (0,0))):(w.setCell ⟨b,0,none⟩ u).heap[b]?=some (.cells #[u] t (0,0)):=zi h 0 u
end
def zcB(own:Nat->Nat)(w:World)(ssd back s13:Nat)(n:CaN)(a:CaS)(e:Ending)(w':World):Prop:=
 e=.returned (.int .i64 0)/\∃c p own' w2,CaAt own' w2 c n p a/\p.ssd=ssd/\p.back=back/\Did own own' w w2/\w'=w2.setCell ⟨s13,0,none⟩ (ptr c)
theorem zdJ{own:Nat->Nat}{w:World}{ssd back s8 q qb s10 s11 s12 s13:Nat}{n:CaN}{ao:Option Addr}{ln lc:Nat}{a:CaS}{x:Value}(wh sq:Nat)
  (hnew:Calls prog 74 #[.agg n.C.toArray,ptr ssd,ptr back,.int .i64 (wh:Int),.int .i64 ((sq+1:Nat):Int),.slice ao ln lc] w (ZG own w ssd back n a))
  (hsq:sq<1099511627776) (h8:w.rangeAt s8 0 n.C) (cq:w.cell? ⟨q,0,none⟩=some (ptr ssd)) (cb:w.cell? ⟨qb,0,none⟩=some (ptr back)) (c10:w.cell? ⟨s10,0,none⟩=some (.int .i64 (wh:Int)))
  (c11:w.cell? ⟨s11,0,none⟩=some (.int .i64 (sq:Int))) (c12:w.cell? ⟨s12,0,none⟩=some (.slice ao ln lc)) (h13:w.heap[s13]?=some (.cells #[x] 62 (0,0))) (o13:own s13=0):
  Calls prog 73 #[ptr s8,ptr q,ptr qb,ptr s10,ptr s11,ptr s12,ptr s13] w (zcB own w ssd back s13 n a):=by
 obtain⟨U,hU⟩:=qqe (n.C);have hN:=qqh hnew;have hsU:(prog.info? 40).map (·.size)=some U.length:=by rw[hU];exact xf
 rw[<-hU]at h8 hN;rw[show((sq+1:Nat):Int)=(sq:Int)+1 by simp]at hN;have H:=Y2 h13 o13;clear hnew hU h13 o13;go_enter func73,ntmps73
 go_wp2_with (first
  |(refine qZg rfl _ _ rfl _ _ rfl _ _ h8 underlying40 rfl hsU ?_)
  |fail)
 refine hN.out.mono ?_;rintro e w2 ⟨c,p,own2,rfl,hp1,hp2,hca,hdid⟩;have g2:=(hdid.zero H.o.1 H.o.2).1;have k2:=za g2 0;have f2:=zg g2 0;have H2:=Y4 hca hdid hp1 hp2;clear hca hdid g2 hp1 hp2 h8 cq cb c10 c11 c12 hN;go_wp2
 go_ret
 exact⟨rfl,c,p,own2,w2,H2.o.1,H2.o.2.2.1,H2.o.2.2.2,H2.o.2.1,rfl⟩
def zcC(_own:Nat->Nat)(w:World)(d s14:Nat)(n:CaN)(e:Ending)(w':World):Prop:=
 e=.returned (.int .i64 0)/\∃li lc lf w2,LogI w2 li d (1+2*n.pa+n.jo) n.lo 140/\LogC w2 lc d (1+2*n.pa+n.jo+n.lo) n.lo 144/\LogF w2 lf d (1+2*n.pa+n.jo+n.lo+n.lo) n.lo 148/\
  (w.heap.size<=li/\w.heap.size<=lc/\w.heap.size<=lf)/\Upd (fun _=>False) w w2/\w'=w2.setCells s14 0 [ptr li,ptr lc,ptr lf]
theorem yx:(prog.info? 67).map (·.size)=some 3:=kR
theorem zdK{own:Nat->Nat}{w:World}{c s13 s14:Nat}{n:CaN}{p:CaP}{a:CaS}{x y z:Value}(hca:CaAt own w c n p a)(h13:w.cell? ⟨s13,0,none⟩=some (ptr c))(h14:w.heap[s14]?=some (.cells #[x,y,z] 67 (0,0))):
  Calls prog 75 #[ptr s13,ptr s14] w (zcC own w p.ssd s14 n):=by
 have HO:=qqh (zcA hca);have H14:=qqh h14;clear hca h14;go_enter func75,ntmps75
 go_wp2_with fail
 refine HO.o.mono ?_;rintro e w2 ⟨li,lc,lf,rfl,hi,hc,hf,hz,hb⟩;have hu:=qqb hb;have g2:=hu.j6 H14.o;have tA:=zF (n:=3) g2 oe;have HE:=Y5 hi hc hf hz hu;clear hi hc hf hz hu hb g2 h13 HO;go_wp2_with (first
  |(refine qZi rfl _ _ _ rfl _ _ [ptr li,ptr lc,ptr lf].toArray rfl rfl tA yx oJ ?_)
  |fail)
 go_ret
 exact⟨rfl,li,lc,lf,w2,HE.o.1,HE.o.2.1,HE.o.2.2.1,HE.o.2.2.2.1,HE.o.2.2.2.2,rfl⟩
theorem zdL{own:Nat->Nat}{w:World}{c s13:Nat}{n:CaN}{p:CaP}{a':CaS}(hck:Calls prog 80 #[ptr c] w (zv own w c n p a' (.int .i64 0)))(h13:w.cell? ⟨s13,0,none⟩=some (ptr c)):
  Calls prog 79 #[ptr s13] w (zv own w c n p a' (.int .i64 0)):=by
 have HO:=qqh hck;clear hck;go_enter func79,ntmps79
 go_wp2_with fail
 refine HO.o.mono ?_;rintro e w2 ⟨rfl,own2,h2,d2⟩;have H2:=Y2 h2 d2;clear h2 d2 HO h13;go_wp2
 go_ret
 exact⟨rfl,own2,H2.o.1,H2.o.2⟩
end Go.Proofs.YtfhfbpmlnjdfoaaGreatDoor
