/- attach.Attach -/
import Derived.Test.YtfhfbpmlnjdfoaaGreatDoorG34
import Derived.Test.YtfhfbpmlnjdfoaaGreatDoorG32
set_option maxRecDepth 100000
set_option maxHeartbeats 4000000
namespace Go.Proofs.YtfhfbpmlnjdfoaaGreatDoor
open Go Go.RowKit Go.Shelf Go.Lib Tryz
theorem TV{n:CaN}{wh sq:Nat}{F G:List Bk}{O Q:List (Nat×Bk)}{L:List Ent}(h:EnOk n L)(hok:n.Ok):
  (newS n wh sq F O G Q L).bF=G/\(newS n wh sq F O G Q L).bO=Q/\(newS n wh sq F O G Q L).bP=[]:=by
 obtain⟨-,-,-,hl,-⟩:=qp (wh:=wh) (sq:=sq) (F:=F) (G:=G) (O:=O) (Q:=Q) h hok;have:=hl.oth;simp only[caS0]at this;exact⟨this.2.2.2.2.1,this.2.2.2.2.2.1,this.2.2.2.2.2.2.1⟩
structure TelY(bad:Prop)(n:CaN)(F:List Bk)(O:List (Nat×Bk))(Q:List Ent->Nat->Nat->Prop):Prop where
 ok:n.Ok
 fl:F.length=n.size
 su:okS (curB F O 0)=true
 ns:dsS (natsI (numsS (curB F O 0)))=n.C
 zs:∀j,j<n.lo+n.lo+n.lo->curB F O (1+2*n.pa+n.jo+j)=zB\/bad/\sealB (curB F O (1+2*n.pa+n.jo+j))≠curB F O (1+2*n.pa+n.jo+j)
 o5:O.length<=50000
 en:∀{S:Nat->Prop} {w w':World} {b:Nat} {e:Ending},EnOut S w b F O n.jo n.pa e w'->(bad/\∃(ao:Option Addr) (ln cap wh sq:Nat) (c:Int),c≠0/\e=.returned (.tuple #[.int .i64 (wh:Int),.int .i64 (sq:Int),.slice ao ln cap,.int .i64 c])/\Dv S w' b F O []/\Upd S w w')\/
  ∃(v:Value) (L:List Ent) (wh sq:Nat),Q L wh sq/\e=.returned (.tuple #[.int .i64 (wh:Int),.int .i64 (sq:Int),v,.int .i64 0])/\Sl w' 37 4 v L.length (L.flatMap entC)/\From w.heap.size v/\
  Dv (fun j=>S j/\∀g,v.ownBlock=some g->g≠j) w' b F O []/\Upd S w w'
 qq:∀{L:List Ent} {wh sq:Nat},Q L wh sq->EnOk n L/\wh<=1/\sq+1<1099511627776
theorem XW{bad:Prop}{own:Nat->Nat}{w:World}{ssd back:Nat}{F G:List Bk}{O Q:List (Nat×Bk)}{n:CaN}{Qp:List Ent->Nat->Nat->Prop}(hD:Dvs own w ssd back F O G Q [])(hE:TelY bad n F O Qp)(hG:G.length=n.bl):
  Calls prog 23 #[ptr ssd,ptr back] w (fun e w'=>(bad/\∃cd,cd≠0/\zaP own w ssd back F O G Q [] cd e w')\/∃L wh sq,Qp L wh sq/\SJ own w ssd back n ((newS n wh sq F O G Q L).ckpt n).1 e w'):=by
 obtain⟨U,hU⟩:=qqe (n.C);obtain⟨w1,hw1⟩:=qqe (((w.alloc (.cells #[ptr ssd] 46)).alloc (.cells #[ptr back] 46)).alloc (.cells #[.pointer none,.pointer none,.pointer none] 67));have hu1:Upd (fun _=>False) w w1:=by rw[hw1];exact(((uur _ w).alloc _).alloc _).alloc _
 have z1:w1.heap.size=w.heap.size+3:=by rw[hw1];simp
 obtain⟨ga1,gb1,gc1,-,-⟩:=yJ w (.cells #[ptr ssd] 46) (.cells #[ptr back] 46) (.cells #[.pointer none,.pointer none,.pointer none] 67);rw[<-hw1]at ga1 gb1 gc1;have D1:=hD.new hu1;have hsup:=Rj D1.kT (fun j hj=> .inr hj) D1.back (fun j h3 h2=>by rcases h2 with h2|h2;rw[h3]at h2;exact absurd h2 de;rw[D1.far j h2]at h3;exact absurd h3 de) D1.nib D1.on2 (by rw[hE.fl];have:=hE.ok.s1;unfold CaN.size;omega) n hE.ok (fun _=>hE.ns);have hR:supR n F G (curB F O 0)=(n.C,0):=by unfold supR;rw[if_pos hE.su,if_pos ⟨hE.fl,hG⟩]
 rw[hR]at hsup;have HS:Hid (Calls prog 21 #[ptr ssd,ptr back] w1 (fun e w'=>e=.returned (.tuple #[.agg n.C.toArray,.int .i64 0])/\Dv (fun j=>own j=2\/w1.heap.size<=j) w' ssd F O []/\Upd (fun j=>own j=2\/w1.heap.size<=j) w1 w')):=hsup;have H:=Y4 hD hE hG hU;have H1:=Y7 hw1 hu1 z1 ga1 gb1 gc1 D1;have ca:=za ga1 0;have cb:=za gb1 0;have hUl:U.length=7:=by rw[hU];rfl
 have hU1:∀v∈U,v.oneCell'=true:=by rw[hU];exact n.C_one
 have hsU:(prog.info? 40).map (·.size)=some U.length:=by rw[hU];exact xf
 rw[<-hU]at HS;clear hD hE hG hU hw1 hu1 z1 ga1 gb1 gc1 D1 hsup hR;have hbl:=qqh vR;go_enter func23,ntmps23
 go_wp2_with fail
 rw[<-H1.o.1];refine HS.o.mono ?_;rintro e w2 ⟨rfl,hd2,hu2⟩;have D2:=H1.o.2.2.2.2.2.2.kP hu2 hd2;have did2:=H1.o.2.2.2.2.2.2.did2 hu2;have hu2s:Hid (w1.heap.size<=w2.heap.size):=hu2.size;obtain⟨own2,hown2⟩:=qqe (grow own 2 w1.heap.size w2.heap.size);rw[<-hown2]at D2 did2;obtain⟨w3,hw3⟩:=qqe (w2.alloc (.cells U.toArray 40));have hu3:=qqu hw3;have D3:=D2.new hu3;have did3:=did2.trans (D2.ki hu3);have o0:∀i,w.heap.size<=i->own i=0:=H.o.1.far;have ga3:=did3.zero H1.o.2.2.2.1 (o0 _ (qXv _));have gb3:=did3.zero H1.o.2.2.2.2.1 (o0 _ oM);have gc3:=did3.zero H1.o.2.2.2.2.2.1 (o0 _ oM);have g83:=qqg hw3;have o83:own2 w2.heap.size=0:=D2.far _ (qXv _);have r83:=zh g83;have ca3:=za ga3.1 0;have hEn:Hid (Calls prog 22 #[.agg U.toArray,ptr ssd] w3 (EnOut (fun j=>own2 j=2\/w3.heap.size<=j) w3 ssd F O n.jo n.pa)):=by
  show Calls _ _ _ _ _;rw[H.o.2.2.2];obtain⟨b1,b2,s1,s2,j1,j2,l1,l2,a1,a2,p1,p2,z⟩:=H.o.2.1.ok;exact SI D3.kT (fun j hj=> .inr hj) D3.nib D3.on2 n.id n.bl n.sl n.jo n.pa n.lo n.ba b1 b2 s1 s2 j1 j2 l1 l2 a1 a2 p1 p2 z H.o.2.1.fl
 have H3:=Y8 hw3 D3 did3 ga3 gb3 gc3 g83 o83;rw[hw3]at r83 ca3;clear hd2 hu2 D2 did2 hown2 hu3 D3 did3 ga3 gb3 gc3 g83 o83 hw3 o0 HS ca cb;go_wp2_with (first
  |(refine zl rfl _ _ _ rfl _ _ U rfl rfl (by rw[hUl];rfl) hsU hU1 ?_)
  |(refine qZg rfl _ _ rfl _ _ rfl _ _ r83 underlying40 rfl hsU ?_)
  |fail)
 rw[<-H3.o.1];refine hEn.out.mono ?_;intro e w4 he;rcases H.o.2.1.en he with⟨hbd,ao0,ln0,cap0,wh,sq,cd,hcd,rfl,hd4,hu4⟩|⟨v,L,wh,sq,hQ,rfl,hsl,hfr,hd4,hu4⟩
 .have D4:=H3.o.2.1.kP hu4 hd4;have did34:=H3.o.2.1.did2 hu4;obtain⟨own4,hown4⟩:=qqe (grow own2 2 w3.heap.size w4.heap.size);rw[<-hown4]at D4 did34;obtain⟨w4a,hw4a⟩:=qqe (((w4.alloc (.cells #[.int .i64 (wh:Int)] 3)).alloc (.cells #[.int .i64 (sq:Int)] 3)).alloc (.cells #[.slice ao0 ln0 cap0] 22));have hu4a:Upd (fun _=>False) w4 w4a:=by rw[hw4a];exact(((uur _ w4).alloc _).alloc _).alloc _
  replace did34:=did34.trans (D4.ki hu4a);replace D4:=D4.new hu4a;have gc4:=did34.zero H3.o.2.2.2.2.2.1.1 H3.o.2.2.2.2.2.1.2;have HW4:=qqh hw4a;have tA:=zF (n:=3) gc4.1 oe;have q0:(cd==0)=false:=by simpa using hcd
  have HX:=Y5 hcd D4 ((H.o.1.ki H1.o.2.1).trans (H3.o.2.2.1.trans did34)) gc4 (show w.heap.size<=w.heap.size+1+1 by omega);clear he hd4 hu4 D4 did34 hown4 gc4 r83 ca3 hcd hu4a;rw[hw4a]at tA;clear hw4a;have hbl:=hbl.out;go_wp2_with (first
   |(refine yB rfl _ rfl hbl ?_)
   |(refine qZi rfl _ _ _ rfl _ _ [Value.pointer none,Value.pointer none,Value.pointer none].toArray rfl rfl tA yx oJ ?_)
   |fail)
  refine qYw (wH rfl _ _ (w.heap.size+1+1) 0 [.pointer none,.pointer none,.pointer none] _ rfl (qYr _ _ _ _ tA) underlying67 rfl yx) rfl ?_;rw[<-HW4.o]
  left
  obtain⟨hcd,D9,did9,gc9,hql⟩:=HX.o;have hur:=zq w4a (w.heap.size+1+1) 0 [Value.pointer none,Value.pointer none,Value.pointer none];have hbn:=ua D9.nib D9.tur gc9.1 gc9.2 (fun k y h=>by simp at h);refine⟨hbd,cd,hcd,rfl,own4,⟨D9.ssd.keep hur (fun j h e=>?_),D9.back.keep hur (fun j h e=>?_),fun j hj=>D9.far j (qXx hur.size hj),D9.nib.keep hur (fun e=>(hbn _ e).2.1 rfl),D9.tur.keep hur (fun e=>(hbn _ e).2.2 rfl),D9.on,D9.ot⟩,did9.mine hur hql⟩
  .have:=(hbn j e).1;rw[this]at h;cases h
  .have:=(hbn j e).1;rw[this]at h;cases h
 obtain⟨own4,D4,did34,ho4⟩:=H3.o.2.1.handed hfr (fun g hg=>hsl.lt hg) hu4 hd4;have did4:=H3.o.2.2.1.trans did34;obtain⟨ao0,cap0,hva⟩:=hsl.rd.j7;subst hva;have HD4:=Y3 D4 did4 did34;have HQ:=Y4 hQ hsl hfr ho4;obtain⟨w4a,hw4a⟩:=qqe (((w4.alloc (.cells #[.int .i64 (wh:Int)] 3)).alloc (.cells #[.int .i64 (sq:Int)] 3)).alloc (.cells #[.slice ao0 L.length cap0] 22));have hu4a:Upd (fun _=>False) w4 w4a:=by rw[hw4a];exact(((uur _ w4).alloc _).alloc _).alloc _
 have hdel:=zdN (hsl.keep hu4a (fun _ _ h=>h));have HDel:=qqh hdel;have HW4:=Y2 hw4a hu4a;clear he hd4 hu4 D4 did4 did34 r83 ca3 hQ hsl hfr ho4 hw4a hu4a hdel;have hmf:=qqf;go_wp2_with fail
 rw[<-HW4.o.1];refine HDel.out.mono ?_;rintro e w4b ⟨v',rfl,hsl',hob,hub⟩;obtain⟨ao,cap,hva⟩:=hsl'.rd.j7;subst hva;obtain⟨ln,hln⟩:=qqe ((dirE L L.length).length);rw[<-hln]at hsl'⊢;have c12:w4b.cell? ⟨w4.heap.size+1+1,0,none⟩=some (.slice ao0 L.length cap0):=by
  have g:w4a.heap[w4.heap.size+1+1]?=some (.cells #[.slice ao0 L.length cap0] 22 (0,0)):=by rw[HW4.o.1];exact zc _ _ oe
  rw[za ((hub.block _ (zf g) (fun e=>by have:=HQ.o.2.1.lt (g:=w4.heap.size+1+1) (by simpa[Value.ownBlock]using e);omega)).trans g)];rfl
 have f12:w4b.frozen? ⟨w4.heap.size+1+1,0,none⟩=false:=by
  have g:w4a.heap[w4.heap.size+1+1]?=some (.cells #[.slice ao0 L.length cap0] 22 (0,0)):=by rw[HW4.o.1];exact zc _ _ oe
  exact zg ((hub.block _ (zf g) (fun e=>by have:=HQ.o.2.1.lt (g:=w4.heap.size+1+1) (by simpa[Value.ownBlock]using e);omega)).trans g) 0
 have HB:=Y4 hsl' hob hub hln;clear hsl' hob hub hln;go_wp2_with fail
 have hsz:w4.heap.size+3<=w4b.heap.size:=by
  have h1:=HB.o.2.2.1.size;have h2:w4a.heap.size=w4.heap.size+3:=by rw[HW4.o.1];simp
  omega
 obtain⟨m,hm⟩:∃m,m+1+1+1=w4b.heap.size:=⟨w4b.heap.size-3,oM⟩
 obtain⟨m0,hm0⟩:=qqe (w4.heap.size);obtain⟨q,hq⟩:=qqe (w.heap.size);obtain⟨s8,hs8⟩:=qqe (w2.heap.size);rw[<-hm,<-hm0,<-hq,<-hs8];obtain⟨w4c,hw4c⟩:=qqe (w4b.setCell ⟨m0+1+1,0,none⟩ (.slice ao ln cap));rw[<-hw4c];obtain⟨w5,hw5⟩:=qqe ((((w4c.alloc (.cells #[.pointer none] 62)).alloc (.cells #[.pointer none,.pointer none,.pointer none] 67)).alloc (.cells #[.slice none 0 0] 68)).alloc (.cells (XT s8 q m0 m) 71))
 change Calls _ _ _ ((((w4c.alloc (.cells #[.pointer none] 62)).alloc (.cells #[.pointer none,.pointer none,.pointer none] 67)).alloc (.cells #[.slice none 0 0] 68)).alloc (.cells (XT s8 q m0 m) 71)) _
 rw[<-hw5];have HR:Hid (Calls prog 61 #[.slice (some ⟨m+1+1+1+1+1+1,0,none⟩) 4 4] w5 (qw (fun c W=>bad/\c=12/\∃o,Dvs o W ssd back F O G Q []/\Did own o w W/\(W.heap[q+1+1]?=some (.cells #[.pointer none,.pointer none,.pointer none] 67 (0,0))/\o (q+1+1)=0)) (fun W=>∃own' c p li lc lf,CaAt own' W c n p ((newS n wh sq F O G Q L).ckpt n).1/\(p.ssd=ssd/\p.back=back)/\Did own own' w W/\(W.heap[q+1+1]?=some (.cells #[.pointer none,.pointer none,.pointer none] 67 (0,0))/\own' (q+1+1)=0)/\Bx own' W m (ptr c) [ptr li,ptr lc,ptr lf]/\Lg3 own' W n ssd li lc lf))):=by
  show Calls _ _ _ _ _;obtain⟨hD0,hE,hG,hU⟩:=H.o;obtain⟨-,hu1,z1,-,-,-,D1⟩:=H1.o;obtain⟨-,D3,did3,ga3,gb3,gc3,g83,o83⟩:=H3.o;obtain⟨D4,did4,did34⟩:=HD4.o;obtain⟨hw4a,hu4a⟩:=HW4.o;obtain⟨hsl',hob,hub,hln⟩:=HB.o;obtain⟨hQ,hsl,hfr,ho4⟩:=HQ.o;rw[<-hq]at ga3 gb3 gc3 z1;rw[<-hs8,hU]at g83;rw[<-hs8]at o83;have hn4:=D4.nib.lt;have ht4:=D4.tur.lt;have hn3:=D3.nib.lt;have ht3:=D3.tur.lt;have hz34:=did34.upd.size;have l8:=zf g83;have lc:=zf gc3.1;have hs18:w1.heap.size<=s8:=by rw[hs8];exact hu2s.out
  have gW:∀j,(Value.slice ao0 L.length cap0).ownBlock=some j->own4 j=0/\j≠0/\j≠1:=fun j hj=>by
   have h:=ho4 j hj;exact⟨h.2,oM,oM⟩
  have D4b:=(D4.new hu4a).kv hub gW;have n12:own4 (m0+1+1)=0:=D4.far _ oM;have hu4c:Upd (fun j=>j=m0+1+1) w4b w4c:=by rw[hw4c];exact zj _ _ _ _
  have D4c:=D4b.kv hu4c (fun j e=>by subst e;exact⟨n12,oM,oM⟩);obtain⟨e3,e4,e5,e6,-,hu5⟩:=xC w4c (.cells #[.pointer none] 62) (.cells #[.pointer none,.pointer none,.pointer none] 67) (.cells #[.slice none 0 0] 68) (.cells (XT s8 q m0 m) 71);have hzc:w4c.heap.size=m+1+1+1:=by rw[hm,hw4c];simp
  rw[<-hw5,hzc]at e3 e4 e5 e6;rw[<-hw5]at hu5;have D5:=D4c.new hu5;have hkeep:∀{b:Nat} {o:Obj},w3.heap[b]?=some o/\own2 b=0->w5.heap[b]?=some o/\own4 b=0:=fun{b o} h=>by
   have h4:=did34.zero h.1 h.2;have hl:=zf h.1;refine⟨?_,h4.2⟩;rw[hu5.block _ (by have:=zf h4.1;have:=hub.size;have:=hu4a.size;have:=hu4c.size;omega) id,hu4c.block _ (by have:=zf h4.1;have:=hub.size;have:=hu4a.size;omega) oM,hub.block _ (by have:=zf h4.1;have:=hu4a.size;omega) (fun e=>by have:=(ho4 b e).1;omega),hu4a.block _ (zf h4.1) id];exact h4.1
  have hww3:w.heap.size<=w3.heap.size:=qXx hu1.size did3.upd.size;have dwa:Did own own4 w w4a:=((hD0.ki hu1).trans did4).trans (D4.ki hu4a);have dwb:Did own own4 w w4b:=⟨dwa.upd.new hub (fun i hi e=>by have:=(ho4 i e).1;omega),dwa.old,dwa.new,fun j hj=>dwa.far j (by have:=hub.size;omega)⟩
  have dw:Did own own4 w w5:=(dwb.mine hu4c oM).trans (D4c.ki hu5);have ka:=hkeep ga3;have kb:=hkeep gb3;have kc:=hkeep gc3;have k8:=hkeep ⟨g83,o83⟩;have of:∀i,m0<=i->own4 i=0:=fun i hi=>D4.far i oM;rw[<-hln]at hob;have hms:w3.heap.size<=m0:=by rw[hm0];exact hz34
  have hmm:m0<=m:=by have:=hsz;omega
  obtain⟨b0,b1,b2,bz,-⟩:=yJ w4 (.cells #[.int .i64 (wh:Int)] 3) (.cells #[.int .i64 (sq:Int)] 3) (.cells #[.slice ao0 L.length cap0] 22);rw[<-hw4a,<-hm0]at b0 b1 b2;rw[<-hw4a]at bz;have hgm:∀i,(Value.slice ao0 L.length cap0).ownBlock=some i->w3.heap.size<=i/\i<m0/\own4 i=0:=fun i e=>⟨(ho4 i e).1,by rw[hm0];exact hsl.lt e,(ho4 i e).2⟩
  have up:∀{i:Nat} {o:Obj},w4a.heap[i]?=some o->m0<=i->i≠m0+1+1->w5.heap[i]?=some o:=fun{i o} h h1 h2=>by
   have hl:=zf h;rw[hu5.block _ (by have:=hub.size;have:=hu4c.size;omega) id,hu4c.block _ (by have:=hub.size;omega) h2,hub.block _ hl (fun e=>by have:=(hgm i e).2.1;omega)];exact h
  have e0:=up b0 (qXv _) oM;have e1:=up b1 oM oM;have e2:w5.heap[m0+1+1]?=some (.cells #[.slice ao ln cap] 22 (0,0)):=by
   have h4b:w4b.heap[m0+1+1]?=some (.cells #[.slice ao0 L.length cap0] 22 (0,0)):=(hub.block _ (zf b2) (fun e=>by have:=(hgm _ e).2.1;omega)).trans b2;rw[hu5.block _ (by have:=hu4c.size;have:=zf h4b;omega) id,hw4c];exact xP h4b
  have hv5:Sl w5 37 4 (.slice ao ln cap) ln ((dirE L L.length).flatMap entC):=
   (hsl'.keep hu4c (fun i e h=>by rw[hob]at e;have:=(hgm i e).2.1;omega)).keep hu5 (fun _ _ h=>h)
  obtain⟨Fx,hFx⟩:∃Fx:Nat->Option Obj,Fx=fun b=>if b=m+1+1+1+1+1+1 then some (.cells (XT s8 q m0 m) 71)else if b=s8 then some (.cells n.C.toArray 40)else if b=q then some (.cells #[ptr ssd] 46)else if b=q+1 then some (.cells #[ptr back] 46)
   else if b=q+1+1 then some (.cells #[.pointer none,.pointer none,.pointer none] 67)else if b=m0 then some (.cells #[.int .i64 (wh:Int)] 3)else if b=m0+1 then some (.cells #[.int .i64 (sq:Int)] 3)else if b=m0+1+1 then some (.cells #[.slice ao ln cap] 22)
   else if(Value.slice ao0 L.length cap0).ownBlock=some b then w5.heap[b]? else none:=⟨_,rfl⟩
  have hK:Kps own4 w5 Fx:=by
   intro b o hb;rw[hFx]at hb;simp only[]at hb;split at hb
   .rename_i h;subst h;cases hb;exact⟨e6,of _ oM⟩
   split at hb
   .rename_i h;subst h;cases hb;exact k8
   split at hb
   .rename_i h;subst h;cases hb;exact ka
   split at hb
   .rename_i h;subst h;cases hb;exact kb
   split at hb
   .rename_i h;subst h;cases hb;exact kc
   split at hb
   .rename_i h;subst h;cases hb;exact⟨e0,of _ oM⟩
   split at hb
   .rename_i h;subst h;cases hb;exact⟨e1,of _ oM⟩
   split at hb
   .rename_i h;subst h;cases hb;exact⟨e2,of _ oM⟩
   split at hb
   .rename_i h;exact⟨hb,(hgm _ h).2.2⟩
   .cases hb
  have hFv:∀i,(Value.slice ao ln cap).ownBlock=some i->Fx i=w5.heap[i]?:=fun i e=>by
   rw[hob]at e;have h:=hgm i e;rw[hFx];simp only[];rw[if_neg oM,if_neg oM,if_neg oM,if_neg oM,if_neg oM,if_neg oM,if_neg oM,if_neg oM,if_pos e]
  obtain⟨en,hwh,hsq⟩:=hE.qq hQ;have n6:(newS n wh sq F O G Q L).bF=G/\(newS n wh sq F O G Q L).bO=Q/\(newS n wh sq F O G Q L).bP=[]:=TV en hE.ok;obtain⟨n1,n2,n3,n4,n5⟩:=qp (n:=n) (wh:=wh) (sq:=sq) (F:=F) (G:=G) (O:=O) (Q:=Q) en hE.ok;have hnew:∀o W,Dvs o W ssd back F O G Q []->Did own o w W->Kps o W Fx->Calls prog 74 #[.agg n.C.toArray,ptr ssd,ptr back,.int .i64 (wh:Int),.int .i64 ((sq+1:Nat):Int),.slice ao ln cap] W (ZG o W ssd back n (newS n wh sq F O G Q L)):=fun o W hD _ hk=>
   zcm hD.ssd hD.back hD.far hD.nib hD.tur hD.on hD.ot hE.ok hE.fl hG wh (sq+1) hwh hsq ao ln cap (newS n wh sq F O G Q L) (fun o2 W2 c p d2 h=>by
    have hk2:=hk.did d2;have hv2:Sl W2 37 4 (.slice ao ln cap) ln ((dirE L L.length).flatMap entC):=hv5.same (fun i e=>by
     obtain⟨x,hx⟩:∃x,w5.heap[i]?=some x:=⟨_,qxe (hv5.lt e)⟩
     rw[hx];exact(hk2 i x ((hFv i e).trans hx)).1)
    rw[hln]at hv2⊢;exact TO h hv2 (fun i e=>by
     obtain⟨x,hx⟩:∃x,w5.heap[i]?=some x:=⟨_,qxe (hv5.lt (by rw[hln];exact e))⟩
     exact(hk2 i x ((hFv i (by rw[hln];exact e)).trans hx)).2) (tw n.bl n.sl) n5.1 n5.2.1 n5.2.2.1 (fun x _=>⟨vl _ _,wg _ _⟩) ⟨n5.2.2.2,n5.2.2.2,n5.2.2.2⟩)
  have hr:=SK (own:=own) (own':=own4) (w:=w) (W:=w5) (g:=m+1+1+1+1+1+1) (m:=m) (m0:=m0) (s8:=s8) (q:=q) (Fx:=Fx) (ao:=ao) (ln:=ln) (cap:=cap) oM hE.fl hE.zs n1 n6 n2 n3 hE.o5 hnew oM D5 dw hK ⟨⟨e3,of _ oM⟩,⟨e4,of _ oM⟩,⟨e5,of _ oM⟩⟩
   (by rw[hFx];simp) (by rw[hFx];simp only[];rw[if_neg oM,if_pos trivial]) (by rw[hFx];simp only[];rw[if_neg oM,if_neg oM,if_pos trivial]) (by rw[hFx];simp only[];rw[if_neg oM,if_neg oM,if_neg oM,if_pos trivial])
   (by rw[hFx];simp only[];rw[if_neg oM,if_neg oM,if_neg oM,if_neg oM,if_neg oM,if_pos trivial]) (by rw[hFx];simp only[];rw[if_neg oM,if_neg oM,if_neg oM,if_neg oM,if_neg oM,if_neg oM,if_pos trivial])
   (by rw[hFx];simp only[];rw[if_neg oM,if_neg oM,if_neg oM,if_neg oM,if_neg oM,if_neg oM,if_neg oM,if_pos trivial])
   oj
   oj
   oj
  refine hr.mono fun e W ⟨c,he,h1,h2⟩=>⟨c,he,fun hc=>?_,fun hc=>?_⟩
  .obtain ⟨o6,c6,p6,li,l2,l3,hca,hp,hd,hk,hb,hL⟩:=h1 hc;exact⟨o6,c6,p6,li,l2,l3,hca,hp,hd,hk _ _ oI,hb,hL⟩
  .obtain ⟨hbd,hc12,o6,hD,hd,hk⟩:=h2 hc;exact⟨hbd,hc12,o6,hD,hd,hk _ _ oI⟩
 have HM:Hid (q+1+1<m0/\m0<=m):=by
  have h1:=H1.o.2.2.1;have h2:=zf (H3.o.2.2.2.2.2.1.1);have h3:=HD4.o.2.2.upd.size;exact⟨oM,oM⟩
 clear hw5 hm hm0 hs8 H3 HD4 hEn hw4c hsz c12 f12;refine HR.o.mono ?_;rintro e w6 ⟨c0,rfl,h1,h2⟩;by_cases hc0:c0=0
 rotate_left
 .obtain ⟨hbd,rfl,o6,D6,did6,gc6⟩:=h2 hc0;have tA:=zF (n:=3) gc6.1 oe;have HX:=Y5 (show(12:Int)≠0 by decide) D6 did6 gc6 (show w.heap.size<=q+1+1 by omega);clear h1 h2 D6 did6 gc6 HR hc0;obtain⟨cd,hcd12⟩:∃cd:Int,cd=12:=⟨_,rfl⟩
  rw[<-hcd12]at HX⊢;have q0:(cd==0)=false:=by rw[hcd12];rfl
  clear hcd12;rw[hq]at tA HX;have hbl:=hbl.out;go_wp2_with (first
   |(refine yB rfl _ rfl hbl ?_)
   |(refine qZi rfl _ _ _ rfl _ _ [Value.pointer none,Value.pointer none,Value.pointer none].toArray rfl rfl tA yx oJ ?_)
   |fail)
  refine qYw (wH rfl _ _ (w.heap.size+1+1) 0 [.pointer none,.pointer none,.pointer none] _ rfl (qYr _ _ _ _ tA) underlying67 rfl yx) rfl ?_
  left
  obtain⟨hcd,D9,did9,gc9,hql⟩:=HX.o;have hur:=zq w6 (w.heap.size+1+1) 0 [Value.pointer none,Value.pointer none,Value.pointer none];have hbn:=ua D9.nib D9.tur gc9.1 gc9.2 (fun k y h=>by simp at h);refine⟨hbd,cd,hcd,rfl,o6,⟨D9.ssd.keep hur (fun j h e=>?_),D9.back.keep hur (fun j h e=>?_),fun j hj=>D9.far j (qXx hur.size hj),D9.nib.keep hur (fun e=>(hbn _ e).2.1 rfl),D9.tur.keep hur (fun e=>(hbn _ e).2.2 rfl),D9.on,D9.ot⟩,did9.mine hur hql⟩
  .have:=(hbn j e).1;rw[this]at h;cases h
  .have:=(hbn j e).1;rw[this]at h;cases h
 subst hc0;obtain⟨o6,c6,p6,li,l2,l3,hca,hp,hd,hk,hb,hL⟩:=h1 rfl;have H6:=Y6 hca hp hd hk hb hL;have c13:=za hb.1.1 0;have r14:=zh hb.2.1.1;have c15:=za hb.2.2.1 0;have hqq:=hq;have HQw:Hid (w.heap.size<=q+1+1):=by show _<=_;omega
 clear h1 h2 hca hp hd hk hb hL HR;go_wp2_with fail
 rw[<-hqq];clear hq hqq;have tA:=zF (n:=3) H6.o.2.2.2.1.1 oe;refine qZj (S:=fun W=>W.cell? ⟨m+1+1+1,0,none⟩=some (ptr c6)/\W.rangeAt (m+1+1+1+1) 0 [ptr li,ptr l2,ptr l3]/\W.cell? ⟨m+1+1+1+1+1,0,none⟩=some (.slice none 0 0)) kR (⟨by rw[qYo];exact c13,by rw[qYq];exact r14,by rw[qYo];exact c15⟩) (fun hHeld=>?_);refine Wl.i [0,2] ?_;iterate 2 refine Wl.t hHeld ?_
 refine Wl.o ?_;refine Wl.l 1 (fun w h=>h.2.1) underlying67 yx hHeld ?_;refine Wl.r 3 (fun K hK=>?_);go_simp
 refine hK.o _ _ (hHeld) (fun hHeld2=>?_);clear hK K;have hud:Upd (fun _=>False) w6 w6.drew:=(uur _ w6).drew;have tA7:w6.drew.there (q+1+1) 0 3:=zF (n:=3) (hud.j6 H6.o.2.2.2.1.1) oe;have hur:=zq w6.drew (q+1+1) 0 [ptr li,ptr l2,ptr l3];have hHeld3:(w6.drew.setCells (q+1+1) 0 [ptr li,ptr l2,ptr l3]).cell? ⟨m+1+1+1,0,none⟩=some (ptr c6)/\(w6.drew.setCells (q+1+1) 0 [ptr li,ptr l2,ptr l3]).rangeAt (m+1+1+1+1) 0 [ptr li,ptr l2,ptr l3]/\(w6.drew.setCells (q+1+1) 0 [ptr li,ptr l2,ptr l3]).cell? ⟨m+1+1+1+1+1,0,none⟩=some (.slice none 0 0):=
  ⟨hur.j4 hHeld2.1 jA,hur.range hHeld2.2.1 jA,hur.j4 hHeld2.2.2 jA⟩
 refine Wl.r 4 (fun K hK=>?_);rw[if_pos oD];refine qZk _ _ _ rfl _ _ [ptr li,ptr l2,ptr l3].toArray rfl rfl tA7 yx oJ ?_;simp only[Act.put,qXi];refine hK.o _ _ (hHeld3) (fun _=>?_);clear hK K hHeld hHeld2;refine Wl.r 5 (fun K hK=>?_);go_simp
 refine hK.o _ _ (hHeld3) (fun _=>?_);clear hK K;refine Wl.r 6 (fun K hK=>?_);go_simp
 refine hK.o _ _ (hHeld3) (fun _=>?_);clear hK K;refine Wl.d ?_;have HE:=Y2 hud hur;clear hHeld3 hud hur c13 r14 c15 tA;go_wp2
 refine qYw (wH rfl _ _ (q+1+1) 0 [ptr li,ptr l2,ptr l3] _ rfl (qYr _ _ _ _ tA7) underlying67 rfl yx) rfl ?_;obtain⟨hca,hp,hd,hk,hb,hL⟩:=H6.o;obtain⟨hud,hur⟩:=HE.o;have d7:=hca.ki hud;have hca7:=hca.new hud;have k7:=d7.zero hk.1 hk.2;have L7:=hL.did d7;have hbn:=ua hca7.nib hca7.tur k7.1 k7.2 (fun k y h=>by simp at h);have ln:∀{l:Nat} {v:Array Value} {t:TypeId},w6.drew.heap[l]?=some (.cells v t (0,0))->(∃x,v[0]?=some (.pointer (some x)))->l≠q+1+1:=by
  rintro l v t h ⟨x,hx⟩ e;rw[e,k7.1]at h;cases h;simp at hx
 have hqw:w.heap.size<=q+1+1:=HQw.out;exact .inr ⟨L,wh,sq,HQ.o.1,c6,p6,o6,li,l2,l3,rfl,hca7.kv hur hbn,hp.1,hp.2,(hd.trans d7).mine hur hqw,L7.1.1.keep hur (ln L7.1.1.str ⟨_,rfl⟩),L7.1.2.1.keep hur (ln L7.1.2.1.str ⟨_,rfl⟩),L7.1.2.2.keep hur (ln L7.1.2.2.str ⟨_,rfl⟩),L7.2.1,L7.2.2.1,L7.2.2.2⟩
end Go.Proofs.YtfhfbpmlnjdfoaaGreatDoor
namespace Go.Proofs.YtfhfbpmlnjdfoaaGreatDoor
open Go Go.RowKit Tryz
theorem vS{α β:Type}{f:α->β}:∀{l:List α},(l.map f).Nodup->∀{x y:α},x∈l->y∈l->f x=f y->x=y
 |[],_,x,_,hx,_,_=>by cases hx
 |z::l,h,x,y,hx,hy,e=>by
  rw[qzm,qXb]at h;rcases qzr.1 hx with e1|h1
  .rcases qzr.1 hy with e2|h2
   .rw [e1,e2]
   .exact absurd (by rw[<-e1,e];exact List.mem_map_of_mem h2) h.1
  .rcases qzr.1 hy with e2|h2
   .exact absurd (by rw[<-e2,<-e];exact List.mem_map_of_mem h1) h.1
   .exact vS h.2 h1 h2 e
theorem EnOk.nd{n:CaN}{L:List Ent}(h:EnOk n L):((L.map Ent.toI).map EI.b).Nodup:=by
 rw[qzn];refine qXf.2 (h.2.2.imp fun h e=>?_);simp only[Function.comp,Ent.toI]at e;omega
section
variable{n:CaN}{Z:Nat->Bk}{a:CaS}{E:Nat->List Ent}{R:Nat->List Int}{f0 com fp:Nat}{S:Nat->Prop}{w w':World}{b:Nat}{e:Ending}{F:List Bk}{O:List (Nat×Bk)}
theorem TW{wh sq:Nat}{G:List Bk}{Q:List (Nat×Bk)}{L:List Ent}(h:EnOk n L)(hok:n.Ok):(newS n wh sq F O G Q L).ents n=dirE L L.length:=by
 obtain⟨-,-,hsm,hl,h1,-,-,-⟩:=qp (n:=n) (wh:=wh) (sq:=sq) (F:=F) (G:=G) (O:=O) (Q:=Q) h hok;have hE:=CaS.ents_enok hl.tie hsm;have hp:(dirE L L.length).Pairwise (fun x y=>x.b<y.b):=by rw[Yr];exact h.2.2.filter _
 refine Yo (fun x:Ent=>(x.b:Int)) (hE.2.2.imp fun h=>oM) (hp.imp fun h=>oM) (fun x=>?_);rw[CaS.kI hl.tie.hpl];constructor
 .rintro ⟨k,hk,h2,rfl⟩;by_cases hx:∀y∈dirE L L.length,y.b≠k
  .exact absurd ((hl.blk k hx).1.trans (wg _ _)) h2
  .have:∃y,y∈dirE L L.length/\y.b=k:=Classical.byContradiction fun hc=>hx fun y hy e=>hc ⟨y,hy,e⟩;obtain⟨y,hy,rfl⟩:=this;obtain⟨g1,g2,-⟩:=hl.got y hy;rw[g1,g2];exact hy
 .intro hx;obtain⟨g1,g2,-⟩:=hl.got x hx;refine⟨x.b,(h1 x hx).1,fun e=>?_,?_⟩
  .rw [g1]at e;have:(x.s:Int)= -1:=congrArg Prod.fst e;omega
  .rw [g1,g2];rfl
theorem EL{M:List Ent}(hen:EnOk n M){c:Int}{L:List EI}{wh sq wh' sq':Nat}(hL0:∀L0,Lists (enM M) L0->¬(L0.map EI.s).Nodup->False)
  (hx:(c=12/\L=[]/\(¬((M.map Ent.toI).map EI.b).Nodup\/∃L0,Lists (enM M) L0/\¬(L0.map EI.s).Nodup))\/(c=0/\wh'=wh/\sq'=sq/\Lists (enM M) L/\(L.map EI.s).Nodup/\L.Pairwise (fun x y=>x.b<y.b))):
  c=0/\wh'=wh/\sq'=sq/\L=M.map Ent.toI:=by
 have hmL:∀e,e∈M.map Ent.toI↔enM M e.b=some e:=fun e=>by
  unfold enM;rw[Yn hen.nd];exact⟨fun h=>⟨h,rfl⟩,fun h=>h.1⟩
 rcases hx with⟨-,-,hx|⟨L0,h1,h2⟩⟩|⟨h1,h2,h3,hL,-,hst⟩
 .exact absurd hen.nd hx
 .exact (hL0 L0 h1 h2).elim
 .exact ⟨h1,h2,h3,Yo EI.b hst (qXf.2 (hen.2.2.imp fun h=>by show(_:Int)<_;simp only[Ent.toI];omega)) (fun x=>(hL.2 x).trans (hmL x).symm)⟩
theorem SN{M:List Ent}(hen:EnOk n M)(L0:List EI)(hL0:Lists (enM M) L0):(L0.map EI.s).Nodup:=by
 have hmL:∀e,enM M e.b=some e->e∈M.map Ent.toI:=fun e h=>by
  unfold enM at h;exact((Yn hen.nd).1 h).1
 refine qXf.2 ((qXf.1 hL0.1).imp_of_mem fun{x y} hx hy hb hs=>hb ?_);obtain⟨x',hx',rfl⟩:=qzv.1 (hmL x ((hL0.2 x).1 hx));obtain⟨y',hy',rfl⟩:=qzv.1 (hmL y ((hL0.2 y).1 hy));have hs:(x'.s:Int)=(y'.s:Int):=hs;rw[vS hen.2.1 hx' hy' oM]
def zdQ(n:CaN)(F:List Bk)(wh sq:Nat)(M:List Ent):List Bk:=flushF F (ckO (1+(1-wh)*n.pa) n.pa (pagesB (sq+1) M))
end
def Wk(F F':List Bk):Prop:=∀s,F'.getD s zB=F.getD s zB\/okP (F'.getD s zB)=false/\okR (F'.getD s zB)=false
section
variable{n:CaN}{Z:Nat->Bk}{a:CaS}{E:Nat->List Ent}{R:Nat->List Int}{f0 com fp:Nat}{F':List Bk}
theorem XX{O:List (Nat×Bk)}{base m:Nat}{F:List Bk}(h:∀k,k<2->readOk (secsOf F O (base+k*m) m)=true->∃s,s<=fp/\readSeq (secsOf F O (base+k*m) m)=s/\readEs (secsOf F O (base+k*m) m)=E s):
  ∀k,k<=2->(nwS F O base m k).1=true->∃wh s,wh<k/\s<=fp/\nwS F O base m k=(true,wh,s,E s)
 |0,_,h0=>by cases h0
 |k+1,hk,h0=>by
  rw[nwS]at h0⊢;split
  .next hc=>
   rw[qxo]at hc;obtain⟨s,s1,s2,s3⟩:=h k oM hc.1;exact⟨k,s,oM,s1,by rw[s2,s3]⟩
  .next hc=>
   rw[if_neg hc]at h0;obtain⟨wh,s,w1,w2,w3⟩:=XX h k oM h0;exact⟨wh,s,oM,w2,w3⟩
theorem se{F:List Bk}(hF:Wk F F'){base m:Nat}:∀k,(scanTo F' [] base m k).Sublist (scanTo F [] base m k)
 |0=>List.Sublist.refl _
 |k+1=>by
  rw[scanTo,scanTo];refine(se hF k).append ?_;show(scL m k (F'.getD (base+k) zB)).Sublist (scL m k (F.getD (base+k) zB));rcases hF (base+k)with e|⟨-,e⟩
  .rw [e];exact List.Sublist.refl _
  .unfold scL Ye;rw[e];exact List.nil_sublist _
theorem Hs.weak(h:Hs n Z a E R f0 com fp)(hok:n.Ok)(hN:a.next<=1099511627776)(hF:Wk a.dF F'){S:Nat->Prop}{w w':World}{b:Nat}{e:Ending}(he:EnOut S w b F' [] n.jo n.pa e w'):
  (∃(ao:Option Addr) (ln cap wh sq:Nat) (c:Int),c≠0/\e=.returned (.tuple #[.int .i64 (wh:Int),.int .i64 (sq:Int),.slice ao ln cap,.int .i64 c])/\Dv S w' b F' [] []/\Upd S w w')\/
  ∃(v:Value) (t wh sq:Nat),e=.returned (.tuple #[.int .i64 (wh:Int),.int .i64 (sq:Int),v,.int .i64 0])/\t<=fp/\wh<=1/\sq<=fp/\Sl w' 37 4 v (E t).length ((E t).flatMap entC)/\From w.heap.size v/\
   Dv (fun j=>S j/\∀g,v.ownBlock=some g->g≠j) w' b F' [] []/\Upd S w w':=by
 obtain⟨v,L,wh',sq',c,rfl,hsl,hfr,hd,hu,hx⟩:=he;by_cases hc:c=0
 rotate_left
 .obtain ⟨ao,cap,hva⟩:=hsl.rd.j7;subst hva;exact .inl ⟨ao,L.length,cap,wh',sq',c,hc,rfl,hd.wide (fun j h=>h.1),hu⟩
 subst hc
 right
 have c4:=h.c4;have c3:=h.c3;have c1:=h.c1;have hmu:=Su n.pa h.wh;rcases hx with⟨hx,-⟩|⟨hn1,Rs,hp,hle,r,hr,hx⟩
 .cases hx
 have hpg:∀k,k<2->∀i,i<n.pa->tH E fp i (F'.getD (1+k*n.pa+i) zB):=fun k hk i hi=>by
  rcases hF (1+k*n.pa+i)with q|⟨q,-⟩
  .rw [q];by_cases e:k=a.which
   .rw [e,h.sd i hi];exact vH oM i
   .have:k=1-a.which:=by have:=h.wh;omega
    rw[this];exact h.so i hi
  .exact .inl q
 obtain⟨wh,s0,w1,w2,hnw⟩:=XX (E:=E) (fp:=fp) (F:=F') (O:=[]) (base:=1) (m:=n.pa) (fun k hk hro=>by
  obtain⟨s,s1,s2,s3,-⟩:=TA (H:=E) (top:=fp) oM (fun s hs=>((h.en s oM).need hok).2.2) (fun s hs=>((h.en s oM).need hok).2.1) (l:=secsOf F' [] (1+k*n.pa) n.pa) (fun i hi=>by
   rw[xF]at hi;rw[Ym _ _ _ _ _ hi];exact hpg k hk i hi) hro
  exact⟨s,s1,s2,s3⟩) 2 (qXv _) hn1
 rw[hnw]at hx hr;dsimp only at hr hx;obtain⟨sc1,sc2,-⟩:=h.scan n.jo (qXv _);have hsub:(scanTo F' [] n.jb n.jo n.jo).Sublist (scanTo a.dF [] n.jb n.jo n.jo):=se hF _;have hlt:Rs.Pairwise (fun x y=>rseq x<rseq y):=by
  have hne:Rs.Pairwise (fun x y=>rseq x≠rseq y):=(hp.pairwise_iff (fun h=>fun e=>h e.symm)).2 (sc2.sublist hsub);exact(hle.and hne).imp (fun h=>by have:=h.1;have:=h.2;omega)
 obtain⟨r1,r2,r3,r4,r5,r6,r7⟩:=Uo hlt s0 Rs.length (qXv _);rw[List.take_length]at r1 r2 r3 r4 r5 r6 r7;rw[<-hr]at r1 r2 r3 r4 r5 r6 r7;have hmem:∀x∈Rs,∃t,f0<t/\t<=fp/\x=rcN R t:=fun x hx=>by
  obtain⟨t,t1,t2,-,e⟩:=sc1 x (hsub.subset (hp.mem_iff.1 hx));exact⟨t,t1,t2,e⟩
 have hdi:∀i (hi:i<r.d.length),f0<s0+1+i/\s0+1+i<=fp/\natsI r.d[i]=R (s0+1+i):=fun i hi=>by
  obtain⟨q1,q2⟩:=r2 i hi;obtain⟨t,t1,t2,e⟩:=hmem _ q2;obtain⟨n1,n2,-⟩:=h.recN t1 oM;rw[e,n2]at q1;subst q1;rw[e];exact⟨t1,t2,n1⟩
 have hchain:∀k,k<=r.d.length->apRs (enM (E s0)) ((r.d.map natsI).take k)=enM (E (s0+k)):=by
  intro k
  induction k with
  |zero=>intro _;rw[List.take_zero];rfl
  |succ k ih=>
   intro hk;obtain⟨q1,q2,q3⟩:=hdi k oM;have hkl:k<(r.d.map natsI).length:=by rw[qzg];omega
   rw[Ze _ _ hkl,ih oM,qyy,q3];have:=(h.rc (s0+1+k) q1 oM).2;rw[show s0+1+k-1=s0+k by omega]at this;rw[show s0+(k+1)=s0+1+k by omega,this]
 have hF2:apRs (apM ((E s0).map Ent.toI)) (r.d.map natsI)=enM (E (s0+r.d.length)):=by
  have:=hchain r.d.length (qXv _);rw[qXp oe]at this;exact this
 have htfp:s0+r.d.length<=fp:=by
  rcases qXt r.d.length with h0|h0
  .omega
  .have:=(hdi (r.d.length-1) oM).2.1;omega
 have hen:=h.en (s0+r.d.length) oM;have hsq:r.g<=fp:=by
  rcases r7 with e|⟨x,hx,e⟩
  .omega
  .obtain ⟨t,t1,t2,rfl⟩:=hmem x hx;rw[(h.recN t1 oM).2.1]at e;omega
 rw[hF2]at hx;rcases hx with⟨hx,-⟩|⟨-,e1,e2,hL,hns,hst⟩
 .cases hx
 .obtain ⟨-,-,-,hLe⟩:=EL (wh:=wh) (sq:=r.g) (wh':=wh') (sq':=sq') hen (fun L0 h1 h2=>h2 (SN hen L0 h1)) (.inr ⟨rfl,e1,e2,hL,hns,hst⟩);rw[hLe,qzg,XA]at hsl;exact⟨v,s0+r.d.length,wh',sq',rfl,htfp,oM,oM,hsl,hfr,hd,hu⟩
end
def bdB:Bk:=99::List.replicate 63 0
theorem vm:sealB bdB≠bdB:=by decide+kernel
theorem zaQ:okP bdB=false:=by simp[okP,okGet,vm]
theorem EM:okR bdB=false:=by simp[okR,okGet,vm]
theorem EN:okS bdB=false:=by simp[okS,okGet,vm]
theorem EO:cdS bdB=13:=by simp[cdS,yO,okGet,vm]
theorem zaR{F:List Bk}{i:Nat}(hi:i<F.length)(s:Nat):(F.set i bdB).getD s zB=if i=s then bdB else F.getD s zB:=by
 rw[qyh,qyh,qyt];split
 .rfl
 .rfl
def Vk(n:CaN)(L:List Ent)(wh sq:Nat):Prop:=EnOk n L/\wh<=1/\sq+1<1099511627776
theorem Hs.bad{n:CaN}{Z:Nat->Bk}{a:CaS}{E:Nat->List Ent}{R:Nat->List Int}{f0 com fp:Nat}(h:Hs n Z a E R f0 com fp)(hok:n.Ok)(hm:mayS n.I=true)(hN:a.next<1099511627776)(hZ0:Z 0=n.sec)(hZ:∀s,n.jb+n.jo<=s->s<n.ku->Z s=zB){i:Nat}(hi:i<n.size):
  (i=0->okS (curB (a.dF.set i bdB) [] 0)=false/\cdS (curB (a.dF.set i bdB) [] 0)=13)/\
  (i≠0->TelY True n (a.dF.set i bdB) [] (Vk n)):=by
 have hdl:=h.dl;have hat:=zaR (F:=a.dF) (i:=i) oM;have hc:∀s,curB (a.dF.set i bdB) [] s=if i=s then bdB else a.dF.getD s zB:=hat
 constructor
 .intro e;rw[hc,if_pos e];exact⟨EN,EO⟩
 intro hi0;have hsb:=sa (xs:=n.I) rfl hm;have e0:curB (a.dF.set i bdB) [] 0=sectS n.I:=by rw[hc,if_neg hi0];exact(h.fx 0 (.inl rfl)).trans hZ0
 have c4:=h.c4;have hs0:=n.kJ;refine⟨hok,by rw[qzj];exact h.dl,by rw[e0];exact hsb.1,by rw[e0,hsb.2];rfl,fun j hj=>?_,qYf _,fun he=>?_,fun hq=>hq⟩
 .rw [hc];split
  .exact .inr ⟨trivial,vm⟩
  .have e:n.jb=1+2*n.pa:=rfl;exact .inl ((h.fx _ (.inr ⟨oM,oM⟩)).trans (hZ _ oM oM))
 .rcases h.weak hok oM (fun s=>by
   rw[hat];split
   .exact .inr ⟨zaQ,EM⟩
   .exact .inl rfl) he with q|⟨v,t,wh,sq,e1,t1,t2,t3,q1,q2,q3,q4⟩
  .exact .inl ⟨trivial,q⟩
  .exact .inr ⟨v,E t,wh,sq,⟨h.en t oM,t2,oM⟩,e1,q1,q2,q3,q4⟩
def sF(n:CaN)(wh sq:Nat)(F G:List Bk)(L:List Ent):CaS:=((newS n wh sq F [] G [] L).ckpt n).1
section
variable{n:CaN}{wh sq:Nat}{F G:List Bk}{L:List Ent}
theorem SO(h:EnOk n L)(hok:n.Ok):(sF n wh sq F G L).dF=zdQ n F wh sq (dirE L L.length)/\(sF n wh sq F G L).dO=[]/\(sF n wh sq F G L).dP=[]/\(sF n wh sq F G L).bF=G/\(sF n wh sq F G L).bO=[]/\(sF n wh sq F G L).bP=[]/\
  (sF n wh sq F G L).ps=(newS n wh sq F [] G [] L).ps/\(sF n wh sq F G L).sums=(newS n wh sq F [] G [] L).sums:=by
 obtain⟨⟨e1,e2,e3⟩,-,-,hl,-⟩:=qp (n:=n) (wh:=wh) (sq:=sq) (F:=F) (G:=G) (O:=[]) (Q:=[]) h hok;obtain⟨e4,-,-,-,e5,e6,e7,-,e8,-⟩:=hl.oth;have hE:=TW (wh:=wh) (sq:=sq) (F:=F) (O:=[]) (G:=G) (Q:=[]) h hok;unfold sF;rw[CaS.NoP.ckpt_eq ⟨e3,e7⟩,hE];have e8:(newS n wh sq F [] G [] L).next=sq+1+1:=e8;have e4:(newS n wh sq F [] G [] L).which=wh:=e4;have e5:(newS n wh sq F [] G [] L).bF=G:=e5;have e6:(newS n wh sq F [] G [] L).bO=[]:=e6;refine⟨?_,rfl,rfl,?_,rfl,rfl,rfl,rfl⟩
 .show flushF (flushF (newS n wh sq F [] G [] L).dF (newS n wh sq F [] G [] L).dO) (ckO (1+(1-(newS n wh sq F [] G [] L).which)*n.pa) n.pa (pagesB ((newS n wh sq F [] G [] L).next-1) _))=_;rw[e1,e2,e4,e8];rfl
 .show flushF (newS n wh sq F [] G [] L).bF (newS n wh sq F [] G [] L).bO=G;rw[e5,e6];rfl
end
def zaS(own:Nat->Nat)(w:World)(ssd back:Nat)(F G:List Bk)(i:Nat)(e:Ending)(w':World):Prop:=
 ∃(pd:Option Addr) (l1 l2 l3:Option Addr) (cd:Int) (own':Nat->Nat),e=.returned (.tuple #[.pointer pd,.agg #[.pointer l1,.pointer l2,.pointer l3],.slice none 0 0,.int .i64 cd])/\Did own own' w w'/\
  Dv (fun j=>own' j=3) w' back G [] []/\Nib w'/\Tur w'/\(cd≠0/\pd=none/\Dv (fun j=>own' j=2) w' ssd F [] []\/cd=0/\(∃c,pd=some ⟨c,0,none⟩)/\i≠0/\∃F2 O2,F2.length=F.length/\Dv (fun j=>own' j=2) w' ssd F2 O2 [])/\(i=0->cd=13)
theorem EP{own:Nat->Nat}{w:World}{ssd back:Nat}{F G:List Bk}{n:CaN}{i:Nat}(hD:Dvs own w ssd back F [] G [] [])(hok:n.Ok)(hF:F.length=n.size)(hG:G.length=n.bl)
  (h0:i=0->okS (curB F [] 0)=false/\cdS (curB F [] 0)=13) (h1:i≠0->TelY True n F [] (Vk n)):
  Calls prog 23 #[ptr ssd,ptr back] w (zaS own w ssd back F G i):=by
 by_cases hi:i=0
 .obtain ⟨k1,k2⟩:=h0 hi;refine(wI hD n hok jK (fun h=>by rw[k1]at h;cases h) 13 (by unfold supR;rw[if_neg (by rw[k1];decide),k2]) de).mono ?_;rintro e w' ⟨rfl,own',hD',hd⟩;exact⟨none,none,none,none,13,own',rfl,hd,hD'.back,hD'.nib,hD'.tur,.inl ⟨de,rfl,hD'.ssd⟩,fun _=>rfl⟩
 .refine (XW hD (h1 hi) hG).mono ?_;rintro e w' (⟨-,cd,hcd,rfl,own',hD',hd⟩|⟨L,wh,sq,hQ,c,p,own',li,lc,lf,rfl,hca,hp1,hp2,hd,-⟩)
  .exact ⟨none,none,none,none,cd,own',rfl,hd,hD'.back,hD'.nib,hD'.tur,.inl ⟨hcd,rfl,hD'.ssd⟩,fun h=>absurd h hi⟩
  .replace hca:CaAt own' w' c n p (sF n wh sq F G L):=hca;obtain⟨e1,e2,e3,e4,e5,e6,-,-⟩:=SO (wh:=wh) (sq:=sq) (F:=F) (G:=G) hQ.1 hok;have q1:=hca.ssd;have q2:=hca.back;have hl:=hca.fl;rw[e1]at hl;rw[e1,e2,e3,hp1]at q1;rw[e4,e5,e6,hp2]at q2;exact⟨_,_,_,_,0,own',rfl,hd,q2,hca.nib,hca.tur,.inr ⟨rfl,⟨c,rfl⟩,hi,_,_,hl.trans hF.symm,q1⟩,fun h=>absurd h hi⟩
theorem TX{own:Nat->Nat}{w:World}{ssd back m:Nat}{F:List Bk}{n:CaN}{i:Nat}(hD:Dvs own w ssd back F [] (List.replicate m zB) [] [])(hok:n.Ok)(hF:F.length=n.size)(hm:m≠n.bl)
  (h0:i=0->okS (curB F [] 0)=false/\cdS (curB F [] 0)=13) (h1:i≠0->TelY True n F [] (Vk n)):
  Calls prog 23 #[ptr ssd,ptr back] w (zaP own w ssd back F [] (List.replicate m zB) [] [] (if i=0 then 13 else 22)):=by
 by_cases hi:i=0
 .obtain ⟨k1,k2⟩:=h0 hi;rw[if_pos hi];exact wI hD n hok jK (fun h=>by rw[k1]at h;cases h) 13 (by unfold supR;rw[if_neg (by rw[k1];decide),k2]) de
 .rw [if_neg hi];have hT:=h1 hi;exact wI hD n hok jK (fun _=>hT.ns) 22 (by unfold supR;rw[if_pos hT.su,if_neg (by rw[qzi];exact fun h=>hm h.2)]) de
theorem SP{own:Nat->Nat}{w:World}{ssd back:Nat}{F G:List Bk}{O Q:List (Nat×Bk)}{n:CaN}{Qp:List Ent->Nat->Nat->Prop}(hD:Dvs own w ssd back F O G Q [])(hE:Tel n F O Qp)(hG:G.length=n.bl):
  Calls prog 23 #[ptr ssd,ptr back] w (fun e w'=>∃L wh sq,Qp L wh sq/\SJ own w ssd back n ((newS n wh sq F O G Q L).ckpt n).1 e w'):=
 (XW (bad:=False) hD ⟨hE.ok,hE.fl,hE.su,hE.ns,fun j hj=> .inl (hE.zs j hj),hE.o5,fun he=> .inr (hE.en he),hE.qq⟩ hG).mono fun _ _ h=>h.resolve_left fun h=>h.1
theorem Emp.tel{n:CaN}{F:List Bk}{O:List (Nat×Bk)}{wh sq:Nat}(hE:Emp n F O wh sq):Tel n F O (fun L wh' sq'=>L=[]/\wh'=wh/\sq'=sq):=by
 refine⟨hE.ok,hE.fl,hE.su,hE.ns,hE.zs,hE.o5,fun he=>?_,fun hq=>?_⟩
 .obtain ⟨v,L,wh',sq',c,rfl,hsl,hfr,hd,hu,h⟩:=he;rw[hE.nw,hE.js]at h;rcases h with⟨-,-,h⟩|⟨-,R,hp,-,r,hr,h⟩
  .cases h
  .have hR:R=[]:=List.Perm.eq_nil hp;subst hR;have hd0:r.d=[]:=by rw[hr];rfl
   have hg0:r.g=sq:=by rw[hr];rfl
   rw[hd0]at h;have hap:∀L0,Lists (apRs (apM (([]:List Ent).map Ent.toI)) (([]:List (List Nat)).map natsI)) L0->L0=[]:=fun L0 h=>TU h;rcases h with⟨-,-,h|⟨L0,h1,h2⟩⟩|⟨hc,hw,hs,h,-⟩
   .exact absurd qXc h
   .rw [hap L0 h1]at h2;exact absurd qXc h2
   .have hL:=hap L h;subst hL;exact⟨v,[],wh,sq,⟨rfl,rfl,rfl⟩,by rw[hc,hw,hs,hg0],hsl,hfr,hd,hu⟩
 .obtain ⟨rfl,rfl,rfl⟩:=hq;exact⟨⟨fun x hx=>(by cases hx),qXc,List.Pairwise.nil⟩,hE.wh1,hE.sq1⟩
theorem qa{own:Nat->Nat}{w:World}{ssd back:Nat}{F G:List Bk}{O Q:List (Nat×Bk)}{n:CaN}{wh sq:Nat}(hD:Dvs own w ssd back F O G Q [])(hE:Emp n F O wh sq)(hG:G.length=n.bl):
  Calls prog 23 #[ptr ssd,ptr back] w (SJ own w ssd back n ((caS0 n wh (sq+1) F O [] G Q []).ckpt n).1):=
 (SP hD hE.tel hG).mono fun e w' ⟨L,wh',sq',⟨h1,h2,h3⟩,h4⟩=>by
  subst h1;subst h2;subst h3;exact h4
def attS(n:CaN):CaS:=((caS0 n 0 (0+1) (fmtF n (List.replicate n.size zB) []) [] [] (List.replicate n.bl zB) [] []).ckpt n).1
theorem Zn(n:CaN)(a:CaS)(hps:a.ps=List.replicate n.bl (-1,false)):a.ents n=[]:=by
 rw[List.eq_nil_iff_forall_not_mem];intro x hx;obtain⟨k,-,hn,-⟩:=(CaS.kI (by rw[hps];exact qzi)).1 hx;rw[hps]at hn;refine hn ?_;rw[plc,qyh,qys];split<;>rfl
theorem yk(n:CaN):attS n={caS0 n 0 1 (fmtF n (List.replicate n.size zB) []) [] [] (List.replicate n.bl zB) [] []with dF:=flushF (fmtF n (List.replicate n.size zB) []) (ckO (1+n.pa) n.pa (pagesB 1 [])),which:=1,st:=freeTo (List.replicate n.sl 0) (pos (List.replicate n.sl 0) 3)}:=by
 unfold attS;rw[CaS.NoP.ckpt_eq ⟨rfl,rfl⟩];have he:=Zn n (caS0 n 0 (0+1) (fmtF n (List.replicate n.size zB) []) [] [] (List.replicate n.bl zB) [] []) rfl;rw[he];simp only[caS0,Nat.sub_zero,Nat.one_mul,qYe];rfl
theorem EQ(n:CaN):(attS n).Gd n 3:=by
 rw[yk];refine⟨Sd n,⟨fun k v h=>(by cases h),fun q h=>(by cases h),?_,?_,?_,?_,?_,?_⟩,qYf _,qYf _⟩
 .show (2:Nat)<=3;decide
 .show (0:Nat)<=3;decide
 .show (0:Nat)<=3;decide
 .show (0:Nat)<=3;decide
 .show (0:Nat)<=3;decide
 .show (0:Nat)<=3;decide
theorem ER(n:CaN)(hok:n.Ok):∃Z:Nat->Bk,(attS n).Hi n Z/\Z 0=n.sec/\∀s,n.jb+n.jo<=s->s<n.ku->Z s=zB:=by
 have hps:(attS n).ps=List.replicate n.bl (-1,false):=by rw[yk];rfl
 have hen:=Zn n (attS n) hps;have hF0:(List.replicate n.size zB).length=n.size:=qzi;have hz:=n.s0_size;have hs0:n.s0=1+2*n.pa+n.jo+n.lo+n.lo+n.lo:=rfl;have hsl0:=n.kJ;have hp1:1<=n.pa:=by have:=hok.p1;omega
 have hA:=Yt (O:=[]) hok hF0;have hlF:(fmtF n (List.replicate n.size zB) []).length=n.size:=(Xd n _ _).trans hF0;have hF:(attS n).dF=flushF (fmtF n (List.replicate n.size zB) []) (ckO (1+n.pa) n.pa (pagesB 1 [])):=by rw[yk]
 have hget:∀s,s<n.size->(s<1+n.pa\/1+n.pa+n.pa<=s)->(attS n).dF.getD s zB=if s=0 then n.sec else if s=1 then pb0' else if s<n.s0 then zB else curB (List.replicate n.size zB) [] s:=fun s h1 h2=>by
  rw[hF,rT,if_neg oM];exact hA s h1
 have hj2:=hok.j1;refine⟨fun s=>(attS n).dF.getD s zB,Hs.hi (E:=fun _=>[]) (R:=fun _=>[]) (f0:=1) (com:=1) (fp:=1) ?_,?_,fun s h1 h2=>?_⟩
 .refine {
   pl:=by rw[yk];exact fun x hx=>by cases hx
   dl:=by rw[hF,zG];exact hlF
   f1:=by rw[yk];exact qXv 1
   c1:=by rw[yk];exact qXv 1
   c2:=by rw[yk];rfl
   c3:=qXv _
   c4:=by rw[yk];exact qXv 2
   c5:=by rw[yk];show 2<=1+n.jo+1;omega
   wh:=by rw[yk];exact qXv 1
   wq:=by rw[yk];exact fun i hi=>absurd hi (Nat.not_lt_zero _)
   rc:=by rw[yk];exact fun t h1 h2=>absurd h2 (by show¬t<2;omega)
   en:=fun t _=>⟨fun x hx=>(by cases hx),qXc,List.Pairwise.nil⟩
   cur:=hen.symm
   fx:=fun s _=>rfl
   o0:=by rw[yk];exact fun q hq=>by cases hq
   sd:=fun i hi=>?_
   so:=fun i hi=>?_
   jr:=fun j hj=> .inl ?_
   jw:=by rw[yk];exact fun t h1 h2=>absurd h1 (by show¬1<t;omega)
   sl:=fun t _ _ x hx=>by cases hx
   sf:=fun t _ _ x hx=>by cases hx}
  .have e:(attS n).which=1:=by rw[yk]
   have ec:(attS n).cov=1:=by rw[yk];rfl
   rw[e,ec,hF,rT,if_pos oM]
   congr 1
   omega
  .have e:(attS n).which=1:=by rw[yk]
   rw[e,hget _ oM oM,if_neg oM];have:(if 1+(1-1)*n.pa+i=1 then pb0' else if 1+(1-1)*n.pa+i<n.s0 then zB else curB (List.replicate n.size zB) [] (1+(1-1)*n.pa+i))=(pagesB 0 []).getD i zB:=by
    by_cases h0:i=0
    .subst h0;rw[if_pos oM];rfl
    .rw [if_neg oM,if_pos oM,Ys _ oM]
   rw[this];exact vH (E:=fun _=>[]) (s:=0) de i
  .simp only[CaN.jb];rw[hget _ oM oM,if_neg oM,if_neg oM,if_pos oM]
 .exact (hget 0 oM oM).trans (if_pos rfl)
 .simp only[CaN.jb]at h1;show(attS n).dF.getD s zB=zB;rw[hget s oM oM,if_neg oM,if_neg oM,if_pos oM]
def zaT(w:World)(n:CaN)(e:Ending)(w':World):Prop:=
 ∃own ssd back,e=.returned (.tuple #[ptr ssd,ptr back])/\Dvs own w' ssd back (fmtF n (List.replicate n.size zB) []) [] (List.replicate n.bl zB) [] []/\Below w.heap.size w w'/\∀j,j<w.heap.size->own j=0
theorem zaU(n:CaN)(hok:n.Ok)(hm:mayS n.I=true)(w:World)(nib:Nib w)(tur:Tur w):Calls prog 38 #[.agg n.C.toArray] w (zaT w n):=by
 obtain⟨U,hU⟩:=qqe (n.C);obtain⟨w1,hw1⟩:=qqe (w.alloc (.cells U.toArray 40));have hu1:=qqu hw1;have g1:=qqg hw1;have hUl:U.length=7:=by rw[hU];rfl
 have hU1:∀v∈U,v.oneCell'=true:=by rw[hU];exact n.C_one
 have hsU:(prog.info? 40).map (·.size)=some U.length:=by rw[hU];exact xf
 have hdv:=Us n (n.id:Int) hok w1 (nib.keep hu1 id) (tur.keep hu1 id);rw[show superC n.id n.bl n.sl n.jo n.pa n.lo n.ba=U from hU.symm]at hdv;have HD:=qqh hdv;obtain⟨q,hq⟩:=qqe (w.heap.size);have H:=Y7 hok hm hU hw1 hu1 g1 hq;have r1:=zh g1;rw[<-hq]at r1;rw[<-hU];clear nib tur hok hm hU hw1 hu1 g1 hdv hq;go_enter func38,ntmps38
 go_upto_region 1 with fail
 rw[<-H.o.2.2.2.1,<-H.o.2.2.2.2.2.2];go_wp2_with (first
  |(refine yo oD _ _ rfl _ _ rfl _ _ r1 underlying40 rfl hsU ?_)
  |fail)
 refine HD.o.mono ?_;rintro e w2 ⟨own,ssd,back,rfl,D2,hb2,ho2⟩;have hok:=H.o.1;have r2:=(uuo (S:=fun _=>False) hb2).range r1 id;have hf:=VK D2.kT (fun j hj=> .inr hj) D2.back D2.nib D2.on2 n hok H.o.2.1 oz oz (qYf _);rw[<-H.o.2.2.1]at hf;have HF:=qqh hf;have H2:=Y3 D2 hb2 ho2;clear D2 hb2 ho2 hok hf r1 HD;go_wp2_with (first
  |(refine yo oD _ _ rfl _ _ rfl _ _ r2 underlying40 rfl hsU ?_)
  |fail)
 refine HF.o.mono ?_;rintro e w3 ⟨rfl,hd3,hu3⟩;have D3:=H2.o.1.kP hu3 hd3;have H3:=Y2 D3 (H2.o.1.did2 hu3);clear hd3 hu3 D3 HF r2;go_wp2
 go_ret2
 have hu1:=H.o.2.2.2.2.1;refine⟨_,ssd,back,rfl,H3.o.1,?_,fun j hj=>?_⟩
 .refine zk (zk (Upd.below hu1) (uuo (S:=fun _=>False) H2.o.2.1) (qXv _) (fun _ h=>h.elim)) H3.o.2.upd (qXv _) (fun k hk=>Nat.le_of_not_lt fun hlt=>hk.1 (H2.o.2.2 k (qXy hlt hu1.size)))
 .have hl:=qXy hj hu1.size;rw[H3.o.2.old j (qXy hl H2.o.2.1.size)];exact H2.o.2.2 j hl
end Go.Proofs.YtfhfbpmlnjdfoaaGreatDoor
