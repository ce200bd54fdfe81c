/- attach.Attach -/
import Derived.Test.YtpejdgiccaijfaaGreatDoorG31
import Derived.Test.YtpejdgiccaijfaaGreatDoorG30
import Derived.Test.YtpejdgiccaijfaaGreatDoorG32
set_option maxRecDepth 100000
set_option maxHeartbeats 4000000
namespace Go.Proofs.YtpejdgiccaijfaaGreatDoor
open Go Go.RowKit Go.Shelf Go.Lib Tryz
def newS(n:CaN)(wh sq:Nat)(F:List Bk)(O:List (Nat×Bk))(G:List Bk)(Q:List (Nat×Bk))(L:List Ent):CaS:=(caS0 n wh (sq+1) F O [] G Q []).ldTo n (dirE L L.length)
theorem Ut(L:List Ent):dirE L L.length=L.filter (fun x=>x.d):=by unfold dirE;rw[List.take_length]
theorem Uu{n:CaN}{wh sq:Nat}{F G:List Bk}{O Q:List (Nat×Bk)}{L:List Ent}(h:sa n L)(hok:n.Ok):
  ((newS n wh sq F O G Q L).dF=F/\(newS n wh sq F O G Q L).dO=O/\(newS n wh sq F O G Q L).dP=[])/\((newS n wh sq F O G Q L).ckpt n).2=0/\(∀k v,(newS n wh sq F O G Q L).sums k=some v->v<=4294967295)/\
   CaS.Ld n (caS0 n wh (sq+1) F O [] G Q []) (dirE L L.length) (newS n wh sq F O G Q L)/\
   ((∀x∈dirE L L.length,x.b<n.bl/\x.s<n.sl/\x.m<=4294967295)/\((dirE L L.length).map (·.s)).Nodup/\((dirE L L.length).map (·.b)).Nodup/\0+(dirE L L.length).length<maxLen):=by
 have hm:∀x∈dirE L L.length,x∈L:=fun x hx=>by rw[Ut]at hx;exact(List.mem_filter.1 hx).1
 have hsub:(dirE L L.length).Sublist L:=by rw[Ut];exact List.filter_sublist
 have h1:∀x∈dirE L L.length,x.b<n.bl/\x.s<n.sl/\x.m<=4294967295:=fun x hx=>h.1 x (hm x hx);have h2:((dirE L L.length).map (·.s)).Nodup:=h.2.1.sublist (hsub.map _);have h3:((dirE L L.length).map (·.b)).Nodup:=List.Nodup.sublist (hsub.map _) (qXa.2 (h.2.2.imp (fun h=>qXw h)));have h4:=xX n.sl _ h2 (fun s hs=>by obtain⟨x,hx,rfl⟩:=qzq.1 hs;exact(h1 x hx).2.1);rw[qzb]at h4;have hl:=CaS.ldTo_ok (n:=n) (dirE L L.length) (a:=caS0 n wh (sq+1) F O [] G Q []) (tm n.bl n.sl) (fun x hx=>⟨(h1 x hx).1,(h1 x hx).2.1⟩) h2 h3 (fun x _=>⟨ve _ _,vy _ _⟩);obtain⟨-,e1,e2,e3,-,-,e6,-⟩:=hl.oth;exact⟨⟨e1,e2,e3⟩,CaS.NoP.ckpt ⟨e3,e6⟩,CaS.ldTo_sums _ (fun x hx=>(h1 x hx).2.2) (fun k v h=>by cases h),hl,h1,h2,h3,by have:=hok.s2;unfold maxLen;omega⟩
structure Tel(n:CaN)(F:List Bk)(O:List (Nat×Bk))(Q:List Ent->Nat->Nat->Prop):Prop where
 ok:n.Ok
 fl:F.length=n.size
 su:okS (curB F O 0)=true
 ns:dsS (natsI (numsS (curB F O 0)))=n.C
 zs:∀j,j<n.lo+n.lo+n.lo->curB F O (1+2*n.pa+n.jo+j)=zB
 o5:O.length<=50000
 en:∀{S:Nat->Prop} {w w':World} {b:Nat} {e:Ending},Uq S w b F O n.jo n.pa e w'->∃(v:Value) (L:List Ent) (wh sq:Nat),Q L wh sq/\e=.returned (.tuple #[.int .i64 (wh:Int),.int .i64 (sq:Int),v,.int .i64 0])/\Sl w' 155 4 v L.length (L.flatMap entC)/\From w.heap.size v/\
  Dv (fun j=>S j/\∀g,v.ownBlock=some g->g≠j) w' b F O []/\Upd S w w'
 qq:∀{L:List Ent} {wh sq:Nat},Q L wh sq->sa n L/\wh<=1/\sq+1<1099511627776
theorem TV{n:CaN}{wh sq:Nat}{F G:List Bk}{O Q:List (Nat×Bk)}{L:List Ent}(h:sa n L)(hok:n.Ok):
  (newS n wh sq F O G Q L).bF=G/\(newS n wh sq F O G Q L).bO=Q/\(newS n wh sq F O G Q L).bP=[]:=by
 obtain⟨-,-,-,hl,-⟩:=Uu (wh:=wh) (sq:=sq) (F:=F) (G:=G) (O:=O) (Q:=Q) h hok;have:=hl.oth;simp only[caS0]at this;exact⟨this.2.2.2.2.1,this.2.2.2.2.2.1,this.2.2.2.2.2.2.1⟩
structure TelY(bad:Prop)(n:CaN)(F:List Bk)(O:List (Nat×Bk))(Q:List Ent->Nat->Nat->Prop):Prop where
 ok:n.Ok
 fl:F.length=n.size
 su:okS (curB F O 0)=true
 ns:dsS (natsI (numsS (curB F O 0)))=n.C
 zs:∀j,j<n.lo+n.lo+n.lo->curB F O (1+2*n.pa+n.jo+j)=zB\/bad/\sealB (curB F O (1+2*n.pa+n.jo+j))≠curB F O (1+2*n.pa+n.jo+j)
 o5:O.length<=50000
 en:∀{S:Nat->Prop} {w w':World} {b:Nat} {e:Ending},Uq S w b F O n.jo n.pa e w'->(bad/\∃(ao:Option Addr) (ln cap wh sq:Nat) (c:Int),c≠0/\e=.returned (.tuple #[.int .i64 (wh:Int),.int .i64 (sq:Int),.slice ao ln cap,.int .i64 c])/\Dv S w' b F O []/\Upd S w w')\/
  ∃(v:Value) (L:List Ent) (wh sq:Nat),Q L wh sq/\e=.returned (.tuple #[.int .i64 (wh:Int),.int .i64 (sq:Int),v,.int .i64 0])/\Sl w' 155 4 v L.length (L.flatMap entC)/\From w.heap.size v/\
  Dv (fun j=>S j/\∀g,v.ownBlock=some g->g≠j) w' b F O []/\Upd S w w'
 qq:∀{L:List Ent} {wh sq:Nat},Q L wh sq->sa n L/\wh<=1/\sq+1<1099511627776
theorem SH{bad:Prop}{own:Nat->Nat}{w:World}{ssd back:Nat}{F G:List Bk}{O Q:List (Nat×Bk)}{n:CaN}{Qp:List Ent->Nat->Nat->Prop}(hD:Dvs own w ssd back F O G Q [])(hE:TelY bad n F O Qp)(hG:G.length=n.bl):
  Calls prog 55 #[ptr ssd,ptr back] w (fun e w'=>(bad/\∃cd,cd≠0/\zex own w ssd back F O G Q [] cd e w')\/∃L wh sq,Qp L wh sq/\uK own w ssd back n ((newS n wh sq F O G Q L).ckpt n).1 e w'):=by
 obtain⟨U,hU⟩:=qqe (n.C);obtain⟨w1,hw1⟩:=qqe (((w.alloc (.cells #[ptr ssd] 38)).alloc (.cells #[ptr back] 38)).alloc (.cells #[.pointer none,.pointer none,.pointer none] 103));have hu1:Upd (fun _=>False) w w1:=by rw[hw1];exact(((uur _ w).alloc _).alloc _).alloc _
 have z1:w1.heap.size=w.heap.size+3:=by rw[hw1];simp
 obtain⟨ga1,gb1,gc1,-,-⟩:=xp w (.cells #[ptr ssd] 38) (.cells #[ptr back] 38) (.cells #[.pointer none,.pointer none,.pointer none] 103);rw[<-hw1]at ga1 gb1 gc1;have D1:=hD.new hu1;have hsup:=zaY D1.kA (fun j hj=> .inr hj) D1.back (fun j h3 h2=>by rcases h2 with h2|h2;rw[h3]at h2;exact absurd h2 de;rw[D1.far j h2]at h3;exact absurd h3 de) D1.nib D1.on2 (by rw[hE.fl];have:=hE.ok.s1;unfold CaN.size;omega) n hE.ok (fun _=>hE.ns);have hR:supR n F G (curB F O 0)=(n.C,0):=by unfold supR;rw[if_pos hE.su,if_pos ⟨hE.fl,hG⟩]
 rw[hR]at hsup;have HS:Hid (Calls prog 84 #[ptr ssd,ptr back] w1 (fun e w'=>e=.returned (.tuple #[.agg n.C.toArray,.int .i64 0])/\Dv (fun j=>own j=2\/w1.heap.size<=j) w' ssd F O []/\Upd (fun j=>own j=2\/w1.heap.size<=j) w1 w')):=hsup;have H:=Y4 hD hE hG hU;have H1:=Y7 hw1 hu1 z1 ga1 gb1 gc1 D1;have ca:=za ga1 0;have cb:=za gb1 0;have hUl:U.length=7:=by rw[hU];rfl
 have hU1:∀v∈U,v.oneCell'=true:=by rw[hU];exact n.C_one
 have hsU:(prog.info? 44).map (·.size)=some U.length:=by rw[hU];exact xj
 rw[<-hU]at HS;clear hD hE hG hU hw1 hu1 z1 ga1 gb1 gc1 D1 hsup hR;have hbl:=qqh se;go_enter func55,ntmps55
 go_wp2_with fail
 rw[<-H1.o.1];refine HS.o.mono ?_;rintro e w2 ⟨rfl,hd2,hu2⟩;have D2:=H1.o.2.2.2.2.2.2.kx hu2 hd2;have did2:=H1.o.2.2.2.2.2.2.did2 hu2;have hu2s:Hid (w1.heap.size<=w2.heap.size):=hu2.size;obtain⟨own2,hown2⟩:=qqe (grow own 2 w1.heap.size w2.heap.size);rw[<-hown2]at D2 did2;obtain⟨w3,hw3⟩:=qqe (w2.alloc (.cells U.toArray 44));have hu3:=qqu hw3;have D3:=D2.new hu3;have did3:=did2.trans (D2.jY hu3);have o0:∀i,w.heap.size<=i->own i=0:=H.o.1.far;have ga3:=did3.zero H1.o.2.2.2.1 (o0 _ (qXo _));have gb3:=did3.zero H1.o.2.2.2.2.1 (o0 _ oM);have gc3:=did3.zero H1.o.2.2.2.2.2.1 (o0 _ oM);have g83:=qqg hw3;have o83:own2 w2.heap.size=0:=D2.far _ (qXo _);have r83:=zg g83;have ca3:=za ga3.1 0;have hEn:Hid (Calls prog 85 #[.agg U.toArray,ptr ssd] w3 (Uq (fun j=>own2 j=2\/w3.heap.size<=j) w3 ssd F O n.jo n.pa)):=by
  show Calls _ _ _ _ _;rw[H.o.2.2.2];obtain⟨b1,b2,s1,s2,j1,j2,l1,l2,a1,a2,p1,p2,z⟩:=H.o.2.1.ok;exact Sy D3.kA (fun j hj=> .inr hj) D3.nib D3.on2 n.id n.bl n.sl n.jo n.pa n.lo n.ba b1 b2 s1 s2 j1 j2 l1 l2 a1 a2 p1 p2 z H.o.2.1.fl
 have H3:=Y8 hw3 D3 did3 ga3 gb3 gc3 g83 o83;rw[hw3]at r83 ca3;clear hd2 hu2 D2 did2 hown2 hu3 D3 did3 ga3 gb3 gc3 g83 o83 hw3 o0 HS ca cb;go_wp2_with (first
  |(refine zk rfl _ _ _ rfl _ _ U rfl rfl (by rw[hUl];rfl) hsU hU1 ?_)
  |(refine qYy rfl _ _ rfl _ _ rfl _ _ r83 underlying44 rfl hsU ?_)
  |fail)
 rw[<-H3.o.1];refine hEn.out.mono ?_;intro e w4 he;rcases H.o.2.1.en he with⟨hbd,ao0,ln0,cap0,wh,sq,cd,hcd,rfl,hd4,hu4⟩|⟨v,L,wh,sq,hQ,rfl,hsl,hfr,hd4,hu4⟩
 .have D4:=H3.o.2.1.kx hu4 hd4;have did34:=H3.o.2.1.did2 hu4;obtain⟨own4,hown4⟩:=qqe (grow own2 2 w3.heap.size w4.heap.size);rw[<-hown4]at D4 did34;obtain⟨w4a,hw4a⟩:=qqe (((w4.alloc (.cells #[.int .i64 (wh:Int)] 3)).alloc (.cells #[.int .i64 (sq:Int)] 3)).alloc (.cells #[.slice ao0 ln0 cap0] 146));have hu4a:Upd (fun _=>False) w4 w4a:=by rw[hw4a];exact(((uur _ w4).alloc _).alloc _).alloc _
  replace did34:=did34.trans (D4.jY hu4a);replace D4:=D4.new hu4a;have gc4:=did34.zero H3.o.2.2.2.2.2.1.1 H3.o.2.2.2.2.2.1.2;have HW4:=qqh hw4a;have tA:=zD (n:=3) gc4.1 oe;have q0:(cd==0)=false:=by simpa using hcd
  have HX:=Y5 hcd D4 ((H.o.1.jY H1.o.2.1).trans (H3.o.2.2.1.trans did34)) gc4 (show w.heap.size<=w.heap.size+1+1 by omega);clear he hd4 hu4 D4 did34 hown4 gc4 r83 ca3 hcd hu4a;rw[hw4a]at tA;clear hw4a;have hbl:=hbl.out;go_wp2_with (first
   |(refine yY rfl _ rfl hbl ?_)
   |(refine qZa rfl _ _ _ rfl _ _ [Value.pointer none,Value.pointer none,Value.pointer none].toArray rfl rfl tA yx oQ ?_)
   |fail)
  refine qYp (vT rfl _ _ (w.heap.size+1+1) 0 [.pointer none,.pointer none,.pointer none] _ rfl (qYk _ _ _ _ tA) underlying103 rfl yx) rfl ?_;rw[<-HW4.o]
  left
  obtain⟨hcd,D9,did9,gc9,hql⟩:=HX.o;have hur:=zo w4a (w.heap.size+1+1) 0 [Value.pointer none,Value.pointer none,Value.pointer none];have hbn:=th D9.nib D9.tur gc9.1 gc9.2 (fun k y h=>by simp at h);refine⟨hbd,cd,hcd,rfl,own4,⟨D9.ssd.keep hur (fun j h e=>?_),D9.back.keep hur (fun j h e=>?_),fun j hj=>D9.far j (qXq hur.size hj),D9.nib.keep hur (fun e=>(hbn _ e).2.1 rfl),D9.tur.keep hur (fun e=>(hbn _ e).2.2 rfl),D9.on,D9.ot⟩,did9.mine hur hql⟩
  .have:=(hbn j e).1;rw[this]at h;cases h
  .have:=(hbn j e).1;rw[this]at h;cases h
 obtain⟨own4,D4,did34,ho4⟩:=H3.o.2.1.handed hfr (fun g hg=>hsl.lt hg) hu4 hd4;have did4:=H3.o.2.2.1.trans did34;obtain⟨ao0,cap0,hva⟩:=hsl.rd.jU;subst hva;have HD4:=Y3 D4 did4 did34;have HQ:=Y4 hQ hsl hfr ho4;obtain⟨w4a,hw4a⟩:=qqe (((w4.alloc (.cells #[.int .i64 (wh:Int)] 3)).alloc (.cells #[.int .i64 (sq:Int)] 3)).alloc (.cells #[.slice ao0 L.length cap0] 146));have hu4a:Upd (fun _=>False) w4 w4a:=by rw[hw4a];exact(((uur _ w4).alloc _).alloc _).alloc _
 have hdel:=zev (hsl.keep hu4a (fun _ _ h=>h));have HDel:=qqh hdel;have HW4:=Y2 hw4a hu4a;clear he hd4 hu4 D4 did4 did34 r83 ca3 hQ hsl hfr ho4 hw4a hu4a hdel;have hmf:=qqf;go_wp2_with fail
 rw[<-HW4.o.1];refine HDel.out.mono ?_;rintro e w4b ⟨v',rfl,hsl',hob,hub⟩;obtain⟨ao,cap,hva⟩:=hsl'.rd.jU;subst hva;obtain⟨ln,hln⟩:=qqe ((dirE L L.length).length);rw[<-hln]at hsl'⊢;have c12:w4b.cell? ⟨w4.heap.size+1+1,0,none⟩=some (.slice ao0 L.length cap0):=by
  have g:w4a.heap[w4.heap.size+1+1]?=some (.cells #[.slice ao0 L.length cap0] 146 (0,0)):=by rw[HW4.o.1];exact zc _ _ oe
  rw[za ((hub.block _ (zd g) (fun e=>by have:=HQ.o.2.1.lt (g:=w4.heap.size+1+1) (by simpa[Value.ownBlock]using e);omega)).trans g)];rfl
 have f12:w4b.frozen? ⟨w4.heap.size+1+1,0,none⟩=false:=by
  have g:w4a.heap[w4.heap.size+1+1]?=some (.cells #[.slice ao0 L.length cap0] 146 (0,0)):=by rw[HW4.o.1];exact zc _ _ oe
  exact zf ((hub.block _ (zd g) (fun e=>by have:=HQ.o.2.1.lt (g:=w4.heap.size+1+1) (by simpa[Value.ownBlock]using e);omega)).trans g) 0
 have HB:=Y4 hsl' hob hub hln;clear hsl' hob hub hln;go_wp2_with fail
 have hsz:w4.heap.size+3<=w4b.heap.size:=by
  have h1:=HB.o.2.2.1.size;have h2:w4a.heap.size=w4.heap.size+3:=by rw[HW4.o.1];simp
  omega
 obtain⟨m,hm⟩:∃m,m+1+1+1=w4b.heap.size:=⟨w4b.heap.size-3,oM⟩
 obtain⟨m0,hm0⟩:=qqe (w4.heap.size);obtain⟨q,hq⟩:=qqe (w.heap.size);obtain⟨s8,hs8⟩:=qqe (w2.heap.size);rw[<-hm,<-hm0,<-hq,<-hs8];obtain⟨w4c,hw4c⟩:=qqe (w4b.setCell ⟨m0+1+1,0,none⟩ (.slice ao ln cap));rw[<-hw4c];obtain⟨w5,hw5⟩:=qqe ((((w4c.alloc (.cells #[.pointer none] 98)).alloc (.cells #[.pointer none,.pointer none,.pointer none] 103)).alloc (.cells #[.slice none 0 0] 104)).alloc (.cells (XI s8 q m0 m) 93))
 change Calls _ _ _ ((((w4c.alloc (.cells #[.pointer none] 98)).alloc (.cells #[.pointer none,.pointer none,.pointer none] 103)).alloc (.cells #[.slice none 0 0] 104)).alloc (.cells (XI s8 q m0 m) 93)) _
 rw[<-hw5];have HR:Hid (Calls prog 53 #[.slice (some ⟨m+1+1+1+1+1+1,0,none⟩) 4 4] w5 (qI (fun c W=>bad/\c=12/\∃o,Dvs o W ssd back F O G Q []/\Did own o w W/\(W.heap[q+1+1]?=some (.cells #[.pointer none,.pointer none,.pointer none] 103 (0,0))/\o (q+1+1)=0)) (fun W=>∃own' c p li lc lf,CaAt own' W c n p ((newS n wh sq F O G Q L).ckpt n).1/\(p.ssd=ssd/\p.back=back)/\Did own own' w W/\(W.heap[q+1+1]?=some (.cells #[.pointer none,.pointer none,.pointer none] 103 (0,0))/\own' (q+1+1)=0)/\Bx own' W m (ptr c) [ptr li,ptr lc,ptr lf]/\Lg3 own' W n ssd li lc lf))):=by
  show Calls _ _ _ _ _;obtain⟨hD0,hE,hG,hU⟩:=H.o;obtain⟨-,hu1,z1,-,-,-,D1⟩:=H1.o;obtain⟨-,D3,did3,ga3,gb3,gc3,g83,o83⟩:=H3.o;obtain⟨D4,did4,did34⟩:=HD4.o;obtain⟨hw4a,hu4a⟩:=HW4.o;obtain⟨hsl',hob,hub,hln⟩:=HB.o;obtain⟨hQ,hsl,hfr,ho4⟩:=HQ.o;rw[<-hq]at ga3 gb3 gc3 z1;rw[<-hs8,hU]at g83;rw[<-hs8]at o83;have hn4:=D4.nib.lt;have ht4:=D4.tur.lt;have hn3:=D3.nib.lt;have ht3:=D3.tur.lt;have hz34:=did34.upd.size;have l8:=zd g83;have lc:=zd gc3.1;have hs18:w1.heap.size<=s8:=by rw[hs8];exact hu2s.out
  have gW:∀j,(Value.slice ao0 L.length cap0).ownBlock=some j->own4 j=0/\j≠0/\j≠1:=fun j hj=>by
   have h:=ho4 j hj;exact⟨h.2,oM,oM⟩
  have D4b:=(D4.new hu4a).j9 hub gW;have n12:own4 (m0+1+1)=0:=D4.far _ oM;have hu4c:Upd (fun j=>j=m0+1+1) w4b w4c:=by rw[hw4c];exact zi _ _ _ _
  have D4c:=D4b.j9 hu4c (fun j e=>by subst e;exact⟨n12,oM,oM⟩);obtain⟨e3,e4,e5,e6,-,hu5⟩:=xw w4c (.cells #[.pointer none] 98) (.cells #[.pointer none,.pointer none,.pointer none] 103) (.cells #[.slice none 0 0] 104) (.cells (XI s8 q m0 m) 93);have hzc:w4c.heap.size=m+1+1+1:=by rw[hm,hw4c];simp
  rw[<-hw5,hzc]at e3 e4 e5 e6;rw[<-hw5]at hu5;have D5:=D4c.new hu5;have hkeep:∀{b:Nat} {o:Obj},w3.heap[b]?=some o/\own2 b=0->w5.heap[b]?=some o/\own4 b=0:=fun{b o} h=>by
   have h4:=did34.zero h.1 h.2;have hl:=zd h.1;refine⟨?_,h4.2⟩;rw[hu5.block _ (by have:=zd h4.1;have:=hub.size;have:=hu4a.size;have:=hu4c.size;omega) id,hu4c.block _ (by have:=zd h4.1;have:=hub.size;have:=hu4a.size;omega) oM,hub.block _ (by have:=zd h4.1;have:=hu4a.size;omega) (fun e=>by have:=(ho4 b e).1;omega),hu4a.block _ (zd h4.1) id];exact h4.1
  have hww3:w.heap.size<=w3.heap.size:=qXq hu1.size did3.upd.size;have dwa:Did own own4 w w4a:=((hD0.jY hu1).trans did4).trans (D4.jY hu4a);have dwb:Did own own4 w w4b:=⟨dwa.upd.new hub (fun i hi e=>by have:=(ho4 i e).1;omega),dwa.old,dwa.new,fun j hj=>dwa.far j (by have:=hub.size;omega)⟩
  have dw:Did own own4 w w5:=(dwb.mine hu4c oM).trans (D4c.jY hu5);have ka:=hkeep ga3;have kb:=hkeep gb3;have kc:=hkeep gc3;have k8:=hkeep ⟨g83,o83⟩;have of:∀i,m0<=i->own4 i=0:=fun i hi=>D4.far i oM;rw[<-hln]at hob;have hms:w3.heap.size<=m0:=by rw[hm0];exact hz34
  have hmm:m0<=m:=by have:=hsz;omega
  obtain⟨b0,b1,b2,bz,-⟩:=xp w4 (.cells #[.int .i64 (wh:Int)] 3) (.cells #[.int .i64 (sq:Int)] 3) (.cells #[.slice ao0 L.length cap0] 146);rw[<-hw4a,<-hm0]at b0 b1 b2;rw[<-hw4a]at bz;have hgm:∀i,(Value.slice ao0 L.length cap0).ownBlock=some i->w3.heap.size<=i/\i<m0/\own4 i=0:=fun i e=>⟨(ho4 i e).1,by rw[hm0];exact hsl.lt e,(ho4 i e).2⟩
  have up:∀{i:Nat} {o:Obj},w4a.heap[i]?=some o->m0<=i->i≠m0+1+1->w5.heap[i]?=some o:=fun{i o} h h1 h2=>by
   have hl:=zd h;rw[hu5.block _ (by have:=hub.size;have:=hu4c.size;omega) id,hu4c.block _ (by have:=hub.size;omega) h2,hub.block _ hl (fun e=>by have:=(hgm i e).2.1;omega)];exact h
  have e0:=up b0 (qXo _) oM;have e1:=up b1 oM oM;have e2:w5.heap[m0+1+1]?=some (.cells #[.slice ao ln cap] 146 (0,0)):=by
   have h4b:w4b.heap[m0+1+1]?=some (.cells #[.slice ao0 L.length cap0] 146 (0,0)):=(hub.block _ (zd b2) (fun e=>by have:=(hgm _ e).2.1;omega)).trans b2;rw[hu5.block _ (by have:=hu4c.size;have:=zd h4b;omega) id,hw4c];exact yZ h4b
  have hv5:Sl w5 155 4 (.slice ao ln cap) ln ((dirE L L.length).flatMap entC):=
   (hsl'.keep hu4c (fun i e h=>by rw[hob]at e;have:=(hgm i e).2.1;omega)).keep hu5 (fun _ _ h=>h)
  obtain⟨Fx,hFx⟩:∃Fx:Nat->Option Obj,Fx=fun b=>if b=m+1+1+1+1+1+1 then some (.cells (XI s8 q m0 m) 93)else if b=s8 then some (.cells n.C.toArray 44)else if b=q then some (.cells #[ptr ssd] 38)else if b=q+1 then some (.cells #[ptr back] 38)
   else if b=q+1+1 then some (.cells #[.pointer none,.pointer none,.pointer none] 103)else if b=m0 then some (.cells #[.int .i64 (wh:Int)] 3)else if b=m0+1 then some (.cells #[.int .i64 (sq:Int)] 3)else if b=m0+1+1 then some (.cells #[.slice ao ln cap] 146)
   else if(Value.slice ao0 L.length cap0).ownBlock=some b then w5.heap[b]? else none:=⟨_,rfl⟩
  have hK:Kps own4 w5 Fx:=by
   intro b o hb;rw[hFx]at hb;simp only[]at hb;split at hb
   .rename_i h;subst h;cases hb;exact⟨e6,of _ oM⟩
   split at hb
   .rename_i h;subst h;cases hb;exact k8
   split at hb
   .rename_i h;subst h;cases hb;exact ka
   split at hb
   .rename_i h;subst h;cases hb;exact kb
   split at hb
   .rename_i h;subst h;cases hb;exact kc
   split at hb
   .rename_i h;subst h;cases hb;exact⟨e0,of _ oM⟩
   split at hb
   .rename_i h;subst h;cases hb;exact⟨e1,of _ oM⟩
   split at hb
   .rename_i h;subst h;cases hb;exact⟨e2,of _ oM⟩
   split at hb
   .rename_i h;exact⟨hb,(hgm _ h).2.2⟩
   .cases hb
  have hFv:∀i,(Value.slice ao ln cap).ownBlock=some i->Fx i=w5.heap[i]?:=fun i e=>by
   rw[hob]at e;have h:=hgm i e;rw[hFx];simp only[];rw[if_neg oM,if_neg oM,if_neg oM,if_neg oM,if_neg oM,if_neg oM,if_neg oM,if_neg oM,if_pos e]
  obtain⟨en,hwh,hsq⟩:=hE.qq hQ;have n6:(newS n wh sq F O G Q L).bF=G/\(newS n wh sq F O G Q L).bO=Q/\(newS n wh sq F O G Q L).bP=[]:=TV en hE.ok;obtain⟨n1,n2,n3,n4,n5⟩:=Uu (n:=n) (wh:=wh) (sq:=sq) (F:=F) (G:=G) (O:=O) (Q:=Q) en hE.ok;have hnew:∀o W,Dvs o W ssd back F O G Q []->Did own o w W->Kps o W Fx->Calls prog 89 #[.agg n.C.toArray,ptr ssd,ptr back,.int .i64 (wh:Int),.int .i64 ((sq+1:Nat):Int),.slice ao ln cap] W (Zz o W ssd back n (newS n wh sq F O G Q L)):=fun o W hD _ hk=>
   zcC hD.ssd hD.back hD.far hD.nib hD.tur hD.on hD.ot hE.ok hE.fl hG wh (sq+1) hwh hsq ao ln cap (newS n wh sq F O G Q L) (fun o2 W2 c p d2 h=>by
    have hk2:=hk.did d2;have hv2:Sl W2 155 4 (.slice ao ln cap) ln ((dirE L L.length).flatMap entC):=hv5.same (fun i e=>by
     obtain⟨x,hx⟩:∃x,w5.heap[i]?=some x:=⟨_,qxe (hv5.lt e)⟩
     rw[hx];exact(hk2 i x ((hFv i e).trans hx)).1)
    rw[hln]at hv2⊢;exact TT h hv2 (fun i e=>by
     obtain⟨x,hx⟩:∃x,w5.heap[i]?=some x:=⟨_,qxe (hv5.lt (by rw[hln];exact e))⟩
     exact(hk2 i x ((hFv i (by rw[hln];exact e)).trans hx)).2) (tm n.bl n.sl) n5.1 n5.2.1 n5.2.2.1 (fun x _=>⟨ve _ _,vy _ _⟩) ⟨n5.2.2.2,n5.2.2.2,n5.2.2.2⟩)
  have hr:=Sz (own:=own) (own':=own4) (w:=w) (W:=w5) (g:=m+1+1+1+1+1+1) (m:=m) (m0:=m0) (s8:=s8) (q:=q) (Fx:=Fx) (ao:=ao) (ln:=ln) (cap:=cap) oM hE.fl hE.zs n1 n6 n2 n3 hE.o5 hnew oM D5 dw hK ⟨⟨e3,of _ oM⟩,⟨e4,of _ oM⟩,⟨e5,of _ oM⟩⟩
   (by rw[hFx];simp) (by rw[hFx];simp only[];rw[if_neg oM,if_pos trivial]) (by rw[hFx];simp only[];rw[if_neg oM,if_neg oM,if_pos trivial]) (by rw[hFx];simp only[];rw[if_neg oM,if_neg oM,if_neg oM,if_pos trivial])
   (by rw[hFx];simp only[];rw[if_neg oM,if_neg oM,if_neg oM,if_neg oM,if_neg oM,if_pos trivial]) (by rw[hFx];simp only[];rw[if_neg oM,if_neg oM,if_neg oM,if_neg oM,if_neg oM,if_neg oM,if_pos trivial])
   (by rw[hFx];simp only[];rw[if_neg oM,if_neg oM,if_neg oM,if_neg oM,if_neg oM,if_neg oM,if_neg oM,if_pos trivial])
   oh
   oh
   oh
  refine hr.mono fun e W ⟨c,he,h1,h2⟩=>⟨c,he,fun hc=>?_,fun hc=>?_⟩
  .obtain ⟨o6,c6,p6,li,l2,l3,hca,hp,hd,hk,hb,hL⟩:=h1 hc;exact⟨o6,c6,p6,li,l2,l3,hca,hp,hd,hk _ _ oG,hb,hL⟩
  .obtain ⟨hbd,hc12,o6,hD,hd,hk⟩:=h2 hc;exact⟨hbd,hc12,o6,hD,hd,hk _ _ oG⟩
 have HM:Hid (q+1+1<m0/\m0<=m):=by
  have h1:=H1.o.2.2.1;have h2:=zd (H3.o.2.2.2.2.2.1.1);have h3:=HD4.o.2.2.upd.size;exact⟨oM,oM⟩
 clear hw5 hm hm0 hs8 H3 HD4 hEn hw4c hsz c12 f12;refine HR.o.mono ?_;rintro e w6 ⟨c0,rfl,h1,h2⟩;by_cases hc0:c0=0
 rotate_left
 .obtain ⟨hbd,rfl,o6,D6,did6,gc6⟩:=h2 hc0;have tA:=zD (n:=3) gc6.1 oe;have HX:=Y5 (show(12:Int)≠0 by decide) D6 did6 gc6 (show w.heap.size<=q+1+1 by omega);clear h1 h2 D6 did6 gc6 HR hc0;obtain⟨cd,hcd12⟩:∃cd:Int,cd=12:=⟨_,rfl⟩
  rw[<-hcd12]at HX⊢;have q0:(cd==0)=false:=by rw[hcd12];rfl
  clear hcd12;rw[hq]at tA HX;have hbl:=hbl.out;go_wp2_with (first
   |(refine yY rfl _ rfl hbl ?_)
   |(refine qZa rfl _ _ _ rfl _ _ [Value.pointer none,Value.pointer none,Value.pointer none].toArray rfl rfl tA yx oQ ?_)
   |fail)
  refine qYp (vT rfl _ _ (w.heap.size+1+1) 0 [.pointer none,.pointer none,.pointer none] _ rfl (qYk _ _ _ _ tA) underlying103 rfl yx) rfl ?_
  left
  obtain⟨hcd,D9,did9,gc9,hql⟩:=HX.o;have hur:=zo w6 (w.heap.size+1+1) 0 [Value.pointer none,Value.pointer none,Value.pointer none];have hbn:=th D9.nib D9.tur gc9.1 gc9.2 (fun k y h=>by simp at h);refine⟨hbd,cd,hcd,rfl,o6,⟨D9.ssd.keep hur (fun j h e=>?_),D9.back.keep hur (fun j h e=>?_),fun j hj=>D9.far j (qXq hur.size hj),D9.nib.keep hur (fun e=>(hbn _ e).2.1 rfl),D9.tur.keep hur (fun e=>(hbn _ e).2.2 rfl),D9.on,D9.ot⟩,did9.mine hur hql⟩
  .have:=(hbn j e).1;rw[this]at h;cases h
  .have:=(hbn j e).1;rw[this]at h;cases h
 subst hc0;obtain⟨o6,c6,p6,li,l2,l3,hca,hp,hd,hk,hb,hL⟩:=h1 rfl;have H6:=Y6 hca hp hd hk hb hL;have c13:=za hb.1.1 0;have r14:=zg hb.2.1.1;have c15:=za hb.2.2.1 0;have hqq:=hq;have HQw:Hid (w.heap.size<=q+1+1):=by show _<=_;omega
 clear h1 h2 hca hp hd hk hb hL HR;go_wp2_with fail
 rw[<-hqq];clear hq hqq;have tA:=zD (n:=3) H6.o.2.2.2.1.1 oe;refine qZb (S:=fun W=>W.cell? ⟨m+1+1+1,0,none⟩=some (ptr c6)/\W.rangeAt (m+1+1+1+1) 0 [ptr li,ptr l2,ptr l3]/\W.cell? ⟨m+1+1+1+1+1,0,none⟩=some (.slice none 0 0)) kR (⟨by rw[qYh];exact c13,by rw[qYj];exact r14,by rw[qYh];exact c15⟩) (fun hHeld=>?_);refine Wl.i [0,2] ?_;iterate 2 refine Wl.t hHeld ?_
 refine Wl.o ?_;refine Wl.l 1 (fun w h=>h.2.1) underlying103 yx hHeld ?_;refine Wl.r 3 (fun K hK=>?_);go_simp
 refine hK.o _ _ (hHeld) (fun hHeld2=>?_);clear hK K;have hud:Upd (fun _=>False) w6 w6.drew:=(uur _ w6).drew;have tA7:w6.drew.there (q+1+1) 0 3:=zD (n:=3) (hud.jT H6.o.2.2.2.1.1) oe;have hur:=zo w6.drew (q+1+1) 0 [ptr li,ptr l2,ptr l3];have hHeld3:(w6.drew.setCells (q+1+1) 0 [ptr li,ptr l2,ptr l3]).cell? ⟨m+1+1+1,0,none⟩=some (ptr c6)/\(w6.drew.setCells (q+1+1) 0 [ptr li,ptr l2,ptr l3]).rangeAt (m+1+1+1+1) 0 [ptr li,ptr l2,ptr l3]/\(w6.drew.setCells (q+1+1) 0 [ptr li,ptr l2,ptr l3]).cell? ⟨m+1+1+1+1+1,0,none⟩=some (.slice none 0 0):=
  ⟨hur.jS hHeld2.1 jq,hur.range hHeld2.2.1 jq,hur.jS hHeld2.2.2 jq⟩
 refine Wl.r 4 (fun K hK=>?_);rw[if_pos oy];refine qZc _ _ _ rfl _ _ [ptr li,ptr l2,ptr l3].toArray rfl rfl tA7 yx oQ ?_;simp only[Act.put,qXd];refine hK.o _ _ (hHeld3) (fun _=>?_);clear hK K hHeld hHeld2;refine Wl.r 5 (fun K hK=>?_);go_simp
 refine hK.o _ _ (hHeld3) (fun _=>?_);clear hK K;refine Wl.r 6 (fun K hK=>?_);go_simp
 refine hK.o _ _ (hHeld3) (fun _=>?_);clear hK K;refine Wl.d ?_;have HE:=Y2 hud hur;clear hHeld3 hud hur c13 r14 c15 tA;go_wp2
 refine qYp (vT rfl _ _ (q+1+1) 0 [ptr li,ptr l2,ptr l3] _ rfl (qYk _ _ _ _ tA7) underlying103 rfl yx) rfl ?_;obtain⟨hca,hp,hd,hk,hb,hL⟩:=H6.o;obtain⟨hud,hur⟩:=HE.o;have d7:=hca.jY hud;have hca7:=hca.new hud;have k7:=d7.zero hk.1 hk.2;have L7:=hL.did d7;have hbn:=th hca7.nib hca7.tur k7.1 k7.2 (fun k y h=>by simp at h);have ln:∀{l:Nat} {v:Array Value} {t:TypeId},w6.drew.heap[l]?=some (.cells v t (0,0))->(∃x,v[0]?=some (.pointer (some x)))->l≠q+1+1:=by
  rintro l v t h ⟨x,hx⟩ e;rw[e,k7.1]at h;cases h;simp at hx
 have hqw:w.heap.size<=q+1+1:=HQw.out;exact .inr ⟨L,wh,sq,HQ.o.1,c6,p6,o6,li,l2,l3,rfl,hca7.j9 hur hbn,hp.1,hp.2,(hd.trans d7).mine hur hqw,L7.1.1.keep hur (ln L7.1.1.str ⟨_,rfl⟩),L7.1.2.1.keep hur (ln L7.1.2.1.str ⟨_,rfl⟩),L7.1.2.2.keep hur (ln L7.1.2.2.str ⟨_,rfl⟩),L7.2.1,L7.2.2.1,L7.2.2.2⟩
end Go.Proofs.YtpejdgiccaijfaaGreatDoor
namespace Go.Proofs.YtpejdgiccaijfaaGreatDoor
open Go Go.RowKit Tryz
theorem XM{own:Nat->Nat}{w:World}{ssd back:Nat}{F G:List Bk}{O Q:List (Nat×Bk)}{n:CaN}{Qp:List Ent->Nat->Nat->Prop}(hD:Dvs own w ssd back F O G Q [])(hE:Tel n F O Qp)(hG:G.length=n.bl):
  Calls prog 55 #[ptr ssd,ptr back] w (fun e w'=>∃L wh sq,Qp L wh sq/\uK own w ssd back n ((newS n wh sq F O G Q L).ckpt n).1 e w'):=
 (SH (bad:=False) hD ⟨hE.ok,hE.fl,hE.su,hE.ns,fun j hj=> .inl (hE.zs j hj),hE.o5,fun he=> .inr (hE.en he),hE.qq⟩ hG).mono fun _ _ h=>h.resolve_left fun h=>h.1
theorem Emp.tel{n:CaN}{F:List Bk}{O:List (Nat×Bk)}{wh sq:Nat}(hE:Emp n F O wh sq):Tel n F O (fun L wh' sq'=>L=[]/\wh'=wh/\sq'=sq):=by
 refine⟨hE.ok,hE.fl,hE.su,hE.ns,hE.zs,hE.o5,fun he=>?_,fun hq=>?_⟩
 .obtain ⟨v,L,wh',sq',c,rfl,hsl,hfr,hd,hu,h⟩:=he;rw[hE.nw,hE.js]at h;rcases h with⟨-,-,h⟩|⟨-,R,hp,-,r,hr,h⟩
  .cases h
  .have hR:R=[]:=List.Perm.eq_nil hp;subst hR;have hd0:r.d=[]:=by rw[hr];rfl
   have hg0:r.g=sq:=by rw[hr];rfl
   rw[hd0]at h;have hap:∀L0,Lists (apRs (apM (([]:List Ent).map Ent.toI)) (([]:List (List Nat)).map natsI)) L0->L0=[]:=fun L0 h=>TU h;rcases h with⟨-,-,h|⟨L0,h1,h2⟩⟩|⟨hc,hw,hs,h,-⟩
   .exact absurd qzx h
   .rw [hap L0 h1]at h2;exact absurd qzx h2
   .have hL:=hap L h;subst hL;exact⟨v,[],wh,sq,⟨rfl,rfl,rfl⟩,by rw[hc,hw,hs,hg0],hsl,hfr,hd,hu⟩
 .obtain ⟨rfl,rfl,rfl⟩:=hq;exact⟨⟨fun x hx=>(by cases hx),qzx,List.Pairwise.nil⟩,hE.wh1,hE.sq1⟩
theorem tP{own:Nat->Nat}{w:World}{ssd back:Nat}{F G:List Bk}{O Q:List (Nat×Bk)}{n:CaN}{wh sq:Nat}(hD:Dvs own w ssd back F O G Q [])(hE:Emp n F O wh sq)(hG:G.length=n.bl):
  Calls prog 55 #[ptr ssd,ptr back] w (uK own w ssd back n ((caS0 n wh (sq+1) F O [] G Q []).ckpt n).1):=
 (XM hD hE.tel hG).mono fun e w' ⟨L,wh',sq',⟨h1,h2,h3⟩,h4⟩=>by
  subst h1;subst h2;subst h3;exact h4
abbrev polC:List Value:=[.int .i64 1,.int .i64 0,.int .i64 2]
theorem qh:(prog.info? 46).map (·.size)=some 3:=kR
def vo0(c li lc lf:Nat):List Value:=[ptr c,ptr li,ptr lc,ptr lf,.pointer none,.int .i64 1,.int .i64 0,.int .i64 2,.int .i64 0,.slice none 0 0,.bool false]
theorem Yg(c li lc lf:Nat)(L:Array Value)(hL:L=(vo0 c li lc lf).toArray)(w:World):
  (Instr.build 112 #[(0,ptr c),(1,.agg #[ptr li,ptr lc,ptr lf]),(3,.agg #[.int .i64 1,.int .i64 0,.int .i64 2]),(4,.int .i64 0)]).run prog w=.ok (.agg L) w:=by rw[hL];kernel_rfl
theorem tp{ops:Array Oper}{rest:List Oper}{op:Oper}{x:Act}{w:World}{Q:Exit->Act->World->Prop}(hgd:op.guard=none)(p q r s:Operand)(ho:op.op=.build 112 #[(0,p),(1,q),(3,r),(4,s)])
  (c li lc lf:Nat) (hp:x.eval p=ptr c) (hq:x.eval q=.agg #[ptr li,ptr lc,ptr lf]) (hr:x.eval r=.agg #[.int .i64 1,.int .i64 0,.int .i64 2]) (hs:x.eval s=.int .i64 0) (L:Array Value) (hL:L=(vo0 c li lc lf).toArray)
  (h:wpList prog ops Q rest (x.put op.dst (.agg L)) w):wpList prog ops Q (op::rest) x w:=by
 refine qYz hgd fun K' hK'=>?_;unfold Oper.wp;simp only[execOp,ho,qzk,qzh,qzj,hp,hq,hr,hs,qYf,Yg c li lc lf L hL w,qYe];exact hK' _ _ h
theorem TW{own:Nat->Nat}{w:World}{v c:Nat}{n:CaN}{p:CaP}{a:CaS}(hc:CaAt own w c n p a)(h0:w.cell? ⟨v,0,none⟩=some (ptr c)):
  Calls prog 59 #[ptr v] w fun e w'=>e=.returned (.int .i64 (n.bl:Int))/\Below w.heap.size w w':=by
 have hfb:=uJ (n.id:Int) (n.bl:Int) (n.sl:Int) (n.jo:Int) (n.pa:Int) (n.lo:Int) (n.ba:Int);have HS:=qqh (rD hc);clear hc;go_enter func59,ntmps59
 go_wp2_with fail
 refine HS.o.mono ?_;rintro e w2 ⟨rfl,hb2⟩;have H2:=qqh hb2;clear hb2 h0;go_wp2
 go_ret
 exact⟨rfl,H2.o⟩
def Aw(own:Nat->Nat)(w:World)(ssd back:Nat)(n:CaN)(a:CaS)(e:Ending)(w':World):Prop:=
 ∃v q p own',e=.returned (.tuple #[ptr v,.int .i64 0])/\VolAt own' w' v q n p a 0 false/\p.ssd=ssd/\p.back=back/\Did own own' w w'
theorem SI{own:Nat->Nat}{w:World}{ssd back:Nat}{n:CaN}{a:CaS}(hn:n.Ok)(hsl:2<=n.sl)(hA:∀w1,Upd (fun _=>False) w w1->Calls prog 55 #[ptr ssd,ptr back] w1 (uK own w1 ssd back n a))(hfar:∀j,w.heap.size<=j->own j=0):
  Calls prog 29 #[ptr ssd,ptr back,.agg polC.toArray] w (Aw own w ssd back n a):=by
 obtain⟨m,hm⟩:=qqe (w.heap.size);obtain⟨w1,hw1⟩:=qqe (w.alloc (.cells polC.toArray 46));have hu1:=qqu hw1;have g1:w1.heap[m]?=some (.cells polC.toArray 46 (0,0)):=by rw[hw1,hm];exact zc w _ rfl
 have HA:=qqh (hA w1 hu1);have d1:Did own own w w1:=(Did.refl hfar).mine (hu1.mono fE:Upd (fun j=>j=m) w w1) oM;have H:=Y7 hw1 hm g1 (hfar m oM) d1 hn hsl;clear hA hw1 hu1 g1 hm d1 hn hsl hfar;go_enter func29,ntmps29
 go_upto_region 1 with fail
 rw[<-H.o.1,<-H.o.2.1];go_wp2_with fail
 refine HA.o.mono ?_;rintro e w2 ⟨c,p,own2,li,lc,lf,rfl,hca,hp1,hp2,d2,-,-,-,o1,o2,o3⟩;obtain⟨lb,hlb⟩:=qqe (w2.heap.size);obtain⟨w3,hw3⟩:=qqe (w2.alloc (.cells #[ptr li,ptr lc,ptr lf] 103));have hu3:=qqu hw3;have g3:w3.heap[lb]?=some (.cells [ptr li,ptr lc,ptr lf].toArray 103 (0,0)):=by rw[hw3,hlb];exact zc w2 _ rfl
 have hc3:=hca.new hu3;have d3:=d2.trans (hca.jY hu3);have gp:=d3.zero H.o.2.2.1 H.o.2.2.2.1;have rp:=zg gp.1;have rl:=zg g3;have hfs:=ZZ (n.id:Int) (n.bl:Int) (n.sl:Int) (n.jo:Int) (n.pa:Int) (n.lo:Int) (n.ba:Int);have HS:=qqh (rD (hc3.new ((uur _ w3).drew)));have H3:=Y7 hc3 hp1 hp2 (H.o.2.2.2.2.1.trans d3) g3 (hca.far lb oM) gp;have HW3:=Y2 hw3 hlb;have hut:=underlying46;have hsi:=qh;clear hca hp1 hp2 d2 o1 o2 o3 hw3 hu3 g3 hc3 d3 gp HA hlb;go_upto_region 4 with fail
 rw[<-HW3.o.1,<-HW3.o.2];refine qZb (S:=fun W=>W.rangeAt m 0 polC/\W.rangeAt lb 0 [ptr li,ptr lc,ptr lf]) kR (⟨by rw[qYj];exact rp,by rw[qYj];exact rl⟩) (fun hHeld=>?_);refine Wl.l 0 (fun w h=>h.1) hut hsi hHeld ?_;refine Wl.i [1] (Wl.t hHeld (Wl.o ?_));refine Wl.r 2 (fun K hK=>?_);go_simp
 refine HS.o.mono ?_;rintro e w4 ⟨rfl,hb4⟩;have hu4:=uuo (S:=fun _=>False) hb4;have HK4:=qqh (Su 1 0 2 (n.sl:Int) w4);have hr4:chkP 1 0 2 (n.sl:Int)=0:=if_pos ⟨oM,oM,by have:=H.o.2.2.2.2.2.2;omega,oM,oM⟩;rw[hr4]at HK4;have rp4:=hu4.range (show w3.drew.rangeAt m 0 polC by rw[qYj];exact rp) id;have rl4:=hu4.range (show w3.drew.rangeAt lb 0 _ by rw[qYj];exact rl) id;have H4:=qqh ((uur (fun _=>False) w3).drew.trans hu4);clear hb4 hu4 hr4;refine hK.o _ _ (⟨rp4,rl4⟩) (fun hH1=>?_);clear hK K;refine Wl.i [3] (Wl.t hH1 (Wl.o ?_));refine Wl.r 4 (fun K hK=>?_);go_simp
 refine HK4.o.mono ?_;rintro e w5 ⟨rfl,hb5⟩;have hu5:=uuo (S:=fun _=>False) hb5;have rp5:=hu5.range rp4 id;have rl5:=hu5.range rl4 id;have H5:=qqh (H4.o.trans hu5);clear hb5 hu5;refine hK.o _ _ (⟨rp5,rl5⟩) (fun hH2=>?_);clear hK K;refine Wl.r 5 (fun K hK=>?_);go_simp
 refine hK.o _ _ (hH2) (fun hH3=>?_);clear hK K;refine Wl.d ?_;obtain⟨L,hL⟩:=qqe (vo0 c li lc lf);have HL:=qqh hL;have hL11:L.length=11:=by rw[hL];rfl
 clear hHeld hH1 hH2 hH3 rp4 rl4 rp rl hL HS HK4;go_upto_region 8 with(first
  |(refine qYy rfl _ _ rfl _ _ rfl _ _ rl5 underlying103 rfl yx ?_)
  |(refine qYy rfl _ _ rfl _ _ rfl _ _ rp5 hut rfl hsi ?_)
  |(refine tp rfl _ _ _ _ rfl c li lc lf oy oy oy oy L.toArray (by rw[HL.o]) ?_)
  |fail)
 obtain⟨hc3,hp1,hp2,d3,g3,ol,gp⟩:=H3.o;have hu5:=H5.o;obtain⟨v,hv⟩:=qqe (w5.heap.size);obtain⟨w6,hw6⟩:=qqe (w5.alloc (.cells L.toArray 112));have hu6:=qqu hw6;have g6:w6.heap[v]?=some (.cells L.toArray 112 (0,0)):=by rw[hw6,hv];exact zc w5 _ rfl
 have hc6:=hc3.new (hu5.trans hu6);have d6:=d3.trans (hc3.jY (hu5.trans hu6));have ov:own2 v=0:=(hc3.new hu5).far v oM;have HB:=qqh (TW (v:=v) hc6 (by rw[za g6,HL.o];rfl));have H6:=Y7 hc6 hp1 hp2 d6 g6 ov (show w.heap.size<=v from by rw[hv];exact qXq d3.upd.size hu5.size);have HW6:=Y2 hw6 hv;clear hc3 hp1 hp2 d3 g3 ol gp hu5 hu6 g6 hc6 d6 ov hw6 hv rp5 rl5;rw[<-HW6.o.1,<-HW6.o.2];go_wp2_with fail
 refine HB.o.mono ?_;rintro e w7 ⟨rfl,hb7⟩;have hu7:=qqb hb7;have HN:=qqh (zay n.bl H.o.2.2.2.2.2.1.b1 H.o.2.2.2.2.2.1.b2 w7);have H7:=qqh hu7;clear hb7 hu7 HB;go_wp2_with fail
 refine HN.o.mono ?_;rintro e w8 ⟨lk,mb,rfl,hlk,hk1,hk2,hb8⟩;obtain⟨hc6,hp1,hp2,d6,g6,ov,hwv⟩:=H6.o;have hu8:=H7.o.trans (uuo hb8);have g8:=hu8.jT g6;have k8:=za g8 4;have f8:=zf g8 4;rw[HL.o]at k8;simp[vo0]at k8;have hvl:=zd g6;have hvs:=H7.o.size;have hs:=zi w8 v 4 (ptr lk);have h0:w6.cell? ⟨v,0,none⟩=some (ptr c):=by rw[za g6,HL.o];rfl
 have hn1:v≠0:=fun e=>by
  have h1:=hc6.nib.c 0 de;have h2:=h0;rw[e,h1]at h2;cases h2
 have hn2:v≠1:=fun e=>by
  have h1:=hc6.tur.c0;have h2:=h0;rw[e,h1]at h2;cases h2
 have HF:=qqh (show Aw own w ssd back n a (.returned (.tuple #[ptr v,.int .i64 0])) (w8.setCell ⟨v,4,none⟩ (ptr lk))from
  ⟨v,⟨c,li,lc,lf,lk,mb⟩,p,own2,rfl,⟨(hc6.new hu8).j9 hs (fun j hj=>by rw[hj];exact⟨ov,hn1,hn2⟩),by rw[zh g8 4 (ptr lk),HL.o];rfl,hlk.keep hs (fun e=>by replace e:lk=v:=e;omega) (fun e=>by replace e:mb=v:=e;omega),ov,
   (hc6.new H7.o).far lk hk1,(hc6.new H7.o).far mb hk2⟩,hp1,hp2,(d6.trans (hc6.jY hu8)).mine hs hwv⟩)
 clear hlk hk1 hk2 hb8 hc6 hp1 hp2 d6 g6 ov hwv hu8 g8 hvl hvs hs hn1 hn2 h0 HN H7;go_wp2
 obtain⟨w9,hw9⟩:=qqe (w8.setCell ⟨v,4,none⟩ (ptr lk));rw[<-hw9]at HF⊢;clear hw9;go_loopg[57] 0 (fun gk i wr=>i=.int .i64 0/\wr=w9)
 case atStart=>exact⟨rfl,rfl⟩
 case round=>
  obtain⟨rfl,hwr⟩:=hrel;subst hwr;go_wp2
  go_ret2
  obtain⟨v',q',p',own',he,h⟩:=HF.o;cases he;exact⟨v,q',p',own',rfl,h⟩
section
variable{own own':Nat->Nat}{w w' W W':World}{r v:Nat}{q:VoP}{n:CaN}{p:CaP}{a a':CaS}{md md':Int}{cl cl':Bool}
theorem Uv(W:World):Rd W 1 (.slice none 0 0) ([]:List Bool).length (Ak []):=(Sl.nil W 0 1).rd
theorem SJ{d fr m fi:Int}(h:RunAt own w r v q n p a md cl)(hsl:2<=n.sl)(hA:∀own5 w5 x y,Dvs own5 w5 x y a.dF [] a.bF [] []->Calls prog 55 #[ptr x,ptr y] w5 (uK own5 w5 x y n a')):
  Calls prog 43 #[ptr r,Jd d fr m fi (.slice none 0 0)] w (xC own w r n 0 0 [] a' 0 false):=by
 obtain⟨ob,hob⟩:=qqe (w.heap.size);obtain⟨w1,hw1⟩:=qqe ((w.alloc (.cells #[.int .i64 d,.int .i64 fr,.int .i64 m,.int .i64 fi,.slice none 0 0] 30)).alloc (.cells #[.int .i64 0,.int .i64 0,.slice none 0 0] 34));have hu1:Upd (fun _=>False) w w1:=by rw[hw1];exact((uur _ w).alloc _).alloc _
 have g0:w1.heap[ob]?=some (.cells #[.int .i64 d,.int .i64 fr,.int .i64 m,.int .i64 fi,.slice none 0 0] 30 (0,0)):=by rw[hw1,hob];exact(qxk _ _ _ oe).trans (zc w _ rfl)
 have b1:Bo own w1 (ob+1) #[.int .i64 0,.int .i64 0,.slice none 0 0] 34:=⟨by rw[hw1,hob];exact zc _ _ oe,h.vo.ca.far _ oM⟩
 have h1:=h.new hu1;have o4:w1.cell? ⟨ob,4,none⟩=some (.slice none 0 0):=za g0 4;have c3:=za h1.g 3;have c4:=za h1.g 4;simp at c3 c4;have hn:0<ob+1/\1<ob+1:=by have:=h.vo.ca.nib.lt;have:=h.vo.ca.tur.lt;omega
 have hlo:w.heap.size<=ob+1:=oM;have hro:r<ob:=by rw[hob];exact zd h.g
 have hx1:=fun W (hu:Upd (fun _=>False) w1 W)=>Ag (h1.new hu).vo.ca.ssd;have hx2:=fun W (hu:Upd (fun _=>False) w1 W)=>Ag (h1.new hu).vo.ca.back;have hud:=(uur (fun _=>False) w1).drew;have hl1:(0:Int)<=(a.dO.length:Int):=oM;have hl2:(0:Int)<=(a.bO.length:Int):=oM;have hw2:IntKind.i64.wrap (a.bO.length:Int)=(a.bO.length:Int):=qxu _ (by have:=h1.vo.ca.back.good.ol;omega);have hm1:min (0:Int) (a.dO.length:Int)=0:=Int.min_eq_left hl1;have hm2:min (0:Int) (a.bO.length:Int)=0:=Int.min_eq_left hl2;have hC1:=fun W (hu:Upd (fun _=>False) w1 W)=>QF (h1.new hu).vo.ca.ssd (Uv W) (qXy _);have hC2:=fun W (hu:Upd (fun _=>False) w1 W)=>QF (h1.new hu).vo.ca.back (Uv W) (qXy _);have HC:=Y2 hC1 hC2;have rp:w1.rangeAt r 0 polC:=fun j u hj=>(zg h1.g) j u (by
  have h3:=(qyl.1 hj).1;replace h3:j<3:=h3;rcases(show j=0\/j=1\/j=2 by omega)with rfl|rfl|rfl<;>exact hj)
 generalize (a.dO.length:Int)=l1 at*;generalize (a.bO.length:Int)=l2 at*;have HD:=Y2 hx1 hx2;have H:=Y8 h1 (h.vo.ca.jY hu1) b1 hn hlo hro hsl hA;have HW:=Y2 hw1 hob;clear hC1 hC2 h h1 b1 hu1 g0 hw1 hob hn hlo hro hsl hA hx1 hx2;go_enter func43,ntmps43
 go_upto_region 1 with fail
 rw[<-HW.o.1,<-HW.o.2];refine qZb (S:=fun W=>W.cell? ⟨ob,4,none⟩=some (.slice none 0 0)/\W.cell? ⟨r,3,none⟩=some (ptr p.ssd)) kR (⟨by rw[qYh];assumption,by rw[qYh];assumption⟩) (fun hHeld=>?_);refine Wl.i [0,1,2,3,4,5,6] ?_;iterate 7 refine Wl.t hHeld ?_
 refine Wl.o ?_;refine Wl.r 7 (fun K hK=>?_);go_simp
 refine(HD.o.1 _ hud).mono ?_;rintro e w2 ⟨rfl,hw2⟩;rw[hw2];refine hK.o _ _ (hHeld) (fun hH1=>?_);clear hK K;refine Wl.i [8] (Wl.t hH1 (Wl.o ?_));refine Wl.r 9 (fun K hK=>?_);go_simp
 refine hK.o _ _ (hH1) (fun hH2=>?_);clear hK K;refine Wl.d ?_;have o4:=hud.jS o4 id;have c3:=hud.jS c3 id;have c4:=hud.jS c4 id;generalize hwa:w1.drew=wa at*;clear hHeld hwa;have hub:=hud.trans (uur (fun _=>False) wa).drew;go_upto_region 2 with fail
 refine qZb (S:=fun W=>W.cell? ⟨ob,4,none⟩=some (.slice none 0 0)/\W.cell? ⟨r,4,none⟩=some (ptr p.back)) kR (⟨by rw[qYh];assumption,by rw[qYh];assumption⟩) (fun hHeld=>?_);refine Wl.i [0,1,2,3,4,5,6,7] ?_;iterate 8 refine Wl.t hHeld ?_
 refine Wl.o ?_;refine Wl.r 8 (fun K hK=>?_);go_simp
 refine(HD.o.2 _ hub).mono ?_;rintro e w2 ⟨rfl,hw2⟩;rw[hw2];refine hK.o _ _ (hHeld) (fun hH1=>?_);clear hK K;refine Wl.i [9,10] ?_;iterate 2 refine Wl.t hH1 ?_
 refine Wl.o ?_;refine Wl.r 11 (fun K hK=>?_);go_simp
 refine hK.o _ _ (hH1) (fun hH2=>?_);clear hK K;refine Wl.d ?_;have hda:=(uur (fun _=>False) wa).drew;have o4:=hda.jS o4 id;have c3:=hda.jS c3 id;have c4:=hda.jS c4 id;generalize hwb:wa.drew=wb at*;clear hHeld hwb hda hud;have hdb:=(uur (fun _=>False) wb).drew;have huc:=hub.trans hdb;go_upto_region 3 with fail
 refine qZb (S:=fun W=>W.cell? ⟨ob,4,none⟩=some (.slice none 0 0)/\W.cell? ⟨r,3,none⟩=some (ptr p.ssd)) kR (⟨by rw[qYh];assumption,by rw[qYh];assumption⟩) (fun hHeld=>?_);refine Wl.i [0,1,2,3,4,5,6,7] ?_;iterate 8 refine Wl.t hHeld ?_
 refine Wl.o ?_;refine Wl.r 8 (fun K hK=>?_);go_simp
 refine(HC.o.1 _ huc).mono ?_;rintro e w3 ⟨x,rfl,hx,hb3⟩;have hux:=hdb.trans (uuo (S:=fun _=>False) hb3);have o4:=hux.jS o4 id;have c3:=hux.jS c3 id;have c4:=hux.jS c4 id;have hu3:=huc.trans (uuo (S:=fun _=>False) hb3);have HX:=Y2 hx (show w1.heap.size<=wb.drew.heap.size from huc.size);clear hb3 hux hx;refine hK.o _ _ (⟨o4,c3⟩) (fun hH1=>?_);clear hK K;refine Wl.i [9,10,11] ?_;iterate 3 refine Wl.t hH1 ?_
 refine Wl.o ?_;refine Wl.r 12 (fun K hK=>?_);go_simp
 refine hK.o _ _ (hH1) (fun hH2=>?_);clear hK K;refine Wl.r 13 (fun K hK=>?_);go_simp
 refine hK.o _ _ (hH2) (fun hH3=>?_);clear hK K;refine Wl.d ?_;clear hHeld hH1 hH2;clear hdb c3;go_upto_region 6 with fail
 have hdd:=(uur (fun _=>False) w3).drew;have hue:=hu3.trans hdd;refine qZb (S:=fun W=>W.cell? ⟨ob,4,none⟩=some (.slice none 0 0)/\W.cell? ⟨r,4,none⟩=some (ptr p.back)) kR (⟨by rw[qYh];assumption,by rw[qYh];assumption⟩) (fun hHeld=>?_);refine Wl.i [0,1,2,3,4,5,6,7,8] ?_;iterate 9 refine Wl.t hHeld ?_
 refine Wl.o ?_;refine Wl.r 9 (fun K hK=>?_);go_simp
 refine(HC.o.2 _ hue).mono ?_;rintro e w4 ⟨y,rfl,hy,hb4⟩;have huy:=hdd.trans (uuo (S:=fun _=>False) hb4);have o4:=huy.jS o4 id;have c4:=huy.jS c4 id;have HY:=Y3 hy huy hb4;have hu4:=hue.trans (uuo (S:=fun _=>False) hb4);clear hb4 huy hy;refine hK.o _ _ (⟨o4,c4⟩) (fun hH1=>?_);clear hK K;refine Wl.i [10,11,12] ?_;iterate 3 refine Wl.t hH1 ?_
 refine Wl.o ?_;refine Wl.r 13 (fun K hK=>?_);go_simp
 refine hK.o _ _ (hH1) (fun hH2=>?_);clear hK K;refine Wl.r 14 (fun K hK=>?_);go_simp
 refine hK.o _ _ (hH2) (fun hH3=>?_);clear hK K;refine Wl.d ?_;clear hHeld hH1 hH2 hdd hue o4 c4;obtain⟨h1,d1,b1,hn,hlo,hro,hsl,hA⟩:=H.o;obtain⟨hx,hs1⟩:=HX.o;obtain⟨hy,huy,-⟩:=HY.o;rw[WN]at hx hy;obtain⟨s,hs⟩:=qqe (wb.drew.heap.size);obtain⟨k,hk⟩:=qqe (w3.heap.size);replace hy:Dv (fun j=>k<=j) w4 y a.bF [] []:=by rw[hk];exact hy
 rw[<-hs]at hx hs1;have hk4:k<=w4.heap.size:=by rw[hk];exact huy.size
 have hfar:=h1.vo.ca.far;obtain⟨own5,hown⟩:∃own5:Nat->Nat,own5=fun j=>if s<=j/\j<k then 2 else if k<=j/\j<w4.heap.size then 3 else own j:=⟨_,rfl⟩
 have hsk:s<=k:=by
  obtain⟨h3,h4⟩:=hx.sb;replace h3:s<=x:=h3;omega
 have o1:∀j,j<w1.heap.size->own5 j=own j:=fun j hj=>by rw[hown];show(if _ then _ else if _ then _ else _)=_;rw[if_neg oM,if_neg oM]
 have D5:Dvs own5 w4 x y a.dF [] a.bF [] []:=by
  refine⟨?_,?_,fun j hj=>?_,h1.vo.ca.nib.keep hu4 id,h1.vo.ca.tur.keep hu4 id,(o1 _ h1.vo.ca.nib.lt).trans h1.vo.ca.on,(o1 _ h1.vo.ca.tur.lt).trans h1.vo.ca.ot⟩
  .have a1:Dv (fun j=>s<=j/\j<k) w3 x a.dF [] []:=hx.out (fun j hj h=>⟨h,by rw[hk];exact hj⟩);exact(a1.new huy).out (fun j _ hj=>by rw[hown];exact if_pos hj)
  .exact hy.out (fun j hj h=>by rw[hown];show(if _ then _ else if _ then _ else _)=_;rw[if_neg oM,if_pos ⟨h,hj⟩])
  .rw [hown];show(if _ then _ else if _ then _ else _)=_;rw[if_neg oM,if_neg oM];exact hfar j (qXq hu4.size hj)
 have d5:DidR r own own5 w1 w4:=⟨hu4.mono fE,o1,fun j hj=>by rw[hown];show(if _ then _ else if _ then _ else _)<_;split;decide;split;decide;rw[hfar j hj];decide,D5.far⟩
 have g4:w4.heap[r]?=some (.cells #[.int .i64 1,.int .i64 0,.int .i64 2,ptr p.ssd,ptr p.back,ptr v] 68 (0,0)):=(h1.new hu4).g;have or5:own5 r=0:=(o1 r (zd h1.g)).trans h1.o;have hrn:r≠0:=fun e=>by
  have h2:=h1.vo.ca.nib.c 3 de;have h3:=za h1.g 3;rw[e,h2]at h3;cases h3
 have hrt:r≠1:=fun e=>by
  have h2:=h1.vo.ca.tur.c3;have h3:=za h1.g 3;rw[e,h2]at h3;cases h3
 obtain⟨W5,hW5⟩:=qqe (((w4.setCell ⟨r,3,none⟩ (ptr x)).setCell ⟨r,4,none⟩ (ptr y)).setCell ⟨r,5,none⟩ (.pointer none));have hu5:Upd (fun j=>j=r) w4 W5:=by rw[hW5];exact((zi w4 r 3 _).trans (zi _ r 4 _)).trans (zi _ r 5 _)
 have g5:W5.heap[r]?=some (.cells #[.int .i64 1,.int .i64 0,.int .i64 2,ptr x,ptr y,.pointer none] 68 (0,0)):=by rw[hW5];exact zh (zh (zh g4 3 (ptr x)) 4 (ptr y)) 5 (.pointer none)
 have D6:=D5.j9 hu5 (fun j hj=>by rw[hj];exact⟨or5,hrn,hrt⟩);have HV:=qqh (SI h1.vo.ca.ok hsl (fun w1' hu=>hA own5 w1' x y (D6.new hu)) D6.far);have d6:DidR r own own5 w1 W5:=d5.trans (DidR.at hu5 D5.far);have rp5:W5.rangeAt r 0 polC:=fun j u hj=>(zg g5) j u (by
  have h3:=(qyl.1 hj).1;replace h3:j<3:=h3;rcases(show j=0\/j=1\/j=2 by omega)with rfl|rfl|rfl<;>exact hj)
 have f3:=zf g4 3;have f4:=zf g4 4;have f5:=zf g4 5;have k3:=za g4 3;have k4:=za g4 4;have k5:=za g4 5;simp at k3 k4 k5;have hut:=underlying46;have hsi:=qh;have H5:=Y10 d1 b1 hn hlo hro d6 g5 or5 hrn hrt;have HW5:=qqh hW5;clear h1 d1 b1 hn hlo hro hsl hA hx hs1 hy huy hs hk hk4 hfar hown hsk o1 D5 d5 g4 or5 hrn hrt hu5 g5 D6 d6 hW5 rp;go_upto_region 10 with fail
 rw[<-HW5.o];clear f3 f4 f5 k3 k4 k5;go_wp2_with (first
  |(refine qYy rfl _ _ rfl _ _ rfl _ _ rp5 hut rfl hsi ?_)
  |fail)
 refine HV.o.mono ?_;rintro e w6 ⟨v',q',p',own6,rfl,hv6,hp1,hp2,d6⟩;obtain⟨d1,b1,hn,hlo,hro,d5,g5,or5,hrn,hrt⟩:=H5.o;have g6:=d6.zero g5 or5;obtain⟨W7,hW7⟩:=qqe (w6.setCell ⟨r,5,none⟩ (ptr v'));have hu7:Upd (fun j=>j=r) w6 W7:=by rw[hW7];exact zi w6 r 5 (ptr v')
 have g7:W7.heap[r]?=some (.cells #[.int .i64 1,.int .i64 0,.int .i64 2,ptr p'.ssd,ptr p'.back,ptr v'] 68 (0,0)):=by rw[hW7,hp1,hp2];exact zh g6.1 5 (ptr v')
 have R7:RunAt own6 W7 r v' q' n p' a' 0 false:=⟨hv6.box ⟨g6.1,g6.2⟩ de de ⟨hrn,hrt⟩ hu7,g7,g6.2⟩
 have dd:=d5.trans (d6.toR.trans (DidR.at hu7 hv6.ca.far));have b7:=b1.didR dd oM;have tA:=Yf b7.1;have HF:=qqh (xC.fin (cd:=0) (m:=0) R7 b7 (w:=w) hlo hn (d1.toR.trans dd) (Rz.nil own6 W7));have k5:=za g6.1 5;have f5:=zf g6.1 5;simp at k5;have HW7:=qqh hW7;clear d1 b1 hn hlo hro d5 g5 or5 hrn hrt g6 hu7 g7 R7 dd b7 hW7 hv6 hp1 hp2 d6 HV rp5;go_upto_region 14 with fail
 rw[<-HW7.o];clear k5 f5;go_wp2_with (first
  |(refine qZa rfl _ _ _ rfl _ _ [.int .i64 0,.int .i64 0,.slice none 0 0].toArray rfl rfl tA xk (qYn (qg rfl)) ?_)
  |fail)
 exact qYp (zv rfl _ _ (ob+1) 0 [.int .i64 0,.int .i64 0,.slice none 0 0] _ rfl (qYk _ _ _ _ tA) underlying34 rfl xk) rfl HF.o
end
end Go.Proofs.YtpejdgiccaijfaaGreatDoor
