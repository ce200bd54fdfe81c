/- The iterators over a clock's keys, and over it -/
import Derived.Test.YtfhfbpmlnjdfoaaGreatDoorG22
set_option maxRecDepth 100000
set_option maxHeartbeats 4000000
namespace Go.Proofs.YtfhfbpmlnjdfoaaGreatDoor
open Go Go.RowKit Go.Shelf
attribute [local go_sem] qYh
abbrev It7:=Int×Bool
abbrev JZ(x:It7):Array Value:= #[.int .i64 x.1,.bool x.2]
def kaL(K:List Int)(A:Int->Bool):List It7:=K.map fun k=>(k,A k)
theorem tI(K:List Int)(A:Int->Bool):(kaL K A).length=K.length:=by simp[kaL]
theorem TO(K:List Int)(A:Int->Bool){k:Nat}(h:k<K.length):(kaL K A).take (k+1)=(kaL K A).take k++[(K[k],A K[k])]:=by
 rw[qXq (by rw[tI];exact h)];simp[kaL]
theorem Yj{β:Type}{B:Nat}{J:β->World->Prop}(hJ:AbidesFrom B J){s:β}{W W':World}(h:J s W)(hu:Upd (fun _=>False) W W'):J s W':=
 hJ s W W' none h ⟨hu.os,hu.tape,hu.output,hu.size,fun k hk _=>hu.block k hk (fun h=>h)⟩ (fun r e=>by cases e)
theorem AF(n:Nat)(hn:2<=n)(S:Nat->Prop)(l Bs Bm mb N:Nat)(K:List Int)(A:Int->Bool)(v:Value)
  (hle:K.length<=4096) (hr:∀x∈K,InR x) (hv:∀g,v.ownBlock=some g->¬S g) (hBm:¬S Bm) (hmb:¬S mb) (J Jx:List It7->World->Prop) (B0:Nat) (hJ:AbidesFrom B0 J)
  (hY:∀pre (x:It7) W,J pre W->pre.length<K.length->YieldAt Fence.wide (n-1) Tryz.prog l (JZ x) W fun e W'=>
   (e=.returned (.bool true)/\J (pre++[x]) W'/\Upd S W W')\/(e=.returned (.bool false)/\Jx (pre++[x]) W'))
  (W:World) (hBs:W.cell? ⟨Bs,0,none⟩=some v) (hcm:W.cell? ⟨Bm,0,none⟩=some (.map (some mb))) (hs:Sl W 3 1 v K.length (ints K)) (ha:SetAt W mb N A) (h0:J [] W):
  CallsIn Fence.wide n Tryz.prog 300 #[.func (.yield l) #[] #[],.pointer (some ⟨Bs,0,none⟩),.pointer (some ⟨Bm,0,none⟩)] W fun e W'=>(∃v,e=.returned v)/\
   ((∃ys,ys=kaL K A/\J ys W')\/(∃pre,pre<+:kaL K A/\Jx pre W')):=by
 have HS:=qqh hs;have HA:=qqh ha;have HV:=qqh hv;have HR:=qqh hr;have hBmW:=(zL hcm).2;obtain⟨ao,c,rfl⟩:=hs.rd.nil_iff;clear hs ha hv hr;refine callsIn_of_wp Tryz.func300 rfl trivial ?_ rfl;simp only[Tryz.ntmps300,qXm,qze,qzh,Nat.reduceAdd,Nat.reduceSub,qxi,qxj,qXg,qxz,qzz,qya]
 gi_wp2
 gi_loopw [8] (fun i wr=>∃k:Nat,k<=K.length/\i=.int .i64 k/\J ((kaL K A).take k) wr/\Upd S W wr)
  (fun i _=>K.length-(intOf i).toNat)
 case atStart=>exact⟨0,qYf _,rfl,h0,uur _ _⟩
 case round=>
  obtain⟨k,hk,rfl,hJs,hnx⟩:=hrel;have hcm':wr.cell? ⟨Bm,0,none⟩=some (.map (some mb)):=(hnx.cellAt hBmW hBm).trans hcm;by_cases hlt:k<K.length
  .have hsr:=HS.o.keep hnx HV.o;obtain⟨gk,ok,ck,hvk,hgk,hck⟩:=hsr.rd.at (by omega);cases hvk;have hcell:=hck k _ (yp hlt);have HA2:=qqh (HA.o.keep hnx hmb);have HM:Hid ((kaL K A).take (k+1)=(kaL K A).take k++[(K[k],A K[k])]):=TO K A hlt;have HLT:Hid (((kaL K A).take k).length<K.length):=by show _<_;rw[qzk,tI];omega
   have hkr:InR K[k]:=HR.o _ (qyz hlt);obtain⟨x,hx⟩:=qqe (K[k]);rw[<-hx]at hcell HM hkr;clear hsr hck hgk hx
   gi_wp2_with fail
   refine⟨trivial,fun _=>by omega,?_⟩;refine(callsIn_wide.2 (vH HA2.o x hkr)).mono ?_;rintro e w3 ⟨rfl,hb3⟩;have hu4:=qqb hb3;have HJ:=qqh (Yj hJ hJs hu4);have HU:=qqh (hnx.trans (hu4.mono (S':=S) (fun _ _ h=>h.elim)));obtain⟨fn,tmps,assign,body,hy,hR⟩:=hY _ (x,A x) w3 HJ.o HLT.o;simp only[JZ]at hy;clear hb3 hu4
   gi_wp2
   refine⟨fun _=>by omega,?_⟩;refine hR.mono ?_;rintro e W3 (⟨rfl,hJ3,hk3⟩|⟨rfl,hJx3⟩)
   .have HJ3:=qqh hJ3;have HU3:=qqh (HU.o.trans hk3);clear hJ3 hk3 hR
    gi_wp2
    go_roundw
    case rel=>exact⟨k+1,by omega,by simp,by rw[HM.o];exact HJ3.o,HU3.o⟩
    case measure=>simp[intOf];omega
   .clear hR
    gi_wp2
    refine qYw (qZc rfl _ _ _) rfl ?_;exact⟨⟨_,rfl⟩,.inr ⟨_,by rw[<-HM.o];exact List.take_prefix _ _,hJx3⟩⟩
  .obtain rfl:k=K.length:=by omega
   have HT:Hid ((kaL K A).take K.length=kaL K A):=qXp (by rw[tI];exact qXv _)
   gi_wp2
   go_end0
   exact⟨⟨_,rfl⟩,.inl ⟨_,rfl,by rw[<-HT.o];exact hJs⟩⟩
def Ea{α:Type}(enc:α->Array Value)(w:World)(gf:Nat)(lb:Array Value)(xs:List α):Prop:=
 (∀args w,(callFunc gf args).run Tryz.prog w=.ok (.enter gf args) w)/\
 ∀(n:Nat),2<=n->∀(S:Nat->Prop),(∀j,S j->w.heap.size<=j)->∀w2,Below w.heap.size w w2->
  SeqStopsK Fence.wide n Tryz.prog gf lb enc (Upd S) (fun ys=>ys=xs) (fun pre=>pre<+:xs) xs.length w2
theorem yk{W:World}{p:Nat}{v:Value}(h:∃u,W.cell? ⟨p,0,none⟩=some u):(W.setCell ⟨p,0,none⟩ v).cell? ⟨p,0,none⟩=some v:=by
 obtain⟨u,h⟩:=h;exact World.cell?_setCell_same W _ v h
theorem wG{W:World}{p q:Nat}{v:Value}(h:p≠q):(W.setCell ⟨q,0,none⟩ v).cell? ⟨p,0,none⟩=W.cell? ⟨p,0,none⟩:=
 World.cell?_of_block (a:=⟨p,0,none⟩) (w:=W) (Below.heap_setCell W ⟨q,0,none⟩ v p h)
theorem yl{W:World}{p q:Nat}{v v':Value}(hne:p≠q)(h:∃u,W.cell? ⟨p,0,none⟩=some u):((W.setCell ⟨q,0,none⟩ v').setCell ⟨p,0,none⟩ v).cell? ⟨p,0,none⟩=some v:=by
 obtain⟨u,h⟩:=h;exact yk ⟨u,(wG hne).trans h⟩
theorem vc{W:World}{p:Nat}{o:Obj}(h:p<W.heap.size):(W.alloc o).cell? ⟨p,0,none⟩=W.cell? ⟨p,0,none⟩:=
 World.cell?_of_block (a:=⟨p,0,none⟩) (w:=W) (qxk W o p h)
theorem xX{W:World}{n:Nat}{v:Value}{T:TypeId}(h:n=W.heap.size):(W.alloc (.cells #[v] T)).cell? ⟨n,0,none⟩=some v:=
 za (zc W _ h) 0
def WI(w:World)(N:Nat)(K:List Int)(A:Int->Bool)(e:Ending)(w':World):Prop:=
 ∃Bs Bm v m2,e=.returned (.func (.func 300) #[] #[.pointer (some ⟨Bs,0,none⟩),.pointer (some ⟨Bm,0,none⟩)])/\
   w'.cell? ⟨Bs,0,none⟩=some v/\w'.cell? ⟨Bm,0,none⟩=some (.map (some m2))/\Sl w' 3 1 v K.length (ints K)/\SetAt w' m2 N A/\Below w.heap.size w w'
theorem Sm{w w3 w4 W:World}{N Bs Bm m2:Nat}{K:List Int}{A:Int->Bool}{v:Value}{e:Ending}(he:e=.returned (.func (.func 300) #[] #[.pointer (some ⟨Bs,0,none⟩),.pointer (some ⟨Bm,0,none⟩)]))
  (c1:W.cell? ⟨Bs,0,none⟩=some v) (c2:W.cell? ⟨Bm,0,none⟩=some (.map (some m2))) (hs:Sl w3 3 1 v K.length (ints K)) (h34:Upd (fun _=>False) w3 w4) (ha:SetAt w4 m2 N A) (hu:Upd (fun j=>j=Bs\/j=Bm) w4 W)
  (hv:∀g,v.ownBlock=some g->g≠Bs/\g≠Bm) (hm:m2≠Bs/\m2≠Bm) (h03:Upd (fun _=>False) w w3) (hB:w.heap.size<=Bs/\w.heap.size<=Bm):WI w N K A e W:=
 ⟨Bs,Bm,v,m2,he,c1,c2,(hs.keep h34 (fun _ _ h=>h)).keep hu (fun g hg h=>h.elim (hv g hg).1 (hv g hg).2),ha.keep hu (fun h=>h.elim hm.1 hm.2),
  zj (zj (zj (qxl _ w) h03 (qXv _) (fun _ h=>h.elim)) h34 (qXv _) (fun _ h=>h.elim)) hu (qXv _) (fun _j h=>h.elim (fun e=>e▸hB.1) (fun e=>e▸hB.2))⟩
theorem Sn{w:World}{b mb N most few:Nat}{vk vg:Value}{K G:List Int}{A:Int->Bool}(h:CkAt w b mb N vk vg most few K A G):
  Calls Tryz.prog 231 #[.pointer (some ⟨b,0,none⟩)] w (WI w N K A):=by
 have H:=qqh (fun(W:World) (hu:Upd (fun _=>False) w W)=>h.keep hu (fun _ _ h=>h));have hblt:=h.blt;have hkl:=h.kle;have hk4:K.length<=4096:=by omega
 have g2:=h.c.2.2.1;have g3:=h.c.2.2.2.1;clear h;have nw0:¬b=w.heap.size:=by omega
 have nw1:¬w.heap.size=b:=by omega
 have nw2:¬b=w.heap.size+1:=by omega
 have nw3:¬w.heap.size+1=b:=by omega
 have C0:=qqh (H.o (w.drew) ((uur _ _).drew));have CA:=qqh (H.o ((w.alloc (.cells #[.slice none 0 0] 87)).drew) (((uur _ _).alloc _).drew));have LA0:Hid (((w.alloc (.cells #[.slice none 0 0] 87)).drew).heap[w.heap.size]?=some (.cells #[.slice none 0 0] 87 (0,0))):=zc w _ rfl;have CB:=qqh (H.o ((w.alloc (.cells #[.map none] 331)).drew) (((uur _ _).alloc _).drew));have LB0:Hid (((w.alloc (.cells #[.map none] 331)).drew).heap[w.heap.size]?=some (.cells #[.map none] 331 (0,0))):=zc w _ rfl;have CAB:=qqh (H.o (((w.alloc (.cells #[.slice none 0 0] 87)).alloc (.cells #[.map none] 331)).drew) ((((uur _ _).alloc _).alloc _).drew));have LAB0:Hid ((((w.alloc (.cells #[.slice none 0 0] 87)).alloc (.cells #[.map none] 331)).drew).heap[w.heap.size]?=some (.cells #[.slice none 0 0] 87 (0,0))):=((((uur (fun _=>False) (w.alloc (.cells #[.slice none 0 0] 87))).alloc (.cells #[.map none] 331)).block w.heap.size (by simp) (fun h=>h)).trans (zc w _ rfl))
 have LAB1:Hid ((((w.alloc (.cells #[.slice none 0 0] 87)).alloc (.cells #[.map none] 331)).drew).heap[w.heap.size+1]?=some (.cells #[.map none] 331 (0,0))):=zc (w.alloc _) _ (by simp);have CBA:=qqh (H.o (((w.alloc (.cells #[.map none] 331)).alloc (.cells #[.slice none 0 0] 87)).drew) ((((uur _ _).alloc _).alloc _).drew));have LBA0:Hid ((((w.alloc (.cells #[.map none] 331)).alloc (.cells #[.slice none 0 0] 87)).drew).heap[w.heap.size]?=some (.cells #[.map none] 331 (0,0))):=((((uur (fun _=>False) (w.alloc (.cells #[.map none] 331))).alloc (.cells #[.slice none 0 0] 87)).block w.heap.size (by simp) (fun h=>h)).trans (zc w _ rfl))
 have LBA1:Hid ((((w.alloc (.cells #[.map none] 331)).alloc (.cells #[.slice none 0 0] 87)).drew).heap[w.heap.size+1]?=some (.cells #[.slice none 0 0] 87 (0,0))):=zc (w.alloc _) _ (by simp);go_enter Tryz.func231,Tryz.ntmps231
 go_wp2
 go_region_held3 (fun W=>W.cell? ⟨b,2,none⟩=some vk/\W.cell? ⟨b,3,none⟩=some (.map (some mb))) (go_keep)
  (first
  |((go_at_call 113;(with_reducible refine(yz C0.out.ks.rd hk4).mono ?_);rintro e w3 ⟨v3,rfl,hs3,hf3,hb3⟩;obtain⟨ao3,c3,rfl⟩:=hs3.rd.nil_iff;have hu3:Upd (fun _=>False) w w3:=Upd.trans ((uur _ _).drew) (uuo hb3);have hX:Hid (∀W,Upd (fun _=>False) w3 W->True/\True):=fun W hu=>⟨trivial,trivial⟩;have bl3:b<w3.heap.size:=qXy hblt hu3.size;have nx0:¬b=w3.heap.size:=(by omega);have nx1:¬w3.heap.size=b:=(by omega);have nx2:¬b=w3.heap.size+1:=(by omega);have nx3:¬w3.heap.size+1=b:=(by omega);have k2:=(H.o _ hu3).c.2.2.1;have k3:=(H.o _ hu3).c.2.2.2.1;have F3:=Y4 hs3 hf3 hb3 hu3;clear hs3 hf3 hb3 hu3))
  |((go_at_call 113;(with_reducible refine(yz CA.out.ks.rd hk4).mono ?_);rintro e w3 ⟨v3,rfl,hs3,hf3,hb3⟩;obtain⟨ao3,c3,rfl⟩:=hs3.rd.nil_iff;have hu3:Upd (fun _=>False) w w3:=Upd.trans (((uur _ _).alloc _).drew) (uuo hb3);have hX:Hid (∀W,Upd (fun _=>False) w3 W->W.heap[w.heap.size]?=some (.cells #[.slice none 0 0] 87 (0,0))/\True):=fun W hu=>⟨(hu.block _ (qXy (zd LA0.out) hb3.size) (fun h=>h)).trans ((hb3.block _ (zd LA0.out)).trans LA0.out),trivial⟩;have z0:w.heap.size<w3.heap.size:=qXy (zd LA0.out) hb3.size;have za0:=qYd z0;have zb0:=qYc z0;have bl3:b<w3.heap.size:=qXy hblt hu3.size;have nx0:¬b=w3.heap.size:=(by omega);have nx1:¬w3.heap.size=b:=(by omega);have nx2:¬b=w3.heap.size+1:=(by omega);have nx3:¬w3.heap.size+1=b:=(by omega);have k2:=(H.o _ hu3).c.2.2.1;have k3:=(H.o _ hu3).c.2.2.2.1;have F3:=Y4 hs3 hf3 hb3 hu3;clear hs3 hf3 hb3 hu3))
  |((go_at_call 113;(with_reducible refine(yz CB.out.ks.rd hk4).mono ?_);rintro e w3 ⟨v3,rfl,hs3,hf3,hb3⟩;obtain⟨ao3,c3,rfl⟩:=hs3.rd.nil_iff;have hu3:Upd (fun _=>False) w w3:=Upd.trans (((uur _ _).alloc _).drew) (uuo hb3);have hX:Hid (∀W,Upd (fun _=>False) w3 W->W.heap[w.heap.size]?=some (.cells #[.map none] 331 (0,0))/\True):=fun W hu=>⟨(hu.block _ (qXy (zd LB0.out) hb3.size) (fun h=>h)).trans ((hb3.block _ (zd LB0.out)).trans LB0.out),trivial⟩;have z0:w.heap.size<w3.heap.size:=qXy (zd LB0.out) hb3.size;have za0:=qYd z0;have zb0:=qYc z0;have bl3:b<w3.heap.size:=qXy hblt hu3.size;have nx0:¬b=w3.heap.size:=(by omega);have nx1:¬w3.heap.size=b:=(by omega);have nx2:¬b=w3.heap.size+1:=(by omega);have nx3:¬w3.heap.size+1=b:=(by omega);have k2:=(H.o _ hu3).c.2.2.1;have k3:=(H.o _ hu3).c.2.2.2.1;have F3:=Y4 hs3 hf3 hb3 hu3;clear hs3 hf3 hb3 hu3))
  |((go_at_call 113;(with_reducible refine(yz CAB.out.ks.rd hk4).mono ?_);rintro e w3 ⟨v3,rfl,hs3,hf3,hb3⟩;obtain⟨ao3,c3,rfl⟩:=hs3.rd.nil_iff;have hu3:Upd (fun _=>False) w w3:=Upd.trans ((((uur _ _).alloc _).alloc _).drew) (uuo hb3);have hX:Hid (∀W,Upd (fun _=>False) w3 W->W.heap[w.heap.size]?=some (.cells #[.slice none 0 0] 87 (0,0))/\W.heap[w.heap.size+1]?=some (.cells #[.map none] 331 (0,0))):=fun W hu=>⟨(hu.block _ (qXy (zd LAB0.out) hb3.size) (fun h=>h)).trans ((hb3.block _ (zd LAB0.out)).trans LAB0.out),(hu.block _ (qXy (zd LAB1.out) hb3.size) (fun h=>h)).trans ((hb3.block _ (zd LAB1.out)).trans LAB1.out)⟩;have z0:w.heap.size<w3.heap.size:=qXy (zd LAB0.out) hb3.size;have za0:=qYd z0;have zb0:=qYc z0;have z1:w.heap.size+1<w3.heap.size:=qXy (zd LAB1.out) hb3.size;have za1:=qYd z1;have zb1:=qYc z1;have bl3:b<w3.heap.size:=qXy hblt hu3.size;have nx0:¬b=w3.heap.size:=(by omega);have nx1:¬w3.heap.size=b:=(by omega);have nx2:¬b=w3.heap.size+1:=(by omega);have nx3:¬w3.heap.size+1=b:=(by omega);have k2:=(H.o _ hu3).c.2.2.1;have k3:=(H.o _ hu3).c.2.2.2.1;have F3:=Y4 hs3 hf3 hb3 hu3;clear hs3 hf3 hb3 hu3))
  |((go_at_call 113;(with_reducible refine(yz CBA.out.ks.rd hk4).mono ?_);rintro e w3 ⟨v3,rfl,hs3,hf3,hb3⟩;obtain⟨ao3,c3,rfl⟩:=hs3.rd.nil_iff;have hu3:Upd (fun _=>False) w w3:=Upd.trans ((((uur _ _).alloc _).alloc _).drew) (uuo hb3);have hX:Hid (∀W,Upd (fun _=>False) w3 W->W.heap[w.heap.size]?=some (.cells #[.map none] 331 (0,0))/\W.heap[w.heap.size+1]?=some (.cells #[.slice none 0 0] 87 (0,0))):=fun W hu=>⟨(hu.block _ (qXy (zd LBA0.out) hb3.size) (fun h=>h)).trans ((hb3.block _ (zd LBA0.out)).trans LBA0.out),(hu.block _ (qXy (zd LBA1.out) hb3.size) (fun h=>h)).trans ((hb3.block _ (zd LBA1.out)).trans LBA1.out)⟩;have z0:w.heap.size<w3.heap.size:=qXy (zd LBA0.out) hb3.size;have za0:=qYd z0;have zb0:=qYc z0;have z1:w.heap.size+1<w3.heap.size:=qXy (zd LBA1.out) hb3.size;have za1:=qYd z1;have zb1:=qYc z1;have bl3:b<w3.heap.size:=qXy hblt hu3.size;have nx0:¬b=w3.heap.size:=(by omega);have nx1:¬w3.heap.size=b:=(by omega);have nx2:¬b=w3.heap.size+1:=(by omega);have nx3:¬w3.heap.size+1=b:=(by omega);have k2:=(H.o _ hu3).c.2.2.1;have k3:=(H.o _ hu3).c.2.2.2.1;have F3:=Y4 hs3 hf3 hb3 hu3;clear hs3 hf3 hb3 hu3))
  |((go_at_call 235;(with_reducible refine(yQ (w:=w3) (H.o _ (F3.out.2.2.2.trans (uur _ _))).set).mono ?_);rintro e w4 ⟨rfl,hset4,hb4⟩;have hu34:Upd (fun _=>False) w3 w4:=Upd.trans (uur _ _) (uuo hb4);obtain⟨x0,x1⟩:=hX.out _ hu34;(try(have xa:=za x0 0));(try(have xb:=zf x0 0));(try(have xc:=za x1 0));(try(have xd:=zf x1 0));(try simp at xa);(try simp at xc);(try(have ya:=zd x0));(try(have yb:=zd x1));(try(have yc:=qYd ya));(try(have yd:=qYc ya));(try(have ye:=qYd yb));(try(have yf:=qYc yb));have X0:=qqh x0;have X1:=qqh x1;clear x0 x1;have M0:Hid True:=trivial;have M1:Hid True:=trivial;have bl4:b<w4.heap.size:=qXy (qXy hblt F3.out.2.2.2.size) hu34.size;have ny0:¬b=w4.heap.size:=(by omega);have ny1:¬w4.heap.size=b:=(by omega);have ny2:¬b=w4.heap.size+1:=(by omega);have ny3:¬w4.heap.size+1=b:=(by omega);have l2:=(H.o _ (F3.out.2.2.2.trans hu34)).c.2.2.1;have l3:=(H.o _ (F3.out.2.2.2.trans hu34)).c.2.2.2.1;have F4:=Y3 hset4 hb4 hu34;clear hset4 hb4 hu34))
  |((go_at_call 235;(with_reducible refine(yQ (w:=(w3.alloc (.cells #[.slice none 0 0] 87))) (H.o _ (F3.out.2.2.2.trans ((uur _ _).alloc _))).set).mono ?_);rintro e w4 ⟨rfl,hset4,hb4⟩;have hu34:Upd (fun _=>False) w3 w4:=Upd.trans ((uur _ _).alloc _) (uuo hb4);obtain⟨x0,x1⟩:=hX.out _ hu34;(try(have xa:=za x0 0));(try(have xb:=zf x0 0));(try(have xc:=za x1 0));(try(have xd:=zf x1 0));(try simp at xa);(try simp at xc);(try(have ya:=zd x0));(try(have yb:=zd x1));(try(have yc:=qYd ya));(try(have yd:=qYc ya));(try(have ye:=qYd yb));(try(have yf:=qYc yb));have X0:=qqh x0;have X1:=qqh x1;clear x0 x1;have m0:w4.heap[w3.heap.size]?=some (.cells #[.slice none 0 0] 87 (0,0)):=(hb4.block _ (by simp only[qYs];omega)).trans (zc w3 _ rfl);have n0:=za m0 0;have o0:=zf m0 0;simp at n0;have M0:=qqh m0;have lt0:=zd m0;have na0:=qYd lt0;have nb0:=qYc lt0;clear m0;have M1:Hid True:=trivial;have bl4:b<w4.heap.size:=qXy (qXy hblt F3.out.2.2.2.size) hu34.size;have ny0:¬b=w4.heap.size:=(by omega);have ny1:¬w4.heap.size=b:=(by omega);have ny2:¬b=w4.heap.size+1:=(by omega);have ny3:¬w4.heap.size+1=b:=(by omega);have l2:=(H.o _ (F3.out.2.2.2.trans hu34)).c.2.2.1;have l3:=(H.o _ (F3.out.2.2.2.trans hu34)).c.2.2.2.1;have F4:=Y3 hset4 hb4 hu34;clear hset4 hb4 hu34))
  |((go_at_call 235;(with_reducible refine(yQ (w:=(w3.alloc (.cells #[.map none] 331))) (H.o _ (F3.out.2.2.2.trans ((uur _ _).alloc _))).set).mono ?_);rintro e w4 ⟨rfl,hset4,hb4⟩;have hu34:Upd (fun _=>False) w3 w4:=Upd.trans ((uur _ _).alloc _) (uuo hb4);obtain⟨x0,x1⟩:=hX.out _ hu34;(try(have xa:=za x0 0));(try(have xb:=zf x0 0));(try(have xc:=za x1 0));(try(have xd:=zf x1 0));(try simp at xa);(try simp at xc);(try(have ya:=zd x0));(try(have yb:=zd x1));(try(have yc:=qYd ya));(try(have yd:=qYc ya));(try(have ye:=qYd yb));(try(have yf:=qYc yb));have X0:=qqh x0;have X1:=qqh x1;clear x0 x1;have m0:w4.heap[w3.heap.size]?=some (.cells #[.map none] 331 (0,0)):=(hb4.block _ (by simp only[qYs];omega)).trans (zc w3 _ rfl);have n0:=za m0 0;have o0:=zf m0 0;simp at n0;have M0:=qqh m0;have lt0:=zd m0;have na0:=qYd lt0;have nb0:=qYc lt0;clear m0;have M1:Hid True:=trivial;have bl4:b<w4.heap.size:=qXy (qXy hblt F3.out.2.2.2.size) hu34.size;have ny0:¬b=w4.heap.size:=(by omega);have ny1:¬w4.heap.size=b:=(by omega);have ny2:¬b=w4.heap.size+1:=(by omega);have ny3:¬w4.heap.size+1=b:=(by omega);have l2:=(H.o _ (F3.out.2.2.2.trans hu34)).c.2.2.1;have l3:=(H.o _ (F3.out.2.2.2.trans hu34)).c.2.2.2.1;have F4:=Y3 hset4 hb4 hu34;clear hset4 hb4 hu34))
  |((go_at_call 235;(with_reducible refine(yQ (w:=((w3.alloc (.cells #[.slice none 0 0] 87)).alloc (.cells #[.map none] 331))) (H.o _ (F3.out.2.2.2.trans (((uur _ _).alloc _).alloc _))).set).mono ?_);rintro e w4 ⟨rfl,hset4,hb4⟩;have hu34:Upd (fun _=>False) w3 w4:=Upd.trans (((uur _ _).alloc _).alloc _) (uuo hb4);obtain⟨x0,x1⟩:=hX.out _ hu34;(try(have xa:=za x0 0));(try(have xb:=zf x0 0));(try(have xc:=za x1 0));(try(have xd:=zf x1 0));(try simp at xa);(try simp at xc);(try(have ya:=zd x0));(try(have yb:=zd x1));(try(have yc:=qYd ya));(try(have yd:=qYc ya));(try(have ye:=qYd yb));(try(have yf:=qYc yb));have X0:=qqh x0;have X1:=qqh x1;clear x0 x1;have m0:w4.heap[w3.heap.size]?=some (.cells #[.slice none 0 0] 87 (0,0)):=(hb4.block _ (by simp only[qYs];omega)).trans (((((uur (fun _=>False) (w3.alloc (.cells #[.slice none 0 0] 87))).alloc (.cells #[.map none] 331)).block w3.heap.size (by simp) (fun h=>h)).trans (zc w3 _ rfl)));have n0:=za m0 0;have o0:=zf m0 0;simp at n0;have M0:=qqh m0;have lt0:=zd m0;have na0:=qYd lt0;have nb0:=qYc lt0;clear m0;have m1:w4.heap[w3.heap.size+1]?=some (.cells #[.map none] 331 (0,0)):=(hb4.block _ (by simp only[qYs];omega)).trans (zc (w3.alloc _) _ (by simp));have n1:=za m1 0;have o1:=zf m1 0;simp at n1;have M1:=qqh m1;have lt1:=zd m1;have na1:=qYd lt1;have nb1:=qYc lt1;clear m1;have bl4:b<w4.heap.size:=qXy (qXy hblt F3.out.2.2.2.size) hu34.size;have ny0:¬b=w4.heap.size:=(by omega);have ny1:¬w4.heap.size=b:=(by omega);have ny2:¬b=w4.heap.size+1:=(by omega);have ny3:¬w4.heap.size+1=b:=(by omega);have l2:=(H.o _ (F3.out.2.2.2.trans hu34)).c.2.2.1;have l3:=(H.o _ (F3.out.2.2.2.trans hu34)).c.2.2.2.1;have F4:=Y3 hset4 hb4 hu34;clear hset4 hb4 hu34))
  |((go_at_call 235;(with_reducible refine(yQ (w:=((w3.alloc (.cells #[.map none] 331)).alloc (.cells #[.slice none 0 0] 87))) (H.o _ (F3.out.2.2.2.trans (((uur _ _).alloc _).alloc _))).set).mono ?_);rintro e w4 ⟨rfl,hset4,hb4⟩;have hu34:Upd (fun _=>False) w3 w4:=Upd.trans (((uur _ _).alloc _).alloc _) (uuo hb4);obtain⟨x0,x1⟩:=hX.out _ hu34;(try(have xa:=za x0 0));(try(have xb:=zf x0 0));(try(have xc:=za x1 0));(try(have xd:=zf x1 0));(try simp at xa);(try simp at xc);(try(have ya:=zd x0));(try(have yb:=zd x1));(try(have yc:=qYd ya));(try(have yd:=qYc ya));(try(have ye:=qYd yb));(try(have yf:=qYc yb));have X0:=qqh x0;have X1:=qqh x1;clear x0 x1;have m0:w4.heap[w3.heap.size]?=some (.cells #[.map none] 331 (0,0)):=(hb4.block _ (by simp only[qYs];omega)).trans (((((uur (fun _=>False) (w3.alloc (.cells #[.map none] 331))).alloc (.cells #[.slice none 0 0] 87)).block w3.heap.size (by simp) (fun h=>h)).trans (zc w3 _ rfl)));have n0:=za m0 0;have o0:=zf m0 0;simp at n0;have M0:=qqh m0;have lt0:=zd m0;have na0:=qYd lt0;have nb0:=qYc lt0;clear m0;have m1:w4.heap[w3.heap.size+1]?=some (.cells #[.slice none 0 0] 87 (0,0)):=(hb4.block _ (by simp only[qYs];omega)).trans (zc (w3.alloc _) _ (by simp));have n1:=za m1 0;have o1:=zf m1 0;simp at n1;have M1:=qqh m1;have lt1:=zd m1;have na1:=qYd lt1;have nb1:=qYc lt1;clear m1;have bl4:b<w4.heap.size:=qXy (qXy hblt F3.out.2.2.2.size) hu34.size;have ny0:¬b=w4.heap.size:=(by omega);have ny1:¬w4.heap.size=b:=(by omega);have ny2:¬b=w4.heap.size+1:=(by omega);have ny3:¬w4.heap.size+1=b:=(by omega);have l2:=(H.o _ (F3.out.2.2.2.trans hu34)).c.2.2.1;have l3:=(H.o _ (F3.out.2.2.2.trans hu34)).c.2.2.2.1;have F4:=Y3 hset4 hb4 hu34;clear hset4 hb4 hu34)))
 all_goals
  go_wp2
  go_ret
  have hz3:=F3.out.2.2.1.size;have hz4:=F4.out.2.1.size;have hz34:=F4.out.2.2.size;have hm4:=F4.out.1.lt;simp only[qYs,World.size_drew]at hz3 hz4 hm4;have hvb:∀g,(Value.slice ao3 K.length c3).ownBlock=some g->g<w3.heap.size:=fun g hg=>F3.out.1.lt hg;have hvf:∀g,(Value.slice ao3 K.length c3).ownBlock=some g->_<=g:=F3.out.2.1;simp only[qYs,World.size_drew]at hvf;refine Sm rfl ?c1 ?c2 F3.out.1 F4.out.2.2 F4.out.1 ?u ?v ?m F3.out.2.2.2 ?B
  case u=>(repeat (first|exact uur _ _|refine Upd.alloc ?_ _|refine Upd.setCell ?_ _ (fun _=>by simp) _))
  case B=>exact⟨by omega,by omega⟩
  case m=>(try simp only[qYs]);exact⟨by omega,by omega⟩
  case v=>exact fun g hg=>⟨by have:=hvb g hg;have:=hvf g hg;omega,by have:=hvb g hg;have:=hvf g hg;omega⟩
  case c1=>with_reducible first|(first|exact xX (by simp)|exact yl (by omega) ⟨_,‹_›⟩|exact yk ⟨_,‹_›⟩)|(refine(wG ?_).trans ?_;omega;first|exact xX (by simp)|exact yl (by omega) ⟨_,‹_›⟩|exact yk ⟨_,‹_›⟩)|(refine(vc ?_).trans ?_;((try simp only[qYs,World.size_setCell]);omega);first|exact xX (by simp)|exact yl (by omega) ⟨_,‹_›⟩|exact yk ⟨_,‹_›⟩)
  case c2=>(try simp only[qYs]);with_reducible first|(first|exact xX (by simp)|exact yl (by omega) ⟨_,‹_›⟩|exact yk ⟨_,‹_›⟩)|(refine(wG ?_).trans ?_;omega;first|exact xX (by simp)|exact yl (by omega) ⟨_,‹_›⟩|exact yk ⟨_,‹_›⟩)|(refine(vc ?_).trans ?_;((try simp only[qYs,World.size_setCell]);omega);first|exact xX (by simp)|exact yl (by omega) ⟨_,‹_›⟩|exact yk ⟨_,‹_›⟩)
theorem Xz{S:Nat->Prop}{w:World}{b N most few:Nat}{K G:List Int}{A:Int->Bool}(h:Ck S w b N most few K A G):
  Calls Tryz.prog 231 #[.pointer (some ⟨b,0,none⟩)] w fun e w'=>∃gf lb,e=.returned (.func (.func gf) #[] lb)/\Ea JZ w' gf lb (kaL K A)/\Below w.heap.size w w':=by
 obtain⟨mb,vk,vg,h,-⟩:=h;refine(Sn h).mono ?_;rintro e w1 ⟨Bs,Bm,v,m2,rfl,c1,c2,hs,ha,hB⟩;refine⟨_,_,rfl,⟨enters_of Tryz.func300 (by kernel_rfl) rfl,fun n hn S hS w2 hw2=>?_⟩,hB⟩;intro l J Jx W hW hJ _ hY h0;have hlt:∀{j:Nat},j<w1.heap.size->¬S j:=fun hj e=>by have:=hS _ e;omega
 have hU:=qqb hw2;have hU2:Upd (fun _=>False) w1 W:=hU.trans (uuo hW);rw[tI]at hY;exact AF n hn S l Bs Bm m2 N K A v (by have:=h.kle;omega) h.good.kr (fun g hg=>hlt (hs.lt hg)) (hlt (zL c2).2) (hlt ha.lt) J Jx W.heap.size hJ hY W ((hU2.cellAt (zL c1).2 (fun h=>h)).trans c1) ((hU2.cellAt (zL c2).2 (fun h=>h)).trans c2)
  (hs.keep hU2 (fun _ _ h=>h)) (ha.keep hU2 (fun h=>h)) h0
attribute [local go_sem] qYh
def CaS.spareB(a:CaS):Bool:=a.K.any (cleanB a.ps)
theorem WJ(K:List Int)(A:Int->Bool):(kaL K A).map (·.1)=K:=by
 simp[kaL,Function.comp_def]
def SpX(ps:List (Int×Bool))(wz:World)(rb:Nat)(cc:Code)(pre:List It7)(W:World):Prop:=
 cc=.ret/\(∃x∈pre,cleanB ps x.1=true)/\Boxed W rb 4 (.bool true)/\Upd (fun j=>j=rb\/wz.heap.size<=j) wz W
theorem TP{own:Nat->Nat}{w:World}{c:Nat}{n:CaN}{p:CaP}{a:CaS}(h:CaAt own w c n p a):
  Calls Tryz.prog 163 #[ptr c] w fun e w'=>e=.returned (.bool a.spareB)/\Below w.heap.size w w':=by
 obtain⟨w1,hw1⟩:=qqe ((w.alloc (.cells #[ptr c] 62)).alloc (.cells #[.bool false] 4));have hu1:Upd (fun _=>False) w w1:=by rw[hw1];exact((uur _ w).alloc _).alloc _
 have g0:w1.heap[w.heap.size]?=some (.cells #[ptr c] 62 (0,0)):=by rw[hw1];exact(qxk _ _ _ (by simp)).trans (zc w _ rfl)
 have g1:w1.heap[w.heap.size+1]?=some (.cells #[.bool false] 4 (0,0)):=by rw[hw1];exact zc _ _ (by simp)
 have hz1:w1.heap.size=w.heap.size+2:=by rw[hw1];simp
 have h1:=h.new hu1;have hcl:=h.clt;obtain⟨-,-,-,-,-,-,-,d7,-⟩:=h.cells;have HA:=qqh (Xz h1.ck);have H1:=Y4 h1 hu1 g0 g1;clear h h1 hu1 g0 g1;refine(callsIn_wide (n:=4)).1 ?_;refine callsIn_of_wp_marks Tryz.func163 rfl trivial ?_ rfl;simp only[Tryz.ntmps163,qXm,qze,qzh,Nat.reduceAdd,Nat.reduceSub,qxi,qxj,qXg,qxz,qzz,qya];refine wpIn_wide.2 ?_;go_wp2_with fail
 rw[<-hw1];clear hw1 d7;refine HA.o.mono ?_;rintro e w2 ⟨gf,lb,rfl,hg,hb2⟩;have hz2:=hb2.size;have HU2:Hid (Upd (fun _=>False) w1 w2):=uuo hb2;have HG:=qqh hg;clear HA hg;go_wp2_with fail
 refine(wpIn_wide (n:=4)).1 ?_
 refine' wpIn_rangeFunc_ownH rfl (by omega) (gf:=gf) (lb:=lb) rfl trivial HG.o.1
  (HG.o.2 3 (by omega) (fun j=>w2.heap.size<=j) (fun j h=>h) _ (qxl _ _)) uC (fun W l o o' hl=>wE (M:=w2.heap.size) (fun j h=>h) W l o o' hl) (qxl _ _) (fun _=>rfl)
  (fun pre W=>Below w2.heap.size w2 W/\∀x∈pre,cleanB a.ps x.1=false)
  (SpX a.ps w2 (w.heap.size+1))
  (fun pre X Y row hs hg hr=>⟨ownFrom_below (β:=Unit) (qXv _) (qXv _) () X Y row hs.1 hg hr,hs.2⟩)
  (fun cc pre X Y row hs hg hr=>⟨hs.1,hs.2.1,(grownBy_keeps_cells hg (fun r e=>(hr r e).2) hs.2.2.1 rfl).trans hs.2.2.1,xq hs.2.2.2 hg (fun r e=> .inr (hr r e).1)⟩)
  ⟨qxl _ _,fun x hx=>by cases hx⟩
  (fun x a' _=>a'=(_:It7->Act) x)
  (fun x a'=>fun s X Y row hs hg hr=>hs)
  ?assign ?body ?done ?stop
 case assign=>
  rintro l' pre x W K ⟨hB,hn⟩ hK
  gi_wp2
  refine hK _ _ (KeepsFrom.refl _ _) (uur _ _) ⟨hB,hn⟩ ?_;exact rfl
 case body=>
  rintro l' pre x a' W hl _ ⟨hB,hn⟩ rfl hlt;have hu:Upd (fun _=>False) w1 W:=HU2.o.trans (uuo hB);obtain⟨h1,-,g0,g1⟩:=H1.o;have hcb:=qg (h1.new hu) x.1;have g0':=hu.blockv g0;have g1':=hu.blockv g1;have c0:=za g0' 0;have HC:=qqh hcb;have HB:=Y3 hB hn g1';clear h1 g0 g1 hcb g0' g1' hB hn hu
  gi_wp2_with fail
  refine⟨trivial,?_⟩;refine(CallsIn.inRound l' (callsIn_wide.2 HC.o)).mono ?_;rintro e W2 ⟨rfl,hb3⟩;obtain⟨hB,hn,g1'⟩:=HB.o;have g2:=(hb3.block _ (zd g1')).trans g1';have c2:=za g2 0;have f2:=zf g2 0;have hB2:Below w2.heap.size w2 W2:=hB.trans (hb3.mono hB.size);have hKO:KeepsOthers W W2:=⟨hb3.size,fun k o hk ho=>(hb3.block k (zd hk)).trans hk⟩
  have HN:=qqh hn;have HB2:=Y4 hB2 hKO g2 hb3;clear hB hn g1' g2 hB2 hKO hb3 HC c0;rcases hq:cleanB a.ps x.1 with _|_
  .have HQ:=qqh hq;clear hq
   gi_wp2
   obtain⟨hB2,hKO,g2,hb3⟩:=HB2.o;refine⟨hKO.from _,uuo hb3,hB2,fun y hy=>?_⟩;rcases qzq.1 hy with hy|hy
   .exact HN.o y hy
   .simp at hy;subst hy;exact HQ.o
  .have HQ:=qqh hq;clear hq
   gi_wp2
   obtain⟨hB2,hKO,g2,hb3⟩:=HB2.o;have hus:=zi W2 (w.heap.size+1) 0 (.bool true);refine⟨(hKO.trans (zA hus (fun j hj _=>⟨_,_,_,hj▸g2⟩))).from _,rfl,⟨x,by simp,HQ.o⟩,Boxed.set (.bool true) (show Boxed W2 (w.heap.size+1) 4 (.bool false)from g2),?_⟩;exact(uuo hB2).trans (hus.mono (fun _ _ h=> .inl h))
 case done=>
  rintro D ys W hD rfl ⟨hB,hn⟩ hK;have hu:Upd (fun _=>False) w1 W:=HU2.o.trans (uuo hB);have g1:=hu.blockv H1.o.2.2.2;have c1:=za g1 0;have f1:=zf g1 0;have hsp:a.spareB=false:=by
   unfold CaS.spareB;rw[List.any_eq_false];intro k hk;have hk':k∈(kaL a.K a.A).map (·.1):=by rw[WJ];exact hk
   obtain⟨x,hx,rfl⟩:=qzv.1 hk';rw[hn x hx];decide
  have HS:=Y5 hsp hK hu g1 hD;clear hsp hK hu g1 hn hB hD;go_wp2
  obtain⟨hsp,hK,hu,g1,hD⟩:=HS.o;have hus:=zi W (w.heap.size+1) 0 (.bool false);have hDl:=zd hK;have hK2:(W.setCell ⟨w.heap.size+1,0,none⟩ (.bool false)).heap[D]?=some (.deferred (some [])):=(hus.block D hDl (by omega)).trans hK;have g2:=zh g1 0 (.bool false);have hpo:=ua (W.setCell ⟨w.heap.size+1,0,none⟩ (.bool false)) D (.deferred none);have c3:=za ((hpo.block _ (zd g2) (by omega)).trans g2) 0;refine⟨by simp,.inl ⟨_,_,rfl,run_takeDeferred hK2,?_⟩⟩;refine⟨.bool false,by simp[results,Tryz.results163,go_sem,c3],by rw[hsp],?_⟩;have hX:=(hu.mono (S':=fun j=>w.heap.size<=j) (fun _ _ h=>h.elim)).trans ((hus.mono (fun j _ e=>by omega)).trans (hpo.mono (fun j _ e=>by omega)));exact zj (qxl _ _) ((H1.o.2.1.mono (S':=fun j=>w.heap.size<=j) (fun _ _ h=>h.elim)).trans hX) (qXv _) (fun k h=>h)
 case stop=>
  rintro D cc pre W hD hsp ⟨rfl,⟨x,hx,hq⟩,hb,hu⟩ hK;have hsp2:a.spareB=true:=by
   unfold CaS.spareB;rw[List.any_eq_true];refine⟨x.1,?_,hq⟩;rw[<-WJ a.K a.A];exact qzv.2 ⟨x,hsp.subset hx,rfl⟩
  have hX:Upd (fun j=>w.heap.size<=j) w W:=((H1.o.2.1.trans HU2.o).mono (fun _ _ h=>h.elim)).trans (hu.mono (fun j _ h=>by omega));have hpo:=ua W D (.deferred none);have c3:=za ((hpo.block _ (zd hb) (by omega)).trans hb) 0;have HS:=Y5 hsp2 hK hX hpo c3;clear hsp2 hK hX hpo c3 hb hu hsp hx hq
  gi_wp2
  obtain⟨hsp2,hK,hX,hpo,c3⟩:=HS.o;refine⟨by simp,.inl ⟨_,_,rfl,run_takeDeferred hK,?_⟩⟩;refine⟨.bool true,by simp[results,Tryz.results163,go_sem,c3],by rw[hsp2],?_⟩;exact zj (qxl _ _) (hX.trans (hpo.mono (fun j _ e=>by omega))) (qXv _) (fun k h=>h)
end Go.Proofs.YtfhfbpmlnjdfoaaGreatDoor
