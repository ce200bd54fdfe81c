/- A cache: Check -/
import Derived.Test.YtfhfbpmlnjdfoaaGreatDoorG23
import Derived.Maps.OwnIn
set_option maxRecDepth 100000
set_option maxHeartbeats 2000000
namespace Go.Proofs.YtfhfbpmlnjdfoaaGreatDoor
open Go Go.RowKit Go.Shelf Tryz
attribute [local go_sem] qYh
section
variable{own own':Nat->Nat}{w w':World}{c:Nat}{n:CaN}{p:CaP}{a:CaS}
def Box(own:Nat->Nat)(w:World)(b:Nat)(o:Obj):Prop:=w.heap[b]?=some o/\own b=0
theorem Box.did{b:Nat}{o:Obj}(h:Box own w b o)(hd:Did own own' w w'):Box own' w' b o:=
 ⟨(hd.upd.block b (zf h.1) (fun hs=>hs.1 h.2)).trans h.1,(hd.old b (zf h.1)).trans h.2⟩
theorem Box.new{b:Nat}{o:Obj}(h:Box own w b o)(hu:Upd (fun _=>False) w w'):Box own w' b o:=⟨hu.jc h.1,h.2⟩
theorem Box.made(hf:∀j,w.heap.size<=j->own j=0)(o:Obj):Box own (w.alloc o) w.heap.size o:=⟨zc w o rfl,hf _ (qXv _)⟩
theorem CaAt.jt(h:CaAt own w c n p a){S:Nat->Prop}(hu:Upd S w w')(hS:∀j,S j->own j=0/\j≠0/\j≠1):CaAt own w' c n p a:=by
 have hne:∀(k j:Nat),k≠0->own j=k->¬S j:=fun k j hk hj hs=>hk (hj.symm.trans (hS j hs).1);exact{h with
  str:=(hu.block c h.clt (hne 1 c (by decide) h.oc)).trans h.str
  ssd:=h.ssd.keep hu (fun j hj=>hne _ j (by decide) hj)
  back:=h.back.keep hu (fun j hj=>hne _ j (by decide) hj)
  jr:=(Jn.jQ _ _ _ _ _ _ _).keep h.jr hu (fun j hj=>hne _ j (by decide) hj)
  ix:=(Ix.jQ _ _ _ _).keep h.ix hu (fun j hj=>hne _ j (by decide) hj)
  ss:=(Ss.jQ _ _).keep h.ss hu (fun j hj=>hne _ j (by decide) hj)
  lg:=(Lg.jQ _ _ _).keep h.lg hu (fun j hj=>hne _ j (by decide) hj)
  ck:=h.ck.keep hu (fun j hj=>hne _ j (by decide) hj)
  sm:=(Mp.jQ _ _ _).keep h.sm hu (fun j hj=>hne _ j (by decide) hj)
  far:=fun j hj=>h.far j (qXx hu.size hj)
  nib:=h.nib.keep hu (fun hs=>(hS _ hs).2.1 rfl)
  tur:=h.tur.keep hu (fun hs=>(hS _ hs).2.2 rfl)}
theorem sW{b:Nat}{o:Obj}{u:Value}{i:Nat}{b2:Nat}(h:w.heap[b]?=some o)(ho:o.isCells=false)(hc:w.cell? ⟨b2,i,none⟩=some u):b≠b2:=by
 rintro rfl;cases o<;>simp[World.cell?,h,Obj.isCells]at hc ho
theorem uA(W:World)(l:Nat)(o':Obj):Upd (fun j=>j=l) W (W.putObj l o'):=
 ⟨rfl,rfl,rfl,by simp[World.putObj],fun k _ hk=>by
  simp only[World.putObj];rw[qxg (fun e=>hk e.symm)]⟩
theorem CaAt.putObj(h:CaAt own w c n p a){b:Nat}{o:Obj}(hb:Box own w b o)(ho:o.isCells=false)(o':Obj):CaAt own (w.putObj b o') c n p a:=
 h.jt (uA w b o') (fun j e=>by subst e;exact⟨hb.2,sW hb.1 ho (h.nib.c 0 (by decide)),sW hb.1 ho h.tur.c0⟩)
theorem Did.putObj(h:Did own own' w w'){b:Nat}(hb:w.heap.size<=b)(o':Obj):Did own own' w (w'.putObj b o'):=
 ⟨h.upd.new (uA w' b o') (fun i hi e=>by omega),h.old,h.new,fun j hj=>h.far j (by simpa[World.putObj]using hj)⟩
def zbF(n:CaN)(a:CaS)(E:List Ent):CaS:=
 {a with bF:=flushF a.bF a.bO,bO:=[],bP:=[],dF:=flushF (flushF a.dF a.dO) (ckO (1+(1-a.which)*n.pa) n.pa (pagesB (a.next-1) E)),dO:=[],dP:=[],which:=1-a.which,cov:=a.next-1,W:=[],st:=freeTo a.st (pos a.st 3)}
end
attribute [local go_sem] qYh
theorem AM(n:Nat)(hn:2<=n)(S:Nat->Prop)(l Bs Bp b off cap:Nat)(qs:List (Int×Bool))(fr:Nat)
  (hle:qs.length<=4096) (hfr:fr<=4096) (hgood:∀k (h:k<qs.length),qs[k]=(-1,false)\/0<=qs[k].1) (hb:¬S b) (hBp:¬S Bp) (J Jx:List It9->World->Prop) (B0:Nat) (hJ:AbidesFrom B0 J)
  (hY:∀pre (x:It9) W,J pre W->pre++[x]<+:vis qs fr->YieldAt Fence.wide (n-1) prog l (AK x) W fun e W'=>
   (e=.returned (.bool true)/\J (pre++[x]) W'/\Upd S W W')\/(e=.returned (.bool false)/\Jx (pre++[x]) W'))
  (W:World) (hbW:b<W.heap.size) (hBpW:Bp<W.heap.size) (hBs:W.cell? ⟨Bs,0,none⟩=some (.slice (some ⟨b,off,none⟩) qs.length cap)) (hcp:W.cell? ⟨Bp,0,none⟩=some (.int .i64 fr))
  (hc:∀j (h:j<qs.length),W.cell? ⟨b,off+j*2,none⟩=some (.int .i64 qs[j].1)/\W.cell? ⟨b,off+j*2+1,none⟩=some (.bool qs[j].2)) (h0:J [] W):
  CallsIn Fence.wide n prog 217 #[.func (.yield l) #[] #[],.pointer (some ⟨Bs,0,none⟩),.pointer (some ⟨Bp,0,none⟩)] W fun e W'=>(∃v,e=.returned v)/\
   ((∃ys,ys=vis qs fr/\J ys W')\/(∃pre,pre<+:vis qs fr/\Jx pre W')):=by
 have hmix:prog.follows .mixedOrders=true:=by kernel_rfl
 refine callsIn_of_wp func217 rfl trivial ?_ rfl;simp only[ntmps217,qXm,qze,qzh,Nat.reduceAdd,Nat.reduceSub,qxi,qxj,qXg,qxz,qzz,qya]
 gi_wp2
 refine wpIn_wide.2 (wp_scope_straight (wpIn_wide (n:=n).1 (wpIn_seq (wpIn_label ?_))))
 gi_wp2
 gi_loopw [8] (fun i wr=>∃k:Nat,k<=qs.length/\i=.int .i64 k/\J (visTo qs fr k) wr/\Upd S W wr)
  (fun i _=>qs.length-(intOf i).toNat)
 case atStart=>exact⟨0,qYf _,rfl,h0,uur _ _⟩
 case round=>
  obtain⟨k,hk,rfl,hJs,hnx⟩:=hrel;have hct':wr.cell? ⟨Bp,0,none⟩=some (.int .i64 fr):=(hnx.cellAt hBpW hBp).trans hcp;by_cases hlt:k<qs.length
  .have hc0:wr.cell? ⟨b,off+k*2,none⟩=some (.int .i64 qs[k].1):=(hnx.cellAt hbW hb).trans (hc k hlt).1;have hc1:wr.cell? ⟨b,off+k*2+1,none⟩=some (.bool qs[k].2):=(hnx.cellAt hbW hb).trans (hc k hlt).2;by_cases hq:qs[k]=(-1,false)
   .have HM:Hid (visTo qs fr (k+1)=visTo qs fr k):=vR hlt hq;rw[hq]at hc0 hc1;clear hq;have HP0:Hid ((wr.alloc (.cells #[.int .i64 (-1),.bool false] 95)).drew.cell? ⟨wr.heap.size,0,none⟩=some (.int .i64 (-1))):=za (zc wr _ rfl) 0;have HP1:Hid ((wr.alloc (.cells #[.int .i64 (-1),.bool false] 95)).drew.cell? ⟨wr.heap.size,1,none⟩=some (.bool false)):=za (zc wr _ rfl) 1
    gi_wp2
    gi_region_with_o (first|refine⟨trivial,fun _=>by omega,?_⟩|skip;gi_at_call 173;refine(callsIn_wide.2 (yS _)).mono ?_;rintro e w3 ⟨rfl,hu3,hz3⟩;have k0:=(hu3.cellAt (by simp) (fun h=>h)).trans HP0.o;have k1:=(hu3.cellAt (by simp) (fun h=>h)).trans HP1.o)
    all_goals
     have hu4:Upd (fun _=>False) wr w3:=((uur (fun _=>False) wr).alloc _).trans hu3.undrew;have HJ:=qqh (rf hJ hJs hu4);have HU:=qqh (hnx.trans (hu4.mono (S':=S) (fun _ _ h=>h.elim)));clear hu3 hz3 k0 k1 hu4
     gi_wp2
     go_roundw
     case rel=>exact⟨k+1,by omega,by simp,by rw[HM.o];exact HJ.o,HU.o⟩
     case measure=>simp[intOf];omega
   .have hs:0<=qs[k].1:=(hgood k hlt).resolve_left hq;have hsb:(qs[k].1== -1)=false:=by simp;omega
    have HM:Hid (visTo qs fr (k+1)=visTo qs fr k++[(fr+k,qs[k])]):=uY hlt hq;clear hq;have HP0:Hid ((wr.alloc (.cells #[.int .i64 qs[k].1,.bool qs[k].2] 95)).drew.cell? ⟨wr.heap.size,0,none⟩=some (.int .i64 qs[k].1)):=za (zc wr _ rfl) 0;have HP1:Hid ((wr.alloc (.cells #[.int .i64 qs[k].1,.bool qs[k].2] 95)).drew.cell? ⟨wr.heap.size,1,none⟩=some (.bool qs[k].2)):=za (zc wr _ rfl) 1
    gi_wp2
    gi_region_with_o (first|refine⟨trivial,fun _=>by omega,?_⟩|skip;gi_at_call 173;refine(callsIn_wide.2 (yS _)).mono ?_;rintro e w3 ⟨rfl,hu3,hz3⟩;have k0:=(hu3.cellAt (by simp) (fun h=>h)).trans HP0.o;have k1:=(hu3.cellAt (by simp) (fun h=>h)).trans HP1.o)
    all_goals
     have hu4:Upd (fun _=>False) wr w3:=((uur (fun _=>False) wr).alloc _).trans hu3.undrew;have HJ:=qqh (rf hJ hJs hu4);have hnx4:=hnx.trans (hu4.mono (S':=S) (fun _ _ h=>h.elim));have c4:w3.cell? ⟨Bp,0,none⟩=some (.int .i64 fr):=(hnx4.cellAt hBpW hBp).trans hcp;have HU:=qqh hnx4;obtain⟨fn,tmps,assign,body,hy,hR⟩:=hY _ (fr+k,qs[k]) w3 HJ.o (by rw[<-HM.o];exact uz qs fr (by omega));simp only[AK,qxt]at hy;clear hu3 hz3 hu4 hnx4
     gi_wp2
     refine⟨fun _=>by omega,?_⟩;refine hR.mono ?_;rintro e W3 (⟨rfl,hJ3,hk3⟩|⟨rfl,hJx3⟩)
     .have HJ3:=qqh hJ3;have HU3:=qqh (HU.o.trans (hk3.mono (fun _ _ h=>h)));clear hJ3 hk3 hR
      gi_wp2
      go_roundw
      case rel=>exact⟨k+1,by omega,by simp,by rw[HM.o];exact HJ3.o,HU3.o⟩
      case measure=>simp[intOf];omega
     .clear hR
      gi_wp2
      rw[qxr];refine qYw (qZc rfl _ _ _) rfl ?_;exact⟨⟨_,rfl⟩,.inr ⟨_,by rw[<-HM.o];exact uz qs fr (by omega),hJx3⟩⟩
  .obtain rfl:k=qs.length:=by omega
   gi_wp2
   rw[Exit.noGoto_normal]
   go_end0
   exact⟨⟨_,rfl⟩,.inl ⟨_,rfl,hJs⟩⟩
abbrev ItM(qs:List (Int×Bool))(fr:Nat):={x:It9//x∈vis qs fr}
theorem Th{L pre:List It9}{x:It9}(h:pre++[x]<+:L):x∈L/\pre.length<L.length:=by
 refine⟨h.subset (by simp),?_⟩;have:=h.length_le;simp at this;omega
theorem Ti(n:Nat)(hn:2<=n)(S:Nat->Prop)(Bs Bp b off cap:Nat)(qs:List (Int×Bool))(fr:Nat)(w:World)(hle:qs.length<=4096)(hfr:fr<=4096)(hgood:∀k (h:k<qs.length),qs[k]=(-1,false)\/0<=qs[k].1)
  (hb:b<w.heap.size) (hBp:Bp<w.heap.size) (hBs:Bs<w.heap.size) (hbS:¬S b) (hBpS:¬S Bp)
  (hcs:w.cell? ⟨Bs,0,none⟩=some (.slice (some ⟨b,off,none⟩) qs.length cap)) (hcp:w.cell? ⟨Bp,0,none⟩=some (.int .i64 fr))
  (hc:∀j (h:j<qs.length),w.cell? ⟨b,off+j*2,none⟩=some (.int .i64 qs[j].1)/\w.cell? ⟨b,off+j*2+1,none⟩=some (.bool qs[j].2)):
  SeqStopsK Fence.wide n prog 217 #[.pointer (some ⟨Bs,0,none⟩),.pointer (some ⟨Bp,0,none⟩)] (fun x:ItM qs fr=>AK x.1) (Upd S) (fun ys=>ys.map (·.1)=vis qs fr) (fun pre=>pre.map (·.1)<+:vis qs fr) (vis qs fr).length w:=fun l J Jx W hW hJ _ hY h0=>by
 refine(AM n hn S l Bs Bp b off cap qs fr hle hfr hgood hbS hBpS (fun ys X=>∃zs:List (ItM qs fr),zs.map (·.1)=ys/\J zs X) (fun ys X=>∃zs:List (ItM qs fr),zs.map (·.1)=ys/\Jx zs X) W.heap.size
  (fun ys X Y row h hg hr=>by obtain⟨zs,hz,h⟩:=h;exact⟨zs,hz,hJ zs X Y row h hg hr⟩) ?_ W (qXy hb hW.size) (qXy hBp hW.size) ((hW.cell (p:=⟨Bs,0,none⟩) hBs).trans hcs) ((hW.cell (p:=⟨Bp,0,none⟩) hBp).trans hcp)
  (fun j hj=>⟨(hW.cell (p:=⟨b,off+j*2,none⟩) hb).trans (hc j hj).1,(hW.cell (p:=⟨b,off+j*2+1,none⟩) hb).trans (hc j hj).2⟩) ⟨[],rfl,h0⟩).mono ?_
 .rintro pre x X ⟨zs,hz,hJz⟩ hp;obtain⟨hx,hl⟩:=Th hp;obtain⟨fn,tmps,assign,body,hy,hR⟩:=hY zs ⟨x,hx⟩ X hJz (by have:=congrArg List.length hz;simp at this;omega);refine⟨fn,tmps,assign,body,hy,hR.mono ?_⟩;rintro e Y (⟨h1,h2,h3⟩|⟨h1,h2⟩)
  .exact .inl ⟨h1,⟨_,by rw[qzl,hz];rfl,h2⟩,h3⟩
  .exact .inr ⟨h1,⟨_,by rw[qzl,hz];rfl,h2⟩⟩
 .rintro e Y ⟨hv,⟨ys,hys,zs,hz,h⟩|⟨ys,hys,zs,hz,h⟩⟩
  .exact ⟨hv,.inl ⟨zs,hz.trans hys,h⟩⟩
  .exact ⟨hv,.inr ⟨zs,by show List.map (fun x=>x.val) zs<+:vis qs fr;rw[hz];exact hys,h⟩⟩
attribute [local go_sem] qYh
def EH(x:It9)(pb:Nat)(W:World):Prop:=W.heap[pb]?=some (.cells #[.int .i64 x.2.1,.bool x.2.2] 95 (0,0))
theorem WC{X Y:World}{row:Option Nat}{b:Nat}{cs:Array Value}{T:TypeId}(h:X.heap[b]?=some (.cells cs T (0,0)))(hg:X.grownBy Y row)(hr:∀r,row=some r->∃o:Obj,X.heap[r]?=some o/\o.isCells=false):Y.heap[b]?=some (.cells cs T (0,0)):=
 (hg.block b (Array.getElem?_eq_some_iff.1 h).1 (fun e=>by
  obtain⟨o,ho,hc⟩:=hr b e.symm;rw[h]at ho;cases ho;simp[Obj.isCells]at hc)).trans h
theorem Tj(B:Nat)(x:It9)(pb:Nat):OwnFrom B (fun(_:Unit) W=>EH x pb W):=fun _ _ _ _ hs hg hr=>WC hs hg (fun r e=>(hr r e).2)
end Go.Proofs.YtfhfbpmlnjdfoaaGreatDoor
namespace Go.Proofs.YtfhfbpmlnjdfoaaGreatDoor
open Go Tryz
def uB(o:Oper):Bool:=match o.op with
 | .defer _=>false
 |_=>true
theorem ZR{o:Oper}(h:uB o=true)(c:Call):o.op≠ .defer c:=by
 intro e;unfold uB at h;rw[e]at h;cases h
theorem wS(w:World)(d:Nat)(a c:Int)(b e:Bool):(Op.equalIn (d+1+1) 95 (.agg #[.int .i64 a,.bool b]) (.agg #[.int .i64 c,.bool e])).run prog w=.ok (a==c&&b==e) w:=by
 have hu:=underlying95;obtain⟨fs,hfs⟩:∃fs,prog.underlying 95=some (.struct fs):=⟨_,hu⟩
 have hF:prog.fieldsOf 95=fs:=by unfold Program.fieldsOf;rw[hfs]
 have hfe:=hfs.symm.trans hu;injection hfe with hfe
 injection hfe with hfe
 have h2:=fun(x y:Bool)=>run_equalIn_bool (P:=prog) w d 4 x y underlying4;rw[run_equalIn_struct w (d+1) _ _ _ (by rw[hF];exact hfs) (by kernel_rfl),hF,hfe];by_cases hac:a=c
 .simp [Op.eqFields,go_sem,h2,hac,Result.andThen];by_cases hbe:b=e<;>simp[hbe]
 .simp [Op.eqFields,go_sem,hac,Result.andThen]
theorem run_neq_place(w:World)(a c:Int)(b d:Bool):(binOp .neq 95 (.agg #[.int .i64 a,.bool b]) (.agg #[.int .i64 c,.bool d])).run prog w=.ok (.bool (!(a==c&&b==d))) w:=by
 simp only[binOp];simp[show Op.equal 95 (.agg #[.int .i64 a,.bool b]) (.agg #[.int .i64 c,.bool d])=Op.equalIn (9998+1+1) 95 (.agg #[.int .i64 a,.bool b]) (.agg #[.int .i64 c,.bool d])from rfl,wS w 9998 a c b d]
end Go.Proofs.YtfhfbpmlnjdfoaaGreatDoor
