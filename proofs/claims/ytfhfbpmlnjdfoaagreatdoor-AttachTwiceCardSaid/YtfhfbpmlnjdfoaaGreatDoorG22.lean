/- The index: At, -/
import Derived.Test.YtfhfbpmlnjdfoaaGreatDoorG21
set_option maxRecDepth 100000
set_option maxHeartbeats 16000000
namespace Go.Proofs.YtfhfbpmlnjdfoaaGreatDoor
open Go Go.RowKit Tryz
theorem Rc{w:World}{b mb N:Nat}{v:Value}{ps:List (Int×Bool)}{slots:Nat}(h:IndexAt w b v mb N ps slots)(k:Int)(hc:getC ps k≠0):
  Calls prog 240 #[.pointer (some ⟨b,0,none⟩),.int .i64 k] w fun e w'=>e=.returned (.tuple #[zJ 0 false,.int .i64 (getC ps k)])/\Below w.heap.size w w':=by
 have H:=qqh (h.keep ((uur (fun _=>False) w).alloc (.cells #[.int .i64 0,.bool false] 95)) (fun h=>h) (fun _ _ h=>h));obtain⟨c,hcc⟩:=qqe (getC ps k);obtain⟨z,hz⟩:=qqe (getV ps k);have HG:=uw H.o k;rw[<-hcc,<-hz]at HG;have HG':=qqh HG;rw[<-hcc]at hc;rw[<-hcc];have hc':(c==0)=false:=by simpa using hc
 clear hcc hz h H hc HG;go_enter func240,ntmps240
 go_wp2_with fail
 refine HG'.o.mono ?_;rintro e w1 ⟨rfl,hb1⟩;have hz1:=hb1.size;simp at hz1;have hB:=zl ((qxl _ w).alloc (qXv _) _) (uuo (S:=fun _=>False) hb1) (qXv _) (fun _ h=>h.elim);have hrx:(w1.alloc (.cells #[.int .i64 z.1,.bool z.2] 95)).heap[w.heap.size]?=some (.cells #[.int .i64 0,.bool false] 95):=
  (((uuo (S:=fun _=>False) hb1).alloc _).block _ (by simp) (fun h=>h)).trans (zc w _ rfl)
 obtain⟨r0,r1,f0,f1⟩:=qQ _ _ hrx;have Y:=qqh (qR _ _ hrx);clear hrx HG';go_wp2
 refine qYw (v:=.tuple #[zJ 0 false,.int .i64 c]) ?_ rfl ⟨rfl,uV (hB.alloc (by omega) _) _ (by omega) _ _⟩;simp[results,results240,go_sem,Y.out.1,Y.out.2]
theorem JL{w:World}{b mb N:Nat}{v:Value}{ps:List (Int×Bool)}{slots:Nat}(h:IndexAt w b v mb N ps slots)(n:Nat)(hn:n<ps.length)(h0:0<=ps[n].1):
  Calls prog 240 #[.pointer (some ⟨b,0,none⟩),.int .i64 n] w fun e w'=>e=.returned (.tuple #[zJ ps[n].1 ps[n].2,.int .i64 0])/\
   IndexAt w' b v mb N (ps.set n (-1,false)) slots/\Upd (ixS v mb) w w':=by
 have hgood:=h.good;have hr:=hgood.each n hn;have hsl:=h.sl1;have hle:=h.le;have hw:Upd (fun _=>False) w (w.alloc (.cells #[.int .i64 0,.bool false] 95)):=(uur (fun _=>False) w).alloc (.cells #[.int .i64 0,.bool false] 95);have H:=qqh h;have HG:=qqh (YR (h.keep hw (fun h=>h) (fun _ _ h=>h)) n hn (by omega));clear h;go_enter func240,ntmps240
 go_wp2_with fail
 refine HG.o.mono ?_;rintro e w1 ⟨rfl,hb1⟩;have hz1:=hb1.size;simp at hz1;clear HG;have hu1:Upd (fun _=>False) w (w1.alloc (.cells #[.int .i64 ps[n].1,.bool ps[n].2] 95)):=(hw.trans (uuo hb1|>.mono (S':=fun _=>False) (fun _ _ h=>h))).alloc _;have hgx:(w1.alloc (.cells #[.int .i64 ps[n].1,.bool ps[n].2] 95)).heap[w1.heap.size]?=some (.cells #[.int .i64 ps[n].1,.bool ps[n].2] 95):=zc w1 _ rfl;have hrx:(w1.alloc (.cells #[.int .i64 ps[n].1,.bool ps[n].2] 95)).heap[w.heap.size]?=some (.cells #[.int .i64 0,.bool false] 95):=
  (((uuo (S:=fun _=>False) hb1).alloc _).block _ (by simp) (fun h=>h)).trans (zc w _ rfl)
 go_wp2
 generalize hw2:(w1.alloc (.cells #[.int .i64 ps[n].1,.bool ps[n].2] 95))=w2;rw[hw2]at hu1 hgx hrx;have hz2:w2.heap.size=w1.heap.size+1:=by rw[<-hw2];simp
 clear hw2 hb1 hw;have hI2:=H.o.keep hu1 (fun h=>h) (fun _ _ h=>h);obtain⟨w3,hdel,hM3,hu23',hz3⟩:=(show MapAt w2.drew mb N (atOf ps)from hI2.map).drop (x:=ps[n].1) (by omega) (by rcases hr with e|e;rw[e];decide;omega) 0;have hu23:=hu23'.undrew;obtain⟨g,off,cap,rfl,hg,P0,P1⟩:=hI2.at hn;have hbm:b≠mb:=fun e=>hI2.nm e.symm;have hgm:g≠mb:=fun e=>hI2.nv (by rw[e];rfl);have hgb:g≠b:=fun e=>hI2.ne (by rw[e];rfl);have hmlt:=H.o.map.lt;have hblt:=H.o.blt;have hglt:=H.o.sl.lt (g:=g) rfl;have T2:=za hI2.str 1;have u0:=za hgx 0;simp at T2 u0;have G3:=(hu23.block _ (by omega) (by omega)).trans hgx;have R3:=(hu23.block _ (by omega) (by omega)).trans hrx;have T3:=(hu23.block _ hI2.blt hbm).trans hI2.str;have S3:=hI2.sl.keep hu23 (fun g' hg' e=>by simp[Value.ownBlock]at hg';omega);have HM3:=qqh hM3;have HZ3:w3.heap.size=w1.heap.size+1:=hz3.trans hz2;have HU3:=qqh ((hu1.mono (S':=fun j=>j=mb) (fun _ _ h=>h.elim)).trans hu23);clear hu1 hgx hrx hz2 hI2 P0 P1 hu23' hu23 hM3 hg hz3;go_wp2
 go_region
 clear hdel T2 u0;have t0:=za T3 0;simp at t0;obtain⟨g',off',cap',cur,hve,hg3,hcs,hcc⟩:=S3.at (by omega);cases hve;have HG3:=qqh G3;have HR3:=qqh R3;have HT3:=qqh T3;have HS3:=qqh S3;have E0:=(za hg3 (off+n*2)).trans (hcc _ _ (xF hn).1);have E1:=(za hg3 (off+n*2+1)).trans (hcc (n*2+1) _ (xF hn).2);have F0:=zg hg3 (off+n*2);have F1:=zg hg3 (off+n*2+1);have hg3':=zf hg3;have hb3':=zf T3;clear G3 R3 T3 S3 hcs hcc hg3;go_wp2
 go_region_held3 (fun W=>W.cell? ⟨b,0,none⟩=some (.slice (some ⟨g,off,none⟩) ps.length cap)) (go_keep)
  ((go_at_call 173;refine(yS _).mono ?_;rintro e w4 ⟨rfl,hu4,hz4⟩;have k0:=(hu4.cellAt (o:=0) (by simp;omega) (fun h=>h)).trans t0;have k1:=(hu4.cellAt (by simp;omega) (fun h=>h)).trans E0;have k2:=(hu4.cellAt (by simp;omega) (fun h=>h)).trans E1;have k3:=(hu4.frozenAt (by simp;omega) (fun h=>h)).trans F0;have k4:=(hu4.frozenAt (by simp;omega) (fun h=>h)).trans F1))
 generalize hw5:((w4.setCell ⟨g,off+n*2,none⟩ (.int .i64 (-1))).setCell ⟨g,off+n*2+1,none⟩ (.bool false))=w5;have hu34:Upd (fun _=>False) w3 w4:=hu4.undrew;have hu45:Upd (fun j=>j=g) w4 w5:=by rw[<-hw5];exact(zj w4 g (off+n*2) _).trans (zj _ g (off+n*2+1) _)
 have S4:=HS3.o.keep hu34 (fun _ _ h=>h);have S5:Sl w5 95 2 (.slice (some ⟨g,off,none⟩) ps.length cap) (ps.set n (-1,false)).length (plC (ps.set n (-1,false))):=by
  rw[<-hw5];exact S4.putPlace n hn (-1) false
 have hz5:w5.heap.size=w1.heap.size+2:=by rw[<-hw5];simp[hz4];simp[HZ3]
 clear hw5 k0 k1 k2 k3 k4 E0 E1 F0 F1 t0;have hu35:=(hu34.mono (S':=fun j=>j=g) (fun _ _ h=>h.elim)).trans hu45;have M5:=HM3.o.keep hu35 (fun e=>hgm e.symm);have T5:=(hu35.block _ (by omega) (fun e=>hgb e.symm)).trans HT3.o;have G5:=(hu35.block _ (by omega) (by omega)).trans HG3.o;have R5:=(hu35.block _ (by omega) (by omega)).trans HR3.o;have HI5:Hid (IndexAt w5 b (.slice (some ⟨g,off,none⟩) ps.length cap) mb N (ps.set n (-1,false)) slots):=
  {str:=T5,sl:=by simpa using S5,map:=by rw[hgood.atOf_drop hn];exact M5,good:=hgood.drop n,ne:=H.o.ne,nm:=H.o.nm,nv:=H.o.nv,le:=by simpa using hle,sl1:=hsl}
 have HU5:Hid (Upd (ixS (.slice (some ⟨g,off,none⟩) ps.length cap) mb) w w5):=
  (HU3.o.mono (fun j _ e=> .inr e)).trans (hu35.mono (fun j _ e=> .inl (by rw[e];rfl)))
 have HR5:=qqh R5;have r0:=za R5 0;have r1:=za R5 1;have q0:=zg R5 0;have q1:=zg R5 1;have x0:=za G5 0;have x1:=za G5 1;simp at r0 r1 x0 x1;clear hu34 hu45 S4 S5 hu35 M5 T5 G5 R5 hz4 hu4;go_wp2
 have HA3:=zi (zi HR5.o 0 (.int .i64 ps[n].1)) 1 (.bool ps[n].2);have y0:=za HA3 0;have y1:=za HA3 1;simp at y0 y1;have hue:Upd (fun j=>j=w.heap.size) w5 ((w5.setCell ⟨w.heap.size,0,none⟩ (.int .i64 ps[n].1)).setCell ⟨w.heap.size,1,none⟩ (.bool ps[n].2)):=(zj w5 w.heap.size 0 _).trans (zj _ _ 1 _);refine qYw (v:=.tuple #[zJ ps[n].1 ps[n].2,.int .i64 0]) ?_ rfl ⟨rfl,?_,?_⟩
 .simp [results,results240,go_sem,y0,y1]
 .exact HI5.o.keep hue (by omega) (fun j hj e=>by have:=H.o.slt j hj;omega)
 .exact HU5.o.new (hue.mono (fun _ _ h=>h)) (fun j hj e=>by omega)
theorem Re{w:World}{b mb N:Nat}{v:Value}{ps:List (Int×Bool)}{slots:Nat}(h:IndexAt w b v mb N ps slots)(k:Int):
  Calls prog 240 #[.pointer (some ⟨b,0,none⟩),.int .i64 k] w fun e w'=>e=.returned (.tuple #[zJ (getV ps k).1 (getV ps k).2,.int .i64 (getC ps k)])/\
   IndexAt w' b v mb N (dropL ps k) slots/\Upd (ixS v mb) w w':=by
 by_cases hc:getC ps k=0
 .obtain ⟨n,hn,rfl,h0,h1,hv⟩:=uX h.good hc;have hL:dropL ps n=ps.set n (-1,false):=by simp[dropL,hc]
  rw[hL,hv,hc];exact JL h n hn h0
 .have hL:dropL ps k=ps:=by simp[dropL,hc]
  rw[hL,qV hc];exact(Rc h k hc).mono fun e w' ⟨he,hb⟩=>⟨he,h.below hb,uuo hb⟩
theorem JM(ps:List (Int×Bool))(slots:Nat)(k s:Int)(d:Bool):(putL ps slots k s d).length=ps.length:=by unfold putL;split<;>simp
theorem Rf(ps:List (Int×Bool))(k:Int):(dropL ps k).length=ps.length:=by unfold dropL;split<;>simp
theorem UV(ps:List (Int×Bool))(k:Int):(cleanL ps k).length=ps.length:=by unfold cleanL;split<;>simp
theorem Xc(l:List Int)(s t:Int):(turnList l s t).length=l.length:=by unfold turnList;split<;>simp
section
variable{own:Nat->Nat}{w w':World}{c:Nat}{n:CaN}{p:CaP}{a:CaS}
theorem qW(h:CaAt own w c n p a)(k:Int):
  Calls prog 100 #[ptr p.ix,.int .i64 k] w (zu own w c n p a (.tuple #[zJ (getV a.ps k).1 (getV a.ps k).2,.int .i64 (getC a.ps k)])):=by
 obtain⟨v,mb,hi,-,-⟩:=h.ix;exact(uw hi k).mono fun _ _ ⟨he,hb⟩=>⟨he,own,h.new (uuo hb),h.ji (uuo hb)⟩
theorem Rg(h:CaAt own w c n p a)(k s:Int)(d:Bool)(hN:a.iN<maxLen):
  Calls prog 203 #[ptr p.ix,.int .i64 k,zJ s d] w (zu own w c n p {a with iN:=a.iN+1,ps:=putL a.ps n.sl k s d} (.tuple #[zJ (ut a.ps n.sl k s).1 (ut a.ps n.sl k s).2,.int .i64 (putC a.ps n.sl k s)])):=by
 obtain⟨v,mb,hi,hb,hs⟩:=h.open5;exact(JK hi k s d hN).mono fun _ _ ⟨he,hi',hu⟩=>
  have hu':=hu.mono (fun j _ hj=>hs j hj)
  ⟨he,_,h.turn5 hu' ⟨v,mb,hi',hb,hs⟩ (JM _ _ _ _ _),h.did5 hu'⟩
theorem JN(h:CaAt own w c n p a)(k:Int):
  Calls prog 240 #[ptr p.ix,.int .i64 k] w (zu own w c n p {a with ps:=dropL a.ps k} (.tuple #[zJ (getV a.ps k).1 (getV a.ps k).2,.int .i64 (getC a.ps k)])):=by
 obtain⟨v,mb,hi,hb,hs⟩:=h.open5;exact(Re hi k).mono fun _ _ ⟨he,hi',hu⟩=>
  have hu':=hu.mono (fun j _ hj=>hs j hj)
  ⟨he,_,h.turn5 hu' ⟨v,mb,hi',hb,hs⟩ (Rf _ _),h.did5 hu'⟩
theorem Rh(h:CaAt own w c n p a)(k:Int):
  Calls prog 241 #[ptr p.ix,.int .i64 k] w (zu own w c n p {a with ps:=cleanL a.ps k} (.int .i64 (getC a.ps k))):=by
 obtain⟨v,mb,hi,hb,hs⟩:=h.open5;exact(UU hi k).mono fun _ _ ⟨he,hi',hu⟩=>
  have hu':=hu.mono (fun j _ hj=>hs j hj)
  ⟨he,_,h.turn5 hu' ⟨v,mb,hi',hb,hs⟩ (UV _ _),h.did5 hu'⟩
theorem yX(h:CaAt own w c n p a)(s t:Int):
  Calls prog 176 #[ptr p.ss,.int .i64 s,.int .i64 t] w (zu own w c n p {a with st:=turnList a.st s t} (.int .i64 (turnCode a.st s t))):=by
 obtain⟨v,hi,hb,hs⟩:=h.open6;exact(Yr hi h.tur s t).mono fun _ _ ⟨he,hi',hu⟩=>
  have hu':=hu.mono (fun j _ hj=>hs j hj)
  ⟨he,_,h.turn6 hu' ⟨v,hi',hb,hs⟩ (Xc _ _ _),h.did6 hu'⟩
theorem VG(h:CaAt own w c n p a)(k:Int)(hr:InR k)(hN:a.kN<maxLen):
  Calls prog 205 #[ptr p.ck,.int .i64 k] w (zu own w c n p {a with kN:=a.kN+1,K:=sr n.sl a.K k,A:=UJ n.sl a.K a.A a.H k,H:=UK n.sl a.K a.H k} (.int .i64 (addC n.sl a.K k))):=
 (QG h.open8 (fun _ h=> .inr h) k hr hN).mono fun _ _ ⟨he,hc,hu⟩=>⟨he,_,h.turn8 hu hc,h.did8 hu⟩
theorem Ri(h:CaAt own w c n p a)(k:Int):
  Calls prog 298 #[ptr p.ck,.int .i64 k] w (zu own w c n p {a with K:=a.K.erase k,A:=dropA a.K a.A k} (.int .i64 (touchC a.K k))):=
 (UL h.open8 k).mono fun _ _ ⟨he,hc,hu⟩=>⟨he,_,h.turn8 hu hc,h.did8 hu⟩
theorem UW(h:CaAt own w c n p a)(k:Int)(hN:a.kN<maxLen):
  Calls prog 325 #[ptr p.ck,.int .i64 k] w (zu own w c n p {a with kN:=a.kN+1,A:=agA a.A a.K k} (.int .i64 (touchC a.K k))):=
 (UM h.open8 k hN).mono fun _ _ ⟨he,hc,hu⟩=>⟨he,_,h.turn8 hu hc,h.did8 hu⟩
theorem VH(h:CaAt own w c n p a){N:Nat}{f:Int->Option Nat}(hm:MapAt w' p.sm N f)(hu:Upd (fun j=>j=p.sm) w w'):∃own',CaAt own' w' c n p {a with mN:=N,sums:=f}/\Did own own' w w':=by
 have hu':Upd (fun j=>own j=9\/w.heap.size<=j) w w':=hu.mono (fun j _ e=> .inl (e▸h.sm.2));exact⟨_,h.turn9 hu' ⟨hm,.inl h.sm.2⟩,h.did9 hu'⟩
theorem Xd(h:CaAt own w c n p a){x:Int}(h1: -9223372036854775808<=x)(h2:x<9223372036854775808)(y:Nat)(hy:y<9223372036854775808)(hn:a.mN<maxLen):
  ∃w' own',(Instr.mapUpdate 116 (.map (some p.sm)) (.int .i64 x) (.int .i64 (y:Int))).run prog w=.ok () w'/\CaAt own' w' c n p {a with mN:=a.mN+1,sums:=upd1 a.sums x (some y)}/\Did own own' w w':=by
 obtain⟨w',hr,hm,hu,-⟩:=h.sm.1.store h1 h2 y hy hn;obtain⟨own',hc,hd⟩:=VH h hm hu;exact⟨w',own',hr,hc,hd⟩
theorem AH(h:CaAt own w c n p a){x:Int}(h1: -9223372036854775808<=x)(h2:x<9223372036854775808)(ty:TypeId):
  ∃w' own',(Builtin.delete_ #[116,3] ty #[.map (some p.sm),.int .i64 x]).run prog w=.ok (.tuple #[]) w'/\CaAt own' w' c n p {a with sums:=upd1 a.sums x none}/\Did own own' w w':=by
 obtain⟨w',hr,hm,hu,-⟩:=h.sm.1.drop h1 h2 ty;obtain⟨own',hc,hd⟩:=VH h hm hu;exact⟨w',own',hr,hc,hd⟩
end
def cleanB(ps:List (Int×Bool))(k:Int):Bool:=getC ps k==0&&!(getV ps k).2
theorem qX{own:Nat->Nat}{w:World}{c:Nat}{n:CaN}{p:CaP}{a:CaS}(h:CaAt own w c n p a)(k:Int):
  Calls prog 166 #[ptr c,.int .i64 k] w fun e w'=>e=.returned (.bool (cleanB a.ps k))/\Below w.heap.size w w':=by
 obtain⟨v,mb,hi,-,-⟩:=h.ix;obtain⟨-,-,-,-,d4,-,-,-,-⟩:=h.cells;have HG:=qqh (uw hi k);clear hi h;unfold cleanB;generalize getV a.ps k=pv at*;generalize getC a.ps k=cd at*;obtain⟨s,b⟩:=pv;go_enter func166,ntmps166
 go_wp2_with fail
 refine HG.o.mono ?_;rintro e w1 ⟨rfl,hb⟩;have HB:=qqh hb;clear hb;by_cases hc:cd=0
 .subst hc;go_wp2
  go_ret
  exact⟨by simp,HB.o.alloc HB.o.size _⟩
 .have q0:(cd==0)=false:=by simpa using hc
  go_wp2
  go_ret
  exact⟨by simp[q0],HB.o.alloc HB.o.size _⟩
end Go.Proofs.YtfhfbpmlnjdfoaaGreatDoor
namespace Go.Proofs.YtfhfbpmlnjdfoaaGreatDoor.EvG
open Go Go.RowKit Go.Proofs.YtfhfbpmlnjdfoaaGreatDoor Tryz
abbrev mayV(xv:Value):Value:=.func (.func 166) #[xv] #[]
def MayIs(xv:Value)(fm:Int->Bool)(w0:World):Prop:=∀(W:World) (k:Int),InR k->Upd (fun _=>False) w0 W->Calls prog 166 #[xv,.int .i64 k] W fun e w'=>e=.returned (.bool (fm k))/\Below W.heap.size W w'
theorem Rj{xv:Value}{fm:Int->Bool}{w0:World}(hmay:MayIs xv fm w0)(k:Int)(hk:InR k)(w:World)(hw:Upd (fun _=>False) w0 w)(g:Nat)(hg:w.cell? ⟨g,0,none⟩=some (mayV xv)):
  Calls prog 233 #[.int .i64 k,.pointer (some ⟨g,0,none⟩)] w fun e w'=>e=.returned (.bool (fm k))/\Below w.heap.size w w':=by
 have hmf:=qqf;have hlt:=(zK hg).2;have hg1:=(((uur (fun _=>False) w).alloc (.cells #[.bool false] 4)).cellAt hlt (fun h=>h)).trans hg;clear hg
 go_enter_defers func233,ntmps233
 go_wp2_with fail
 refine(hmay _ k hk (hw.alloc _)).mono ?_;rintro e w1 ⟨rfl,hb1⟩;have hs1:=hb1.size;simp at hs1;have blk:=(hb1.block w.heap.size (by simp)).trans (zc w (.cells #[.bool false] 4) rfl);have C2:=qqh (za (zi blk 0 (.bool (fm k))) 0);have c1:=(hb1.cell (p:=⟨w.heap.size,0,none⟩) (by simp)).trans (za (zc w (.cells #[.bool false] 4) rfl) 0);have f1:=(hb1.frozen (p:=⟨w.heap.size,0,none⟩) (by simp)).trans (zg (zc w (.cells #[.bool false] 4) rfl) 0);simp at c1;have HB:Hid (Below w.heap.size w w1):=zl ((qxl _ _).alloc (qXv _) _) (uuo (S:=fun _=>False) hb1) (qXv _) (fun _ h=>h.elim);clear hb1 blk;go_wp2
 refine leaves_cons (f:=234) (args:= #[.pointer (some ⟨w.heap.size,0,none⟩)]) (by simp) (by simp[go_sem]) ?_;refine(Wo _ _).mono ?_;rintro e u' w'' ⟨rfl,rfl,rfl⟩;simp[Leaves,settle,results,results233,go_sem];have c2:=C2.out;simp at c2;rw[c2];exact⟨_,rfl,rfl,HB.o.setCell (p:=⟨w.heap.size,0,none⟩) (qXv _) _⟩
def trimG(few:Nat)(L:List Int):List Int:=if few<L.length then L.tail else L
def restK(K:List Int)(i:Nat):List Int:=K.drop (i+1)++K.take i
structure EvYes(fm:Int->Bool)(few:Nat)(K:List Int)(A:Int->Bool)(G:List Int)(key:Int)(K':List Int)(A':Int->Bool)(G':List Int):Prop where
 ex:∃i,∃h:i<K.length,key=K[i]/\K'=restK K i/\((∀x,K.head?=some x->fm x=true/\A x=false)->i=0/\A'=A)/\((i=0/\A'=A)\/1<=i\/∀x∈K,fm x=false\/A x=true)/\∀j (hj:j<K.length),j<i->fm K[j]=true->A' K[j]=false
 gh:G'=trimG few (G++[key])
 out:A' key=false
 sub:∀x,A' x=true->A x=true
def evGo(fm:Int->Bool)(K:List Int):Nat->Nat->(Int->Bool)->Option (Nat×(Int->Bool))
 |0,_,_=>none
 |g+1,h,A=>if fm (K.getD (h%K.length) 0)=false then evGo fm K g (h+1) A else if A (K.getD (h%K.length) 0)=true then evGo fm K g (h+1) (updB A (K.getD (h%K.length) 0) false)else some (h%K.length,A)
def evR(fm:Int->Bool)(few:Nat)(K:List Int)(A:Int->Bool)(G:List Int):Int×Int×List Int×(Int->Bool)×List Int:=
 match evGo fm K (2*K.length) 0 A with
 |none=>(0,14,K,A,G)
 |some (p,A')=>(K.getD p 0,0,restK K p,A',trimG few (G++[K.getD p 0]))
section
variable{fm:Int->Bool}{K:List Int}{A:Int->Bool}{g h p:Nat}{k:Int}{hp:p<K.length}
theorem UX(hg:1<=g)(hk:k=K[p])(he:p=h%K.length)(hf:fm k=false):evGo fm K g h A=evGo fm K (g-1) (h+1) A:=by
 obtain⟨g,rfl⟩:∃g',g=g'+1:=⟨g-1,by omega⟩
 have e:K.getD (h%K.length) 0=k:=by rw[<-he,hk];simp[hp]
 simp only[evGo,e,hf,if_true,Nat.add_sub_cancel]
theorem Rk(hg:1<=g)(hk:k=K[p])(he:p=h%K.length)(hf:fm k=true)(ha:A k=true):evGo fm K g h A=evGo fm K (g-1) (h+1) (updB A k false):=by
 obtain⟨g,rfl⟩:∃g',g=g'+1:=⟨g-1,by omega⟩
 have e:K.getD (h%K.length) 0=k:=by rw[<-he,hk];simp[hp]
 simp only[evGo,e,hf,ha,if_true,Nat.add_sub_cancel];simp
theorem Rl(hg:1<=g)(hk:k=K[p])(he:p=h%K.length)(hf:fm k=true)(ha:A k=false):evGo fm K g h A=some (p,A):=by
 obtain⟨g,rfl⟩:∃g',g=g'+1:=⟨g-1,by omega⟩
 have e:K.getD (h%K.length) 0=k:=by rw[<-he,hk];simp[hp]
 simp only[evGo,e,hf,ha];simp[he]
end
def EvOut(fm:Int->Bool)(few:Nat)(K:List Int)(A:Int->Bool)(G:List Int)(key code:Int)(K':List Int)(A':Int->Bool)(G':List Int):Prop:=
 ((code=14/\key=0/\K'=K/\A'=A/\G'=G/\∀x∈K,fm x=false\/A x=true)\/(code=0/\EvYes fm few K A G key K' A' G'))/\evR fm few K A G=(key,code,K',A',G')
theorem restK_perm{K:List Int}{i:Nat}(h:i<K.length):(K[i]::restK K i).Perm K:=by
 unfold restK;have e:K=K.take i++K[i]::K.drop (i+1):=by simp
 have h1:(K[i]::(K.drop (i+1)++K.take i)).Perm (K.take i++K[i]::K.drop (i+1)):=by
  exact List.perm_append_comm (l₁:=K[i]::K.drop (i+1)) (l₂:=K.take i)
 rw[<-e]at h1;exact h1
theorem UY{K:List Int}{i:Nat}(h:i<K.length):(restK K i).length+1=K.length:=by
 have:=(restK_perm h).length_eq;simpa using this
theorem UZ(few:Nat)(L:List Int)(h:L.length<=few+1):(trimG few L).length<=few:=by
 unfold trimG;split
 .rw [List.length_tail];omega
 .omega
theorem trimG_mem{few:Nat}{L:List Int}{x:Int}(h:x∈trimG few L):x∈L:=by
 unfold trimG at h;split at h
 .exact List.mem_of_mem_tail h
 .exact h
theorem Xe{few:Nat}{L:List Int}(h:L.Nodup):(trimG few L).Nodup:=by
 unfold trimG;split
 .exact h.sublist (List.tail_sublist L)
 .exact h
theorem CkGood.evict{most few:Nat}{K G K' G':List Int}{A A':Int->Bool}{fm:Int->Bool}{key:Int}(h:CkGood most few K A G)(hy:EvYes fm few K A G key K' A' G'):CkGood most few K' A' G':=by
 obtain⟨i,hi,rfl,rfl,_,_,_⟩:=hy.ex;have hp:=restK_perm hi;have hnd:(K[i]::restK K i).Nodup:=hp.nodup_iff.2 h.kd;have hmem:∀x,x∈restK K i->x∈K:=fun x hx=>hp.mem_iff.1 (qzs _ hx);have hlen:=UY hi;have hgh:=hy.gh;subst hgh;exact{
  kr:=fun x hx=>h.kr x (hmem x hx)
  gr:=fun x hx=>by
   rcases qzq.1 (trimG_mem hx)with h1|h1
   .exact h.gr x h1
   .simp at h1;exact h1▸h.kr _ (qyz hi)
  kd:=(qXb.1 hnd).2
  gd:=Xe (by
   rw[qXa];refine⟨h.gd,by simp,fun x hx y hy e=>?_⟩;simp at hy;subst hy;subst e;exact h.dis _ (qyz hi) hx)
  dis:=fun x hx hg=>by
   rcases qzq.1 (trimG_mem hg)with h1|h1
   .exact h.dis x (hmem x hx) h1
   .simp at h1;subst h1;exact(qXb.1 hnd).1 hx
  ask:=fun x hx=>by
   have h1:=h.ask x (hy.sub x hx);rcases qzr.1 (hp.mem_iff.2 h1)with h2|h2
   .subst h2;rw[hy.out]at hx;cases hx
   .exact h2
  kl:=by have:=h.kl;omega
  gl:=UZ _ _ (by have:=h.gl;simp;omega)
  ml:=h.ml
  fl:=h.fl
  m1:=h.m1}
theorem EvOut.good{most few:Nat}{K G K' G':List Int}{A A':Int->Bool}{fm:Int->Bool}{key code:Int}(h:CkGood most few K A G)(ho:EvOut fm few K A G key code K' A' G'):CkGood most few K' A' G':=by
 rcases ho with⟨⟨_,_,rfl,rfl,rfl,_⟩|⟨_,hy⟩,-⟩
 .exact h
 .exact CkGood.evict h hy
theorem Ta{w:World}{v:Value}{l:List Int}(h:Sl w 3 1 v l.length (ints l))(hle:l.length<=4096)(hi:0<l.length):
  Calls prog 238 #[v,.int .i64 0,.int .i64 1] w fun e w'=>∃ao n c,e=.returned (.slice ao n c)/\(Value.slice ao n c).ownBlock=v.ownBlock/\Sl w' 3 1 (.slice ao n c) l.tail.length (ints l.tail)/\Upd (ownS v) w w':=by
 have:=Zw h hle hi;rw[List.eraseIdx_zero]at this;refine this.mono ?_;rintro e w' ⟨v',rfl,h1,h2,h3⟩;obtain⟨ao,c,rfl⟩:=h2.rd.jd;exact⟨ao,_,c,rfl,h1,h2,h3⟩
theorem VI{w:World}{g o c n:Nat}{cur:Array Value}{e:TypeId}{l:List Int}(hg:w.heap[g]?=some (.cells cur e (0,0)))(hc:∀j u,(ints l)[j]?=some u->cur[o+j]?=some u)(hn:l.length<=maxLen)(A:Addr)(i:Nat)(hA:(if c=i then some (⟨g,o,none⟩:Addr)else some ⟨g,o+i,none⟩)=some A)(hnl:n=l.length-i)(hcl:c=i->l.length<=i)(cc:Nat):
  Rd w 1 (.slice (some A) n cc) (l.drop i).length (ints (l.drop i)):=by
 subst hnl;refine⟨by simp,by rw[qzf];omega,some A,cc,by rw[qzf],(fun h=>by cases h),fun b hb j u hj=>?_⟩;cases hb;have hj':(ints l)[i+j]?=some u:=by simpa[ints,List.getElem?_drop]using hj
 by_cases h:c=i
 .have:=(qyp.1 hj').1;rw[yZ]at this;have:=hcl h;omega
 .rw [if_neg h]at hA;cases hA;rw[qxa,za hg,qXr];exact hc _ _ hj'
theorem JO{w:World}{g o:Nat}{cur:Array Value}{e:TypeId}{l:List Int}(hg:w.heap[g]?=some (.cells cur e (0,0)))(hc:∀j u,(ints l)[j]?=some u->cur[o+j]?=some u)(hn:l.length<=maxLen)(i:Nat)(hi:i<=l.length)(cc:Nat):
  Rd w 1 (.slice (some ⟨g,o,none⟩) i cc) (l.take i).length (ints (l.take i)):=by
 have hlt:(l.take i).length=i:=by rw[qzk];omega
 refine⟨by simp,by rw[hlt];omega,some ⟨g,o,none⟩,cc,by rw[hlt],(fun h=>by cases h),fun b hb j u hj=>?_⟩;cases hb;have hj1:=(qyp.1 hj).1;rw[yZ,hlt]at hj1;have hj':(ints l)[j]?=some u:=by
  rw[<-hj];simp[ints,hj1]
 rw[qxa,za hg];exact hc _ _ hj'
theorem Rm{w:World}{b mb N most few:Nat}{vk vg:Value}{K G:List Int}{A:Int->Bool}(h:CkAt w b mb N vk vg most few K A G)(xv:Value)(fm:Int->Bool)(hmay:MayIs xv fm w):
  Calls prog 165 #[.pointer (some ⟨b,0,none⟩),mayV xv] w fun e w'=>∃key code K' A' G' mb' vk' vg',e=.returned (.tuple #[.int .i64 key,.int .i64 code])/\
   EvOut fm few K A G key code K' A' G'/\CkMem w' b mb' N vk' vg' most few K' A' G'/\(∀j,QE b mb' vk' vg' j->QE b mb vk vg j\/w.heap.size<=j)/\Upd (fun j=>j=b) w w':=by
 obtain⟨i0,hi0,hz0,hz1',hz2⟩:=qZa vn;have hq:∀w,(binOp .eql 210 (mayV xv) .nilFunc).run prog w=.ok (.bool false) w:=fun _=>by kernel_rfl
 have hmf:=qqf;have H:=qqh h;have hblt:=h.blt;have hu1:Upd (fun _=>False) w (w.alloc (.cells #[mayV xv] 210)).drew:=((uur _ _).alloc _).drew;have H1:=h.keep hu1 (fun _ _ h=>h);have hkl:=h.kle;have hgl:=h.gle;have C1:Hid (((w.alloc (.cells #[mayV xv] 210)).drew.cell? ⟨b,2,none⟩=some vk)/\((w.alloc (.cells #[mayV xv] 210)).drew.cell? ⟨b,3,none⟩=some (.map (some mb)))/\
   ((w.alloc (.cells #[mayV xv] 210)).drew.cell? ⟨b,4,none⟩=some vg)):=⟨H1.c.2.2.1,H1.c.2.2.2.1,H1.c.2.2.2.2⟩
 have M1:Hid ((w.alloc (.cells #[mayV xv] 210)).drew.cell? ⟨w.heap.size,0,none⟩=some (mayV xv)):=za (zc w _ rfl) 0;have H1:=qqh H1;have HU1:=qqh hu1;have g2:=C1.out.1;have g3:=C1.out.2.1;have g4:=C1.out.2.2;clear h hu1;go_enter func165,ntmps165
 go_wp2
 refine wp_scope_straight ?_;go_wp2
 go_region_held3 (fun W=>W.cell? ⟨b,2,none⟩=some vk/\W.cell? ⟨b,3,none⟩=some (.map (some mb))/\W.cell? ⟨b,4,none⟩=some vg) (go_keep)
  (first
  |((go_at_call 113;refine(yB H1.o.ks.rd (by omega)).mono ?_;rintro e w3 ⟨v3,rfl,hs3,hf3,hb3⟩;have H3:=H1.o.below hb3;have k2:=H3.c.2.2.1;have k3:=H3.c.2.2.2.1;have k4:=H3.c.2.2.2.2;have H3:=qqh H3))
  |((go_at_call 235;refine(yR H3.o.set).mono ?_;rintro e w4 ⟨rfl,hset4,hb4⟩;have H4:=H3.o.below hb4;have l2:=H4.c.2.2.1;have l3:=H4.c.2.2.2.1;have l4:=H4.c.2.2.2.2;have H4:=qqh H4))
  |((go_at_call 113;refine(yB H4.o.gs.rd (by omega)).mono ?_;rintro e w5 ⟨v5,rfl,hs5,hf5,hb5⟩;have H5:=H4.o.below hb5;have m2:=H5.c.2.2.1;have m3:=H5.c.2.2.2.1;have m4:=H5.c.2.2.2.2;have H5:=qqh H5)))
 have hz1:(w.alloc (.cells #[mayV xv] 210)).drew.heap.size=w.heap.size+1:=by simp
 have hb35:Below w3.heap.size w3 w5:=hb4.trans (hb5.mono hb4.size);have hU5:Hid (Upd (fun _=>False) w w5):=HU1.o.trans (uuo (hb3.trans (hb35.mono hb3.size)));have HK5:=qqh (hs3.keep (uuo (S:=fun _=>False) hb35) (fun _ _ h=>h));have HA5:=qqh (hset4.keep (uuo (S:=fun _=>False) hb5) (fun h=>h));have HG5:=qqh hs5;have M5:=qqh ((hb35.cell (p:=⟨w.heap.size,0,none⟩) (by have:=hb3.size;simp at this⊢;omega)).trans ((hb3.cell (p:=⟨w.heap.size,0,none⟩) (by simp)).trans M1.out));have HO:Hid ((∀g,v3.ownBlock=some g->w.heap.size<g/\g<w3.heap.size)/\w.heap.size<w3.heap.size/\(∀g,v5.ownBlock=some g->w3.heap.size<g)):=by
  have:=hb3.size;have:=hset4.lt;refine⟨fun g hg=>⟨?_,hs3.lt hg⟩,by omega,fun g hg=>?_⟩
  .have:=hf3 g hg;omega
  .have:=hf5 g hg;omega
 obtain⟨aok,ck,rfl⟩:=hs3.rd.jd;obtain⟨aog,cg,rfl⟩:=hs5.rd.jd;generalize hmb:w3.heap.size=mb2 at*;clear hb3 hb4 hb5 hb35 hs3 hs5 hf3 hf5 hset4 m2 m3 m4 l2 l3 l4 k2 k3 k4 g2 g3 g4 H3 H4 H1 C1 M1 HU1 hmb hz1;go_wp2
 refine wp_label ?_;go_wp2
 go_loopg[12] (2*K.length) (fun g i wr=>∃h:Nat,h+g=2*K.length/\i=.int .i64 h/\∃A2,SetAt wr mb2 N A2/\(∀x,A2 x=true->A x=true)/\((h=0->A2=A)/\evGo fm K g h A2=evGo fm K (2*K.length) 0 A)/\(∀j (hj:j<K.length),j<h->(fm K[j]=false\/A K[j]=true)/\(fm K[j]=true->A2 K[j]=false))/\Upd (fun j=>j=mb2) w5 wr)
 case atStart=>exact⟨0,by omega,rfl,A,HA5.o,fun _ h=>h,⟨fun _=>rfl,rfl⟩,fun j hj h=>by omega,uur _ _⟩
 case round=>
  obtain⟨h,hh,rfl,A2,hs2,hsub,hz0,hz1,hur⟩:=hrel;have R0:=Y5 hs2 hsub hz0 hz1 hur;clear hs2 hsub hz0 hz1 hur;by_cases hlt:h<2*K.length
  .have hpl:h%K.length<K.length:=qYa _ (by omega);obtain⟨p,hp⟩:=qqe (h%K.length);rw[<-hp]at hpl;have hmod:(h:Int)%(K.length:Int)=(p:Int):=by rw[hp];exact(Int.natCast_emod h K.length).symm
   have HP:=qqh hp;clear hp;have hK:=HK5.o.keep R0.out.2.2.2.2 (fun g hg e=>by have:=HO.o.1 g hg;omega);have HKr:=qqh hK;obtain⟨gk3,ok3,ck3,hv3,hg3,hc3⟩:=hK.rd.at (by omega);cases hv3;have hcp:=hc3 p _ (yt hpl);have hMr:=(R0.out.2.2.2.2.cell (p:=⟨w.heap.size,0,none⟩) (zK M5.out).2 (by have:=HO.o.2.1;simp;omega)).trans M5.out;have hkr:InR K[p]:=H5.o.good.kr _ (qyz hpl);obtain⟨k,hk⟩:=qqe (K[p]);rw[<-hk]at hcp hkr;have HKK:=qqh hk;clear hk hK hc3;have q0:¬(K.length:Int)=0:=by omega
   go_wp2_with fail
   refine(Rj hmay k hkr _ (hU5.out.new R0.out.2.2.2.2 (fun i hi e=>by have:=HO.o.2.1;omega)) w.heap.size hMr).mono ?_;rintro e w6 ⟨rfl,hb6⟩;have hA6:=qqh (R0.out.1.keep (uuo (S:=fun _=>False) hb6) (fun h=>h));have HU6:=qqh (R0.out.2.2.2.2.trans (uuo hb6));clear hb6 hcp hMr hg3;rcases hmb:fm k with _|_
   .have HM:=qqh hmb;clear hmb;go_wp2
    go_roundg (gk-1)
    case measure=>omega
    case rel=>
     refine⟨h+1,by omega,by go_num,A2,hA6.out,R0.out.2.1,⟨by omega,(UX (by omega) HKK.o HP.o HM.o).symm.trans R0.out.2.2.1.2⟩,fun j hj hjh=>?_,HU6.o⟩;by_cases h0:j<h
     .exact R0.out.2.2.2.1 j hj h0
     .have hp0:p=j:=by rw[HP.o,show h=j by omega];exact qXz hj
      subst hp0;rw[<-HKK.o];exact⟨.inl HM.o,fun e=>by rw[HM.o]at e;cases e⟩
   .have HM:=qqh hmb;clear hmb;go_wp2_with fail
    refine(um hA6.out k hkr).mono ?_;rintro e w7 ⟨rfl,hb7⟩;have hA7:=qqh (hA6.out.keep (uuo (S:=fun _=>False) hb7) (fun h=>h));have HU7:=qqh (HU6.o.trans (uuo hb7));clear hb7;rcases hask:A2 k with _|_
    .have HA:=qqh hask;clear hask;go_wp2
     simp only[hmod];clear hmod;have hz7:w.heap.size<w7.heap.size:=by have:=HU7.o.size;have:=hU5.out.size;have:=HO.o.2.1;have:=HA5.o.lt;omega
     have H7:=qqh (H5.o.keep HU7.o (fun j hj e=>by subst e;have:=H.o.slt _ hj;have:=HO.o.2.1;omega));have hK7:Sl w7 3 1 (.slice (some ⟨gk3,ok3,none⟩) K.length ck) K.length (ints K):=HK5.o.keep HU7.o (fun g hg e=>by have:=HO.o.1 g hg;omega);obtain⟨_,⟨h1,h2⟩|⟨g9,o9,c9,cur,h1,hg9,hn9,hm9,hz9,hc9⟩⟩:=hK7
     .cases h1
     cases h1;obtain⟨Aa,hAa,hsrc⟩:∃Aa:Addr,(if ck=p+1 then some (⟨gk3,ok3,none⟩:Addr)else some ⟨gk3,ok3+(p+1),none⟩)=some Aa/\Hid (∀W,Upd (fun _=>False) w7 W->Rd W 1 (.slice (some Aa) (K.length-(p+1)) (ck-(p+1))) (K.drop (p+1)).length (ints (K.drop (p+1)))):=by
      have hml:K.length<=maxLen:=by omega
      by_cases e:ck=p+1
      .rw [if_pos e];refine⟨_,rfl,fun W hW=>Rd.keep (VI hg9 hc9 hml _ (p+1) (if_pos e) rfl (fun _=>by omega) _) hW (fun _ _ h=>h)⟩
      .rw [if_neg e];refine⟨_,rfl,fun W hW=>Rd.keep (VI hg9 hc9 hml _ (p+1) (if_neg e) rfl (fun h=>absurd h e) _) hW (fun _ _ h=>h)⟩
     have hRb:Hid (∀W,Upd (fun _=>False) w7 W->Rd W 1 (.slice (some ⟨gk3,ok3,none⟩) p ck) (K.take p).length (ints (K.take p))):=fun W hW=>Rd.keep (JO hg9 hc9 (by omega) p (by omega) _) hW (fun _ _ h=>h);have u1:Hid (Upd (fun _=>False) w7 (w7.alloc (.cells #[.slice (some Aa) (K.length-(p+1)) (ck-(p+1)),.slice (some ⟨gk3,ok3,none⟩) p ck] 87)).drew):=((uur _ _).alloc _).drew;have u2:Hid ((w7.alloc (.cells #[.slice (some Aa) (K.length-(p+1)) (ck-(p+1)),.slice (some ⟨gk3,ok3,none⟩) p ck] 87)).drew.heap[w7.heap.size]?=some (.cells #[.slice (some Aa) (K.length-(p+1)) (ck-(p+1)),.slice (some ⟨gk3,ok3,none⟩) p ck] 87 (0,0))):=zc _ _ rfl;have hlen:Hid ((K.drop (p+1)).length+(K.take p).length<=4096):=by show(K.drop (p+1)).length+(K.take p).length<=4096;rw[qzf,qzk];omega
     have k1:¬p+1>ck:=by omega
     have hic:p<=ck:=by omega
     have hjc:p+1<=ck:=by omega
     have hj0:(0:Int)<=(p:Int)+1:=by omega
     have hj1:(p:Int)+1<=(K.length:Int):=by omega
     have hj2:0<=(p:Int)+1/\(p:Int)+1<=(K.length:Int):=⟨hj0,hj1⟩
     have hwr:IntKind.i64.wrap ((p:Int)+1)=(p:Int)+1:=qxv _ (by omega);have htn:((p:Int)+1).toNat=p+1:=by omega
     have hlk:Hid ((K.drop (p+1)).length+(K.take p).length=(restK K p).length):=by show _=_;unfold restK;rw[qzd]
     have hli:Hid (ints (K.drop (p+1))++ints (K.take p)=ints (restK K p)):=by show _=_;unfold restK;rw[Ym]
     clear hc9 hg9 hz9 hm9
     go_region_with (go_at_call 237;refine(Wr u2.out (hsrc.out _ u1.out) (hRb.out _ u1.out) hlen.out).mono ?_;rintro e w8 ⟨v8,rfl,hs8,hf8,hb8⟩;rw[hlk.out,hli.out]at hs8;obtain⟨ao8,c8,rfl⟩:=hs8.rd.jd;have hU8:=qqh (u1.out.trans (uuo hb8));have H8:=H7.o.keep hU8.out (fun _ _ h=>h);have s2:=H8.c.2.2.1;have f2:=H8.fz 2;have H8:=qqh H8)
     have hz8:w7.heap.size<=w8.heap.size:=hU8.out.size;have hF8:∀g,(Value.slice ao8 (restK K p).length c8).ownBlock=some g->w7.heap.size<=g/\g<w8.heap.size:=fun g hg=>⟨by have:=hf8 g hg;simp at this;omega,hs8.lt hg⟩
     have hstr8:=H8.o.str;have hG8:=HG5.o.keep (HU7.o.trans (hU8.out.mono (fun _ _ h=>h.elim))) (fun g hg e=>by have:=HO.o.2.2 g hg;omega);have hA8:=hA7.out.keep hU8.out (fun h=>h);obtain⟨v8,hv8⟩:=qqe (Value.slice ao8 (restK K p).length c8);have P8:=Y6 hs8 hF8 hstr8 hG8 hA8 hv8;clear hs8 hF8 hf8 hb8 hG8 hA8 hstr8 s2 f2;rw[<-hv8];clear hv8;have hbv8:v8.ownBlock≠some b:=by rw[P8.out.2.2.2.2.2];intro e;have:=(P8.out.2.1 b e).1;omega
     have hbv5:(Value.slice aog G.length cg).ownBlock≠some b:=by intro e;have:=HO.o.2.2 b e;have:=HO.o.2.1;omega
     have hbmb:mb2≠b:=by have:=HO.o.2.1;omega
     have str9:=zi P8.out.2.2.1 2 v8;have ks9:=(P8.out.2.2.2.2.2▸P8.out.1:Sl w8 3 1 v8 (restK K p).length (ints (restK K p))).jN (zj w8 b 2 v8) hbv8;have gs9:=P8.out.2.2.2.1.jN (zj w8 b 2 v8) hbv5;have as9:=P8.out.2.2.2.2.1.keep (zj w8 b 2 v8) hbmb;have U9:Upd (fun j=>j=b) w (w8.setCell ⟨b,2,none⟩ v8):=
      Upd.trans (Upd.new hU5.out (HU7.o.trans (hU8.out.mono (fun _ _ h=>h.elim))) (fun i hi e=>by have:=HO.o.2.1;omega)|>.mono (fun _ _ h=>h.elim)) (zj w8 b 2 v8)
     have hz9:w8.heap.size=(w8.setCell ⟨b,2,none⟩ v8).heap.size:=by simp
     generalize w8.setCell ⟨b,2,none⟩ v8=w9 at*;have s3:=za str9 3;have f3:=zg str9 3;simp at s3;have Q9:=Y6 str9 ks9 gs9 as9 U9 hz9;clear str9 ks9 gs9 as9 U9 hz9;have G10:=qqh (Q9.out.2.2.1.jN (zj w9 b 3 (.map (some mb2))) hbv5);have hm1:Hid (G.length+1<=maxLen):=by show G.length+1<=maxLen;unfold maxLen;omega
     have hm2:Hid ((G.length+1)*8<=140737488355328):=by show _<=_;omega
     have hone:Hid (∀u∈[Value.int .i64 k],u.oneCell'=true):=by intro u hu;simp at hu;subst hu;rfl
     have hx10:Hid (Value.slice (some ⟨w9.heap.size,0,none⟩) 1 1=.slice (some ⟨(w9.setCell ⟨b,3,none⟩ (.map (some mb2))).heap.size,0,none⟩) 1 1):=by show _=_;simp
     go_wp2_with (at_builtin;refine zS rfl (.tmp 82) (.tmp 84) 87 rfl i0 (.int .i64 0) 8 underlying87 hi0 hz0 hz1' hz2 rfl (by decide) rfl G10.out [.int .i64 k] hx10.out rfl hone.out hm1.out hm2.out ?_)
     intro v11 w11 hs11 hu11 hbf11;obtain⟨ao11,c11,rfl⟩:=hs11.rd.jd;have hz10:w9.heap.size=(w9.setCell ⟨b,3,none⟩ (.map (some mb2))).heap.size:=by simp
     have hob11:∀g,(Value.slice ao11 (G.length+1) c11).ownBlock=some g->mb2<g/\(g<w7.heap.size\/w8.heap.size<=g):=by
      intro g hg;have ht:=HG5.o.lt (g:=g);have hsz:=HU7.o.size;rcases hbf11 with e|⟨g',e,hge⟩
      .rw [e]at hg;exact⟨HO.o.2.2 g hg,.inl (by have:=ht hg;omega)⟩
      .rw [e]at hg;cases hg;have:=Q9.out.2.2.2.2.2;have:=HA5.o.lt;exact⟨by omega,.inr (by omega)⟩
     have str10:=zi Q9.out.1 3 (.map (some mb2));have str11:=(hu11.block b (zf str10) (fun e=>hbv5 e)).trans str10;have str12:=zi str11 4 (.slice ao11 (G.length+1) c11);have s4:=za str11 4;have f4:=zg str11 4;simp at s4;have hd58:Dis v8 (Value.slice aog G.length cg):=fun g h1 h2=>by
      have:=(P8.out.2.1 g (by rw[<-P8.out.2.2.2.2.2];exact h1)).1;have:=HG5.o.lt h2;have:=HU7.o.size;omega
     have hb11:(Value.slice ao11 (G.length+1) c11).ownBlock≠some b:=fun e=>by have:=(hob11 b e).1;have:=HO.o.2.1;omega
     have ks12:=((Q9.out.2.1.jN (zj w9 b 3 (.map (some mb2))) hbv8).jO hd58 hu11).jN (zj w11 b 4 (.slice ao11 (G.length+1) c11)) hbv8;have gs12:=hs11.jN (zj w11 b 4 (.slice ao11 (G.length+1) c11)) hb11;have as12:=((Q9.out.2.2.2.1.keep (zj w9 b 3 (.map (some mb2))) hbmb).keep hu11 (fun e=>by have:=HO.o.2.2 mb2 e;omega)).keep (zj w11 b 4 (.slice ao11 (G.length+1) c11)) hbmb;have U12:=(((Q9.out.2.2.2.2.1.trans (zj w9 b 3 (.map (some mb2)))).new hu11 (fun i hi e=>by have:=HO.o.2.2 i e;have:=HO.o.2.1;omega))).trans (zj w11 b 4 (.slice ao11 (G.length+1) c11));have e12:ints G++[.int .i64 k]=ints (G++[k]):=by simp
     rw[e12]at gs12;have M12:CkMem (w11.setCell ⟨b,4,none⟩ (.slice ao11 (G.length+1) c11)) b mb2 N v8 (.slice ao11 (G.length+1) c11) most few (restK K p) A2 (G++[k]):={
      str:=by simpa using str12
      ks:=ks12
      gs:=by simpa using gs12
      set:=as12
      kb:=hbv8
      gb:=hb11
      km:=fun e=>by have:=(P8.out.2.1 mb2 (by rw[<-P8.out.2.2.2.2.2];exact e)).1;have:=HA5.o.lt;have:=HU7.o.size;omega
      gm:=fun e=>by have:=(hob11 mb2 e).1;omega
      bm:=hbmb
      kg:=fun g h1 h2=>by
       have h3:=P8.out.2.1 g (by rw[<-P8.out.2.2.2.2.2];exact h1);have h4:=(hob11 g h2).2;omega}
     have HM12:=qqh M12;have HU12:=qqh U12;clear M12 U12 as12 gs12 ks12 e12 hbf11 hu11 hs11 str10 str11 str12 hb11 hd58;go_wp2
     generalize w11.setCell ⟨b,4,none⟩ (.slice ao11 (G.length+1) c11)=w12 at*;have c12:=HM12.o.c;have c12a:=c12.2.1;have c12b:=c12.2.2.2.2;clear c12 s4 f4 s3 f3;have HV:Hid (EvYes fm few K A G k (restK K p) A2 (trimG few (G++[k]))):=by
      refine⟨⟨p,hpl,HKK.o,rfl,fun hx=>?_,?_,fun j hj hjp e=>(R0.out.2.2.2.1 j hj (by have:=Nat.mod_le h K.length;rw[<-HP.o]at this;omega)).2 e⟩,rfl,HA.o,R0.out.2.1⟩
      .by_cases h0:h=0
       .refine ⟨?_,R0.out.2.2.1.1 h0⟩;rw[HP.o,h0];exact Nat.zero_mod _
       .have hh0:K.head?=some K[0]:=by rw[List.head?_eq_getElem?];exact qyn (by omega)
        have h1:=(R0.out.2.2.2.1 0 (by omega) (by omega)).1;have h2:=hx _ hh0;rw[h2.1,h2.2]at h1;simp at h1
      .by_cases h0:h=0
       .exact .inl ⟨by rw[HP.o,h0];exact Nat.zero_mod _,R0.out.2.2.1.1 h0⟩
       .right
        by_cases h1:h<K.length
        .left;rw[HP.o,qXz h1];omega
        .right
         intro x hx;obtain⟨j,hj,rfl⟩:=qza hx;exact(R0.out.2.2.2.1 j hj (by omega)).1
     have HE:Hid (evR fm few K A G=(k,0,restK K p,A2,trimG few (G++[k]))):=by
      show _=_;have e:K.getD p 0=k:=by rw[HKK.o];simp[hpl]
      unfold evR;rw[<-R0.out.2.2.1.2,Rl (by omega) HKK.o HP.o HM.o HA.o];simp only[e]
     have hob:Hid (∀(v13:Value),(v13.ownBlock=(Value.slice ao11 (G.length+1) c11).ownBlock)->∀j,QE b mb2 v8 v13 j->QE b mb vk vg j\/w.heap.size<=j):=by
      intro v13 hv j hj;rcases hj with rfl|rfl|hj|hj
      .exact .inl (.inl rfl)
      .right;have:=HO.o.2.1;omega
      .right;have:=(P8.out.2.1 j (by rw[<-P8.out.2.2.2.2.2];exact hj)).1;omega
      .right;rw[hv]at hj;have:=(hob11 j hj).1;have:=HO.o.2.1;omega
     by_cases hf:few<G.length+1
     .have qf:decide ((few:Int)<(G.length:Int)+1)=true:=by simp;omega
      go_quiet(fail)
      generalize hw13:w12.drewN nq=w13;have hu13:Upd (fun _=>False) w12 w13:=by rw[<-hw13];exact(uur _ _).drewN _
      have M13:=qqh (HM12.o.keep hu13 (fun _ _ h=>h));have HU13:=qqh (HU12.o.trans (hu13.mono (fun _ _ h=>h.elim)));clear hw13 hu13 c12a c12b;have c13:=M13.out.c.2.2.2.2;have hl13:Hid (0<(G++[k]).length/\(G++[k]).length<=4096/\(G++[k]).tail=trimG few (G++[k])):=by
       refine⟨by simp,by simp;omega,?_⟩;unfold trimG;rw[if_pos (by simp;omega)]
      go_wp2_with fail
      refine(Ta M13.out.gs hl13.out.2.1 hl13.out.1).mono ?_;rintro e w14 ⟨ao14,n14,c14,rfl,hbe,hs14,hu14⟩;have M15:=qqh (M13.out.setGhosts hu14 hs14 (.inl hbe));have U15:Hid (Upd (fun j=>j=b) w (w14.setCell ⟨b,4,none⟩ (.slice ao14 n14 c14))):=
       (HU13.o.new hu14 (fun i hi e=>by have:=(hob11 i e).1;have:=HO.o.2.1;omega)).trans (zj _ _ _ _)
      have hstr14:=(hu14.block b (zf M13.out.str) (fun e=>M13.out.gb e)).trans M13.out.str;have s14:=za hstr14 4;have f14:=zg hstr14 4;simp at s14;have HB14:=qqh hbe;clear hu14 hs14 hbe hstr14 c13;dsimp only;clear hwr htn hAa;go_wp2
      rw[qxr];go_ret2
      refine⟨k,0,restK K p,A2,trimG few (G++[k]),mb2,v8,_,rfl,⟨.inr ⟨rfl,HV.o⟩,HE.o⟩,?_,hob.out _ HB14.o,U15.out⟩;rw[<-hl13.out.2.2];exact M15.out
     .have qf:decide ((few:Int)<(G.length:Int)+1)=false:=by simp;omega
      go_quiet(fail)
      have hT:Hid (G++[k]=trimG few (G++[k])):=by show _=_;unfold trimG;rw[if_neg (by simp;omega)]
      go_wp2
      rw[qxr];go_ret2
      refine⟨k,0,restK K p,A2,trimG few (G++[k]),mb2,v8,_,rfl,⟨.inr ⟨rfl,HV.o⟩,HE.o⟩,?_,hob.out _ rfl,HU12.o.drewN _⟩;rw[<-hT.out];exact HM12.o.keep ((uur (fun _=>False) _).drewN _) (fun _ _ h=>h)
    .have HA:=qqh hask;clear hask;obtain⟨w8,hrun,hs8,hu8,hz8⟩:=SetAt.drop hA7.out (x:=k) hkr 0;have R8:=Y2 hs8 hu8;clear hs8 hu8 hz8;go_wp2
     go_roundg (gk-1)
     case measure=>omega
     case rel=>
      refine⟨h+1,by omega,by go_num,updB A2 k false,R8.out.1,?_,⟨by omega,(Rk (by omega) HKK.o HP.o HM.o HA.o).symm.trans R0.out.2.2.1.2⟩,fun j hj hjh=>?_,HU7.o.trans R8.out.2⟩
      .intro x hx;by_cases e:x=k
       .subst e;simp[updB]at hx
       .simp only[updB,if_neg e]at hx;exact R0.out.2.1 x hx
      .by_cases h0:j<h
       .refine ⟨(R0.out.2.2.2.1 j hj h0).1,fun e=>?_⟩;unfold updB;split
        .rfl
        .exact (R0.out.2.2.2.1 j hj h0).2 e
       .have hp0:p=j:=by rw[HP.o,show h=j by omega];exact qXz hj
        subst hp0;rw[<-HKK.o];exact⟨.inr (R0.out.2.1 k HA.o),fun _=>by simp[updB]⟩
  .have he:Hid (∀x∈K,fm x=false\/A x=true):=by
    intro x hx;obtain⟨j,hj,rfl⟩:=qza hx;exact(R0.out.2.2.2.1 j hj (by omega)).1
   have hE:Hid (evR fm few K A G=(0,14,K,A,G)):=by
    show _=_;unfold evR;rw[<-R0.out.2.2.1.2,show gk=0 by omega];rfl
   have hM:Hid (CkMem wr b mb N vk vg most few K A G):=(H5.o.keep R0.out.2.2.2.2 (fun j hj e=>by subst e;have:=H.o.slt _ hj;have:=HO.o.2.1;omega)).toCkMem;have hU:Hid (Upd (fun j=>j=b) w wr):=(hU5.out.new R0.out.2.2.2.2 (fun i hi e=>by have:=HO.o.2.1;omega)).mono (fun _ _ h=>h.elim);go_wp2
   rw[qxr];go_ret2
   exact⟨0,14,K,A,G,mb,vk,vg,rfl,⟨.inl ⟨rfl,rfl,rfl,rfl,rfl,he.out⟩,hE.out⟩,hM.out,fun j hj=> .inl hj,hU.out⟩
theorem evict_ck{S:Nat->Prop}{w:World}{b N most few:Nat}{K G:List Int}{A:Int->Bool}(h:Ck S w b N most few K A G)(hn:∀j,w.heap.size<=j->S j)(xv:Value)(fm:Int->Bool)(hmay:MayIs xv fm w):
  Calls prog 165 #[.pointer (some ⟨b,0,none⟩),mayV xv] w fun e w'=>∃key code K' A' G',e=.returned (.tuple #[.int .i64 key,.int .i64 code])/\
   EvOut fm few K A G key code K' A' G'/\Ck S w' b N most few K' A' G'/\Upd S w w':=by
 obtain⟨mb,vk,vg,h,hS⟩:=h;refine(Rm h xv fm hmay).mono ?_;rintro e w' ⟨key,code,K',A',G',mb',vk',vg',rfl,ho,hm,hb,hu⟩;exact⟨key,code,K',A',G',rfl,ho,⟨mb',vk',vg',⟨hm,ho.good h.good⟩,fun j hj=>(hb j hj).elim (hS j) (hn j)⟩,hu.mono (fun j _ hj=>by subst hj;exact hS _ (.inl rfl))⟩
end Go.Proofs.YtfhfbpmlnjdfoaaGreatDoor.EvG
namespace Go.Proofs.YtfhfbpmlnjdfoaaGreatDoor
open Go Go.RowKit Tryz
def AI(own:Nat->Nat)(w:World)(c:Nat)(n:CaN)(p:CaP)(a:CaS)(e:Ending)(w':World):Prop:=
 ∃key code K' A' H',e=.returned (.tuple #[.int .i64 key,.int .i64 code])/\EvG.EvOut (cleanB a.ps) n.sl a.K a.A a.H key code K' A' H'/\∃own',CaAt own' w' c n p {a with K:=K',A:=A',H:=H'}/\Did own own' w w'
section
variable{own:Nat->Nat}{w w':World}{c:Nat}{n:CaN}{p:CaP}{a:CaS}
theorem Rn(h:CaAt own w c n p a):EvG.MayIs (ptr c) (cleanB a.ps) w:=fun _ k _ hu=>qX (h.new hu) k
theorem Tc(h:CaAt own w c n p a):Calls prog 165 #[ptr p.ck,EvG.mayV (ptr c)] w (AI own w c n p a):=
 (EvG.evict_ck h.open8 (fun _ h=> .inr h) (ptr c) (cleanB a.ps) (Rn h)).mono fun _ _ ⟨key,code,K',A',H',he,ho,hc,hu⟩=>⟨key,code,K',A',H',he,ho,_,h.turn8 hu hc,h.did8 hu⟩
end
end Go.Proofs.YtfhfbpmlnjdfoaaGreatDoor
