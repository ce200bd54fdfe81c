/- The index: Put -/
import Derived.Test.YtpejdgiccaijfaaGreatDoorG07
import Derived.BigRegionIn
import Derived.Shelf.RegionOpen
import Derived.Maps.OwnIn
import Derived.Deep.RegionHeld
import Derived.Test.YtpejdgiccaijfaaGreatDoorG06
set_option maxRecDepth 100000
set_option maxHeartbeats 2000000
namespace Go.Proofs.YtpejdgiccaijfaaGreatDoor
open Go Go.RowKit Tryz
theorem JW{w:World}{b mb N:Nat}{v:Value}{ps:List (Int×Bool)}{slots:Nat}(h:IndexAt w b v mb N ps slots)(k s:Int)(d:Bool)(ho:k<0\/(ps.length:Int)<=k\/s<0\/(slots:Int)<=s):
  Calls prog 213 #[.pointer (some ⟨b,0,none⟩),.int .i64 k,zN s d] w fun e w'=>e=.returned (.tuple #[zN 0 false,.int .i64 10])/\Below w.heap.size w w':=by
 have hu:Upd (fun _=>False) w ((w.alloc (.cells #[.int .i64 s,.bool d] 256)).alloc (.cells #[.int .i64 0,.bool false] 256)):=((uur _ _).alloc _).alloc _;have hbl:=h.blt;have hle:=h.le;have hsl:=h.sl1;have g0:=(hu.cellAt (o:=0) hbl id).trans (za h.str 0);have g2:=(hu.cellAt (o:=2) hbl id).trans (za h.str 2);simp at g0 g2;obtain⟨ao,c,rfl⟩:=h.sl.rd.jU;clear h hu;have ho':k<0\/(¬k<0/\(ps.length:Int)<=k)\/(¬k<0/\¬(ps.length:Int)<=k/\s<0)\/(¬k<0/\¬(ps.length:Int)<=k/\¬s<0/\(slots:Int)<=s):=oM;clear ho;rcases ho' with h1|⟨h1,h2⟩|⟨h1,h2,h3⟩|⟨h1,h2,h3,h4⟩
 case' inr.inl=>
  have d1:decide (k<0)=false:=by simpa using h1
  have d2:decide ((ps.length:Int)<=k)=true:=by simpa using h2
 case' inr.inr.inl=>
  have d1:decide (k<0)=false:=by simpa using h1
  have d2:decide ((ps.length:Int)<=k)=false:=by simpa using h2
  have d3:decide (s<0)=true:=by simpa using h3
 case' inr.inr.inr=>
  have d1:decide (k<0)=false:=by simpa using h1
  have d2:decide ((ps.length:Int)<=k)=false:=by simpa using h2
  have d3:decide (s<0)=false:=by simpa using h3
  have d4:decide ((slots:Int)<=s)=true:=by simpa using h4
 all_goals
  go_enter func213,ntmps213
  go_wp2
  go_quiet(fail)
  clear g0 g2;generalize hw3:(((w.alloc (.cells #[.int .i64 s,.bool d] 256)).alloc (.cells #[.int .i64 0,.bool false] 256)).drewN nq)=w3;have hb3:Below w.heap.size w w3:=by rw[<-hw3];exact zQ (((qxl _ _).alloc (qXo _) _).alloc oe _) _
  have hrx:w3.heap[w.heap.size+1]?=some (.cells #[.int .i64 0,.bool false] 256):=by rw[<-hw3];exact zc _ _ oe
  clear hw3;obtain⟨r0,r1,f0,f1⟩:=qE _ _ hrx;have Y:=qqh (qF _ _ hrx);clear hrx;go_wp2
  refine qYp (v:=.tuple #[zN 0 false,.int .i64 10]) ?_ rfl ⟨rfl,uW hb3 _ oM _ _⟩;simp[results,results213,go_sem,Y.out.1,Y.out.2]
theorem tZ{ps:List (Int×Bool)}{n:Nat}(h:n<ps.length):ps.getD n (-1,false)=ps[n]:=by simp[List.getD,h]
theorem ZA{w:World}{b mb N:Nat}{v:Value}{ps:List (Int×Bool)}{slots:Nat}(h:IndexAt w b v mb N ps slots)(k:Int):
  Calls prog 173 #[.pointer (some ⟨b,0,none⟩),.int .i64 k] w fun e w'=>e=.returned (.tuple #[zN (getV ps k).1 (getV ps k).2,.int .i64 (getC ps k)])/\Below w.heap.size w w':=by
 by_cases ho:k<0\/(ps.length:Int)<=k
 .simp only[getV,getC,if_pos ho];exact Jy h k ho
 .obtain ⟨n,rfl⟩:∃n:Nat,k=n:=⟨k.toNat,oM⟩
  have hn:n<ps.length:=oM;simp only[getV,getC,if_neg ho,qxt,tZ hn];rcases h.good.each n hn with e|e
  .simp only[e,if_true];exact QA h n hn e
  .have h1:ps[n].1≠-1:=oM;have h2:ps[n]≠(-1,false):=fun e=>h1 (by rw[e]);simp only[if_neg h2];exact YO h n hn h1
theorem JX{w:World}{b mb N:Nat}{v:Value}{ps:List (Int×Bool)}{slots:Nat}(h:IndexAt w b v mb N ps slots)(k s:Int)(d:Bool)(hN:N<maxLen):
  Calls prog 213 #[.pointer (some ⟨b,0,none⟩),.int .i64 k,zN s d] w fun e w'=>e=.returned (.tuple #[zN (um ps slots k s).1 (um ps slots k s).2,.int .i64 (putC ps slots k s)])/\
   IndexAt w' b v mb (N+1) (vN ps slots k s d) slots/\Upd (ixS v mb) w w':=by
 by_cases ho:k<0\/(ps.length:Int)<=k\/s<0\/(slots:Int)<=s
 .have e:putC ps slots k s=10:=by unfold putC;rw[if_pos ho]
  simp only[um,vN,e,if_neg (show¬(10:Int)=0 by decide)];exact(JW h k s d ho).mono fun e w' ⟨he,hb⟩=>⟨he,(h.below hb).mono (qXp _),uuo hb⟩
 .obtain ⟨n,rfl⟩:∃n:Nat,k=n:=⟨k.toNat,oM⟩
  have hn:n<ps.length:=oM;by_cases hm:mayPut ps n s
  .have e:putC ps slots n s=0:=by
    unfold putC;rw[if_neg ho,if_pos (by simpa[mayPut]using hm)]
   simp only[um,vN,e,if_true,qxt,tZ hn];exact AK h n s d hn oM oM hm hN
  .have e:putC ps slots n s=15:=by
    unfold putC;rw[if_neg ho,if_neg (by simpa[mayPut]using hm)]
   simp only[um,vN,e,if_neg (show¬(15:Int)=0 by decide)];exact(UX h n s d hn oM oM hm).mono fun e w' ⟨he,hb⟩=>⟨he,(h.below hb).mono (qXp _),uuo hb⟩
def dropL(ps:List (Int×Bool))(k:Int):List (Int×Bool):=if getC ps k=0 then ps.set k.toNat (-1,false)else ps
theorem sJ{ps:List (Int×Bool)}{slots:Nat}(h:Good ps slots){k:Int}(hc:getC ps k=0):∃(n:Nat) (hn:n<ps.length),k=n/\0<=ps[n].1/\ps[n].1<slots/\getV ps k=ps[n]:=by
 unfold getC at hc;by_cases ho:k<0\/(ps.length:Int)<=k
 .rw [if_pos ho]at hc;cases hc
 .rw [if_neg ho]at hc;obtain⟨n,rfl⟩:∃n:Nat,k=n:=⟨k.toNat,oM⟩
  have hn:n<ps.length:=oM;simp only[qxt,tZ hn]at hc;by_cases e:ps[n]=(-1,false)
  .simp [e]at hc
  .refine ⟨n,hn,rfl,?_,?_,?_⟩
   .rcases h.each n hn with e'|e';exact absurd e' e;exact e'.1
   .rcases h.each n hn with e'|e';exact absurd e' e;exact e'.2
   .simp only[getV,if_neg ho,qxt,tZ hn,if_neg e]
theorem QY{ps:List (Int×Bool)}{k:Int}(hc:getC ps k≠0):getV ps k=(0,false):=by
 unfold getC at hc;unfold getV;split
 .rfl
 .rename_i h
  rw[if_neg h]at hc;split
  .rfl
  .rename_i h2
   rw[if_neg h2]at hc;exact absurd rfl hc
theorem QZ{w:World}{b mb N:Nat}{v:Value}{ps:List (Int×Bool)}{slots:Nat}(h:IndexAt w b v mb N ps slots)(k:Int)(hc:getC ps k≠0):
  Calls prog 388 #[.pointer (some ⟨b,0,none⟩),.int .i64 k] w fun e w'=>e=.returned (.tuple #[zN 0 false,.int .i64 (getC ps k)])/\Below w.heap.size w w':=by
 have H:=qqh (h.keep ((uur (fun _=>False) w).alloc (.cells #[.int .i64 0,.bool false] 256)) id (fun _ _ h=>h));obtain⟨c,hcc⟩:=qqe (getC ps k);obtain⟨z,hz⟩:=qqe (getV ps k);have HG:=ZA H.o k;rw[<-hcc,<-hz]at HG;have HG':=qqh HG;rw[<-hcc]at hc;rw[<-hcc];have hc':(c==0)=false:=by simpa using hc
 clear hcc hz h H hc HG;go_enter func388,ntmps388
 go_wp2_with fail
 refine HG'.o.mono ?_;rintro e w1 ⟨rfl,hb1⟩;have hz1:=hb1.size;simp at hz1;have hB:=zj ((qxl _ w).alloc (qXo _) _) (uuo (S:=fun _=>False) hb1) (qXo _) (fun _ h=>h.elim);have hrx:(w1.alloc (.cells #[.int .i64 z.1,.bool z.2] 256)).heap[w.heap.size]?=some (.cells #[.int .i64 0,.bool false] 256):=
  (((uuo (S:=fun _=>False) hb1).alloc _).block _ oe id).trans (zc w _ rfl)
 obtain⟨r0,r1,f0,f1⟩:=qE _ _ hrx;have Y:=qqh (qF _ _ hrx);clear hrx HG';go_wp2
 refine qYp (v:=.tuple #[zN 0 false,.int .i64 c]) ?_ rfl ⟨rfl,uW (hB.alloc oM _) _ oM _ _⟩;simp[results,results388,go_sem,Y.out.1,Y.out.2]
theorem JY{w:World}{b mb N:Nat}{v:Value}{ps:List (Int×Bool)}{slots:Nat}(h:IndexAt w b v mb N ps slots)(n:Nat)(hn:n<ps.length)(h0:0<=ps[n].1):
  Calls prog 388 #[.pointer (some ⟨b,0,none⟩),.int .i64 n] w fun e w'=>e=.returned (.tuple #[zN ps[n].1 ps[n].2,.int .i64 0])/\
   IndexAt w' b v mb N (ps.set n (-1,false)) slots/\Upd (ixS v mb) w w':=by
 have hgood:=h.good;have hr:=hgood.each n hn;have hsl:=h.sl1;have hle:=h.le;have hw:Upd (fun _=>False) w (w.alloc (.cells #[.int .i64 0,.bool false] 256)):=(uur (fun _=>False) w).alloc (.cells #[.int .i64 0,.bool false] 256);have H:=qqh h;have HG:=qqh (YO (h.keep hw id (fun _ _ h=>h)) n hn oM);clear h;go_enter func388,ntmps388
 go_wp2_with fail
 refine HG.o.mono ?_;rintro e w1 ⟨rfl,hb1⟩;have hz1:=hb1.size;simp at hz1;clear HG;have hu1:Upd (fun _=>False) w (w1.alloc (.cells #[.int .i64 ps[n].1,.bool ps[n].2] 256)):=(hw.trans (uuo hb1|>.mono (S':=fun _=>False) (fun _ _ h=>h))).alloc _;have hgx:(w1.alloc (.cells #[.int .i64 ps[n].1,.bool ps[n].2] 256)).heap[w1.heap.size]?=some (.cells #[.int .i64 ps[n].1,.bool ps[n].2] 256):=zc w1 _ rfl;have hrx:(w1.alloc (.cells #[.int .i64 ps[n].1,.bool ps[n].2] 256)).heap[w.heap.size]?=some (.cells #[.int .i64 0,.bool false] 256):=
  (((uuo (S:=fun _=>False) hb1).alloc _).block _ oe id).trans (zc w _ rfl)
 go_wp2
 generalize hw2:(w1.alloc (.cells #[.int .i64 ps[n].1,.bool ps[n].2] 256))=w2;rw[hw2]at hu1 hgx hrx;have hz2:w2.heap.size=w1.heap.size+1:=by rw[<-hw2];simp
 clear hw2 hb1 hw;have hI2:=H.o.keep hu1 id (fun _ _ h=>h);obtain⟨w3,hdel,hM3,hu23',hz3⟩:=(show MapAt w2.drew mb N (atOf ps)from hI2.map).drop (x:=ps[n].1) oM ja 0;have hu23:=hu23'.undrew;obtain⟨g,off,cap,rfl,hg,P0,P1⟩:=hI2.at hn;have hbm:b≠mb:=fun e=>hI2.nm e.symm;have hgm:g≠mb:=fun e=>hI2.nv jQ;have hgb:g≠b:=fun e=>hI2.ne jQ;have hmlt:=H.o.map.lt;have hblt:=H.o.blt;have hglt:=H.o.sl.lt (g:=g) rfl;have T2:=za hI2.str 1;have u0:=za hgx 0;simp at T2 u0;have G3:=(hu23.block _ oM oM).trans hgx;have R3:=(hu23.block _ oM oM).trans hrx;have T3:=(hu23.block _ hI2.blt hbm).trans hI2.str;have S3:=hI2.sl.keep hu23 (fun g' hg' e=>by simp[Value.ownBlock]at hg';omega);have HM3:=qqh hM3;have HZ3:w3.heap.size=w1.heap.size+1:=hz3.trans hz2;have HU3:=qqh ((hu1.mono (S':=fun j=>j=mb) (fun _ _ h=>h.elim)).trans hu23);clear hu1 hgx hrx hz2 hI2 P0 P1 hu23' hu23 hM3 hg hz3;go_wp2
 go_region
 clear hdel T2 u0;have t0:=za T3 0;simp at t0;obtain⟨g',off',cap',cur,hve,hg3,hcs,hcc⟩:=S3.at oM;cases hve;have HG3:=qqh G3;have HR3:=qqh R3;have HT3:=qqh T3;have HS3:=qqh S3;have E0:=(za hg3 (off+n*2)).trans (hcc _ _ (wL hn).1);have E1:=(za hg3 (off+n*2+1)).trans (hcc (n*2+1) _ (wL hn).2);have F0:=zf hg3 (off+n*2);have F1:=zf hg3 (off+n*2+1);have hg3':=zd hg3;have hb3':=zd T3;clear G3 R3 T3 S3 hcs hcc hg3;go_wp2
 go_region_held3 (fun W=>W.cell? ⟨b,0,none⟩=some (.slice (some ⟨g,off,none⟩) ps.length cap)) (go_keep)
  ((go_at_call 211;refine(yS _).mono ?_;rintro e w4 ⟨rfl,hu4,hz4⟩;have k0:=(hu4.cellAt (o:=0) og id).trans t0;have k1:=(hu4.cellAt og id).trans E0;have k2:=(hu4.cellAt og id).trans E1;have k3:=(hu4.frozenAt og id).trans F0;have k4:=(hu4.frozenAt og id).trans F1))
 generalize hw5:((w4.setCell ⟨g,off+n*2,none⟩ (.int .i64 (-1))).setCell ⟨g,off+n*2+1,none⟩ (.bool false))=w5;have hu34:Upd (fun _=>False) w3 w4:=hu4.undrew;have hu45:Upd (fun j=>j=g) w4 w5:=by rw[<-hw5];exact(zi w4 g (off+n*2) _).trans (zi _ g (off+n*2+1) _)
 have S4:=HS3.o.keep hu34 (fun _ _ h=>h);have S5:Sl w5 256 2 (.slice (some ⟨g,off,none⟩) ps.length cap) (ps.set n (-1,false)).length (plC (ps.set n (-1,false))):=by
  rw[<-hw5];exact S4.putPlace n hn (-1) false
 have hz5:w5.heap.size=w1.heap.size+2:=by rw[<-hw5];simp[hz4];simp[HZ3]
 clear hw5 k0 k1 k2 k3 k4 E0 E1 F0 F1 t0;have hu35:=(hu34.mono (S':=fun j=>j=g) (fun _ _ h=>h.elim)).trans hu45;have M5:=HM3.o.keep hu35 (fun e=>hgm e.symm);have T5:=(hu35.block _ oM (fun e=>hgb e.symm)).trans HT3.o;have G5:=(hu35.block _ oM oM).trans HG3.o;have R5:=(hu35.block _ oM oM).trans HR3.o;have HI5:Hid (IndexAt w5 b (.slice (some ⟨g,off,none⟩) ps.length cap) mb N (ps.set n (-1,false)) slots):=
  {str:=T5,sl:=by simpa using S5,map:=by rw[hgood.atOf_drop hn];exact M5,good:=hgood.drop n,ne:=H.o.ne,nm:=H.o.nm,nv:=H.o.nv,le:=by simpa using hle,sl1:=hsl}
 have HU5:Hid (Upd (ixS (.slice (some ⟨g,off,none⟩) ps.length cap) mb) w w5):=
  (HU3.o.mono (fun j _ e=> .inr e)).trans (hu35.mono (fun j _ e=> .inl jQ))
 have HR5:=qqh R5;have r0:=za R5 0;have r1:=za R5 1;have q0:=zf R5 0;have q1:=zf R5 1;have x0:=za G5 0;have x1:=za G5 1;simp at r0 r1 x0 x1;clear hu34 hu45 S4 S5 hu35 M5 T5 G5 R5 hz4 hu4;go_wp2
 have HA3:=zh (zh HR5.o 0 (.int .i64 ps[n].1)) 1 (.bool ps[n].2);have y0:=za HA3 0;have y1:=za HA3 1;simp at y0 y1;have hue:Upd (fun j=>j=w.heap.size) w5 ((w5.setCell ⟨w.heap.size,0,none⟩ (.int .i64 ps[n].1)).setCell ⟨w.heap.size,1,none⟩ (.bool ps[n].2)):=(zi w5 w.heap.size 0 _).trans (zi _ _ 1 _);refine qYp (v:=.tuple #[zN ps[n].1 ps[n].2,.int .i64 0]) ?_ rfl ⟨rfl,?_,?_⟩
 .simp [results,results388,go_sem,y0,y1]
 .exact HI5.o.keep hue oM (fun j hj e=>by have:=H.o.slt j hj;omega)
 .exact HU5.o.new (hue.mono (fun _ _ h=>h)) (fun j hj e=>oM)
theorem Ra{w:World}{b mb N:Nat}{v:Value}{ps:List (Int×Bool)}{slots:Nat}(h:IndexAt w b v mb N ps slots)(k:Int):
  Calls prog 388 #[.pointer (some ⟨b,0,none⟩),.int .i64 k] w fun e w'=>e=.returned (.tuple #[zN (getV ps k).1 (getV ps k).2,.int .i64 (getC ps k)])/\
   IndexAt w' b v mb N (dropL ps k) slots/\Upd (ixS v mb) w w':=by
 by_cases hc:getC ps k=0
 .obtain ⟨n,hn,rfl,h0,h1,hv⟩:=sJ h.good hc;have hL:dropL ps n=ps.set n (-1,false):=by simp[dropL,hc]
  rw[hL,hv,hc];exact JY h n hn h0
 .have hL:dropL ps k=ps:=by simp[dropL,hc]
  rw[hL,QY hc];exact(QZ h k hc).mono fun e w' ⟨he,hb⟩=>⟨he,h.below hb,uuo hb⟩
theorem zaj:(prog.info? 256).map (fun i=>(i.zero,i.size,i.bytes))=some (some (.agg #[.int .i64 0,.bool false]),2,16):=kR
theorem qS{w:World}{v:Value}{ps:List (Int×Bool)}(h:Rd w 2 v ps.length (plC ps))(hle:ps.length<=4096)(hpos:0<ps.length):
  Calls prog 228 #[v] w fun e w'=>∃v',e=.returned v'/\Sl w' 256 2 v' ps.length (plC ps)/\From w.heap.size v'/\Below w.heap.size w w':=by
 obtain⟨i0,hi,hz0,hz1,hz2⟩:=qYs zaj;have H:=qqh h;obtain⟨hl,hm,ao,c,rfl,h0,_⟩:=h;have q34:=fun(w:World) (a:Option Addr) (n c:Nat)=>Lib.run_eql_slice_nil (P:=prog) w 320 256 a n c 0 0 underlying320;cases ao with
 |none=>
  have hn:=h0 rfl;omega
 |some a=>
  clear h0 hl;have hs0:Sl (w.alloc (.cells #[] 256)) 256 2 (.slice (some ⟨w.heap.size,0,none⟩) 0 0) 0 []:=
   ⟨oe,.inr ⟨w.heap.size,0,0,#[],rfl,zc _ _ rfl,oe,by simp[maxLen],oe,oe⟩⟩
  have HR:Hid (Rd (w.alloc (.cells #[] 256)) 2 (.slice (some a) ps.length c) ps.length (plC ps)):=H.o.keep ((uur (fun _=>False) _).alloc _) (fun _ _ h=>h);have hone:∀u∈plC ps,u.oneCell'=true:=by intro u hu;simp only[plC,qzp]at hu;obtain⟨p,_,hp⟩:=hu;simp at hp;rcases hp with rfl|rfl<;>simp[Value.oneCell']
  go_enter func228,ntmps228
  go_wp2_with (at_builtin;refine zI rfl _ _ 320 rfl i0 (.agg #[.int .i64 0,.bool false]) 16 underlying320 hi hz0 hz1 hz2 rfl de rfl hs0 _ ps.length (plC ps) rfl HR.o hone oj oM ?_)
  intro v' w2 hs2 hu2 hb2;go_wp2
  go_ret
  refine⟨_,rfl,by simpa using hs2,?_,?_⟩
  .exact hb2.ge oe oD
  .refine zj ((qxl _ _).alloc (qXo _) _) hu2 (qXo _) oB
open Go Go.RowKit Go.Shelf Tryz
attribute [local go_sem] qYa
abbrev It9:=Nat×(Int×Bool)
abbrev zak(x:It9):Array Value:= #[.int .i64 (x.1:Int),zN x.2.1 x.2.2]
def Xc(qs:List (Int×Bool))(fr k:Nat):List It9:=if qs[k]?.getD (-1,false)=(-1,false)then[]else[(fr+k,qs[k]?.getD (-1,false))]
def visTo(qs:List (Int×Bool))(fr:Nat):Nat->List It9
 |0=>[]
 |k+1=>visTo qs fr k++Xc qs fr k
abbrev vis(qs:List (Int×Bool))(fr:Nat):List It9:=visTo qs fr qs.length
theorem ta{qs:List (Int×Bool)}{fr k:Nat}(hk:k<qs.length)(h:qs[k]≠(-1,false)):visTo qs fr (k+1)=visTo qs fr k++[(fr+k,qs[k])]:=by
 have e:qs[k]?.getD (-1,false)=qs[k]:=by simp[hk]
 simp[visTo,Xc,hk,h]
theorem vQ{qs:List (Int×Bool)}{fr k:Nat}(hk:k<qs.length)(h:qs[k]=(-1,false)):visTo qs fr (k+1)=visTo qs fr k:=by
 simp[visTo,Xc,hk,h]
theorem Tk(qs:List (Int×Bool))(fr k:Nat):(Xc qs fr k).length<=1:=by unfold Xc;split<;>simp
theorem Tl(qs:List (Int×Bool))(fr k:Nat):(visTo qs fr k).length<=k:=by
 induction k with
 |zero=>simp[visTo]
 |succ k ih=>have:=Tk qs fr k;simp only[visTo,qyy];omega
theorem uv(qs:List (Int×Bool))(fr:Nat){k m:Nat}(h:k<=m):visTo qs fr k<+:visTo qs fr m:=by
 induction m with
 |zero=>
  obtain rfl:k=0:=oM;exact List.prefix_rfl
 |succ m ih=>
  by_cases hk:k=m+1
  .subst hk;exact List.prefix_rfl
  .exact (ih oM).trans (List.prefix_append _ _)
theorem qT{β:Type}{B:Nat}{J:β->World->Prop}(hJ:AbidesFrom B J){s:β}{W W':World}(h:J s W)(hu:Upd (fun _=>False) W W'):J s W':=
 hJ s W W' none h ⟨hu.os,hu.tape,hu.output,hu.size,fun k hk _=>hu.block k hk id⟩ (fun r e=>by cases e)
end Go.Proofs.YtpejdgiccaijfaaGreatDoor
namespace Go.Proofs.YtpejdgiccaijfaaGreatDoor
open Go Go.RowKit Tryz
theorem JZ{w w':World}(h:Below w.drew.heap.size w.drew w'):Below w.heap.size w w':=⟨h.os,h.tape,h.output,h.size,h.block⟩
abbrev Ap(f n:Int):Value:=.agg #[.int .i64 f,.int .i64 n]
def spanL(ps:List (Int×Bool))(f n:Nat):List (Int×Bool):=(ps.drop f).take n
theorem Rb(ps:List (Int×Bool))(k:Nat):plC (ps.drop k)=(plC ps).drop (k*2):=by
 induction ps generalizing k with
 |nil=>simp[plC]
 |cons p ps ih=>
  cases k with
  |zero=>rfl
  |succ k=>
   rw[show(k+1)*2=k*2+1+1 by omega];simpa[plC]using ih k
theorem VL{w:World}{ps:List (Int×Bool)}{g o c:Nat}(h:Sl w 256 2 (.slice (some ⟨g,o,none⟩) ps.length c) ps.length (plC ps))(f:Nat)(hf:f<=ps.length):
  Rd w 2 (.slice (some ⟨g,o+f*2,none⟩) (ps.length-f) (c-f)) (ps.drop f).length (plC (ps.drop f)):=by
 obtain⟨hl,hm,ao,cc,hv,h0,hc⟩:=h.rd;cases hv;refine⟨Jv _,by rw[qza];omega,some ⟨g,o+f*2,none⟩,c-f,by rw[qza],(fun h=>by cases h),fun b hb j u hj=>?_⟩;cases hb;rw[Rb,qyi]at hj;have:=hc _ rfl (f*2+j) u hj;have e:(⟨g,o,none⟩:Addr).add (f*2+j)=(⟨g,o+f*2,none⟩:Addr).add j:=by rw[qxa,qxa,qXl]
 rw[<-e];exact this
theorem zdC{w:World}{b mb N:Nat}{v:Value}{ps:List (Int×Bool)}{slots:Nat}(h:IndexAt w b v mb N ps slots)(f n:Int)(ho:f<0\/n<0\/(ps.length:Int)<=f):
  Calls prog 164 #[.pointer (some ⟨b,0,none⟩),Ap f n] w fun e w'=>e=.returned (.func (.func 227) #[] #[])/\Below w.heap.size w w':=by
 have hu:Upd (fun _=>False) w (w.alloc (.cells #[.int .i64 f,.int .i64 n] 52)):=(uur _ _).alloc _;have g0:=(hu.cellAt (o:=0) h.blt id).trans (za h.str 0);simp at g0;have hle:=h.le;obtain⟨ao,c,rfl⟩:=h.sl.rd.jU;clear h hu;have ho':f<0\/(¬f<0/\n<0)\/(¬f<0/\¬n<0/\(ps.length:Int)<=f):=oM;clear ho;rcases ho' with h1|⟨h1,h2⟩|⟨h1,h2,h3⟩
 case' inr.inl=>
  have d1:decide (f<0)=false:=by simpa using h1
  have d2:decide (n<0)=true:=by simpa using h2
 case' inr.inr=>
  have d1:decide (f<0)=false:=by simpa using h1
  have d2:decide (n<0)=false:=by simpa using h2
  have d3:decide ((ps.length:Int)<=f)=true:=by simpa using h3
 all_goals
  go_enter func164,ntmps164
  go_wp2
  go_quiet(fail)
  go_wp2
  go_ret
  exact⟨rfl,zQ ((qxl _ _).alloc (qXo _) _) _⟩
theorem zal{w:World}{b mb N:Nat}{v:Value}{ps:List (Int×Bool)}{slots:Nat}(h:IndexAt w b v mb N ps slots)(f n:Nat)(hf:f<ps.length):
  Calls prog 164 #[.pointer (some ⟨b,0,none⟩),Ap f n] w fun e w'=>∃Bs Bp g off cap,e=.returned (.func (.func 229) #[] #[.pointer (some ⟨Bs,0,none⟩),.pointer (some ⟨Bp,0,none⟩)])/\
   (w.heap.size<=Bp/\w.heap.size<=g/\w.heap.size<=Bs)/\Bs<w'.heap.size/\Bp<w'.heap.size/\g<w'.heap.size/\w'.cell? ⟨Bs,0,none⟩=some (.slice (some ⟨g,off,none⟩) (spanL ps f n).length cap)/\w'.cell? ⟨Bp,0,none⟩=some (.int .i64 f)/\
   (∀j (h:j<(spanL ps f n).length),w'.cell? ⟨g,off+j*2,none⟩=some (.int .i64 (spanL ps f n)[j].1)/\w'.cell? ⟨g,off+j*2+1,none⟩=some (.bool (spanL ps f n)[j].2))/\Below w.heap.size w w':=by
 have hu:Upd (fun _=>False) w (w.alloc (.cells #[.int .i64 f,.int .i64 n] 52)):=(uur _ _).alloc _;have g0:=(hu.cellAt (o:=0) h.blt id).trans (za h.str 0);simp at g0;have hle:=h.le;have HI0:=qqh h;obtain⟨ao,c,rfl⟩:=h.sl.rd.jU;have d1:¬(f:Int)<0:=oM;have d2:¬(n:Int)<0:=oM;have d3:¬(ps.length:Int)<=f:=oM;clear h;go_enter func164,ntmps164
 go_wp2
 go_quiet(fail)
 go_wp2
 clear g0;generalize hw2:(w.alloc (.cells #[.int .i64 f,.int .i64 n] 52)).drewN nq=w2;have hu2:Upd (fun _=>False) w w2:=by rw[<-hw2];exact hu.drewN nq
 have hsp:w2.heap[w.heap.size]?=some (.cells #[.int .i64 f,.int .i64 n] 52):=by rw[<-hw2];exact zc w _ rfl
 have hz2:w2.heap.size=w.heap.size+1:=by rw[<-hw2];simp[World.drewN]
 clear hw2 hu;have t0:=za hsp 0;have t1:=za hsp 1;simp at t0 t1;have g0:=(hu2.cellAt (o:=0) HI0.o.blt id).trans (za HI0.o.str 0);simp at g0;obtain⟨gb,go,rfl,hgc1⟩:∃gb go,ao=some (⟨gb,go,none⟩:Addr)/\ps.length<=c:=by
  obtain⟨hl,⟨h1,h2⟩|⟨g',off',cap',cur,h1,hg,hn,_⟩⟩:=HI0.o.sl
  .omega
  .cases h1;exact⟨g',off',rfl,hn⟩
 have hua:Upd (fun _=>False) w2 (w2.alloc (.cells #[.slice none 0 0] 320)).drew:=((uur _ _).alloc _).drew;have HR:Hid (Rd (w2.alloc (.cells #[.slice none 0 0] 320)).drew 2 (.slice (some ⟨gb,go+f*2,none⟩) (ps.length-f) (c-f)) (ps.drop f).length (plC (ps.drop f))):=
  (VL (HI0.o.sl.keep hu2 (fun _ _ h=>h)) f oM).keep hua (fun _ _ h=>h)
 have HR2:Hid (Rd w2.drew 2 (.slice (some ⟨gb,go+f*2,none⟩) (ps.length-f) (c-f)) (ps.drop f).length (plC (ps.drop f))):=
  (VL (HI0.o.sl.keep hu2 (fun _ _ h=>h)) f oM).keep ((uur (fun _=>False) w2).drew) (fun _ _ h=>h)
 have HT2:Hid (w2.drew.cell? ⟨b,0,none⟩=some (.slice (some ⟨gb,go,none⟩) ps.length c)/\w2.drew.cell? ⟨w.heap.size,0,none⟩=some (.int .i64 f)/\w2.drew.cell? ⟨w.heap.size,1,none⟩=some (.int .i64 n)):=⟨g0,t0,t1⟩
 have hcf:¬c=f:=oM;have hfl:f<=ps.length:=oM;have hbl:=HI0.o.blt;have HT:Hid ((w2.alloc (.cells #[.slice none 0 0] 320)).drew.cell? ⟨b,0,none⟩=some (.slice (some ⟨gb,go,none⟩) ps.length c)/\(w2.alloc (.cells #[.slice none 0 0] 320)).drew.cell? ⟨w.heap.size,0,none⟩=some (.int .i64 f)/\
   (w2.alloc (.cells #[.slice none 0 0] 320)).drew.cell? ⟨w.heap.size,1,none⟩=some (.int .i64 n)/\(w2.alloc (.cells #[.slice none 0 0] 320)).drew.heap[w.heap.size+1]?=some (.cells #[.slice none 0 0] 320)):=
  ⟨(hua.cellAt oM id).trans g0,(hua.cellAt oM id).trans t0,(hua.cellAt oM id).trans t1,zc w2 _ hz2.symm⟩
 have hnb:¬w.heap.size+1=b:=oM
 go_region_held3 (fun W=>W.cell? ⟨b,0,none⟩=some (.slice (some ⟨gb,go,none⟩) ps.length c)/\W.cell? ⟨w.heap.size,0,none⟩=some (.int .i64 f)/\W.cell? ⟨w.heap.size,1,none⟩=some (.int .i64 n)) (go_keep)
  (first
  |((go_at_call 228;refine(qS HR2.o og og).mono ?_;rintro e w3 ⟨v',rfl,hs3,hf3,hb3⟩;obtain⟨ao',c',rfl⟩:=hs3.rd.jU;have k0:=(hb3.cell (p:=⟨b,0,none⟩) og).trans HT2.o.1;have k1:=(hb3.cell (p:=⟨w.heap.size,0,none⟩) og).trans HT2.o.2.1;have k2:=(hb3.cell (p:=⟨w.heap.size,1,none⟩) og).trans HT2.o.2.2))
  |((go_at_call 228;refine(qS HR.o og og).mono ?_;rintro e w3 ⟨v',rfl,hs3,hf3,hb3⟩;obtain⟨ao',c',rfl⟩:=hs3.rd.jU;have k0:=(hb3.cell (p:=⟨b,0,none⟩) og).trans HT.o.1;have k1:=(hb3.cell (p:=⟨w.heap.size,0,none⟩) og).trans HT.o.2.1;have k2:=(hb3.cell (p:=⟨w.heap.size,1,none⟩) og).trans HT.o.2.2.1;have kb:=(hb3.block (w.heap.size+1) og).trans HT.o.2.2.2;have k3:=za kb 0;have k4:=zf kb 0;simp at k3)))
 case' refine_2.refine_3.refine_3.refine_3.refine_3.refine_3.refine_3.refine_3.refine_1.refine_2.refine_1.refine_2.refine_1.refine_2=>
  have hw35:Upd (fun _=>False) w3 (w3.alloc (.cells #[.slice ao' (ps.length-f) c'] 320)):=(uur _ _).alloc _;have hbox:=zc w3 (.cells #[.slice ao' (ps.length-f) c'] 320) rfl;have hBb:=zj (zj (qxl _ w) hu2 (qXo _) (fun _ h=>h.elim)) (uuo (S:=fun _=>False) (JZ hb3)) (qXo _) (fun _ h=>h.elim);have hF:From w.heap.size (.slice ao' (ps.length-f) c'):=fun g hg=>by have:=hf3 g (by rw[qza];exact hg);simp at this;omega
  have hbs0:w.heap.size<=w3.heap.size:=hBb.size;have hs5:=hs3.keep hw35 (fun _ _ h=>h);have hB5:=zj hBb hw35 (qXo _) (fun _ h=>h.elim);have t5:=(hw35.cellAt (b:=w.heap.size) (o:=0) oK id).trans k1;have t6:=(hw35.cellAt (b:=w.heap.size) (o:=1) oK id).trans k2;have hbs1:w3.heap.size≠w.heap.size:=by have:=hb3.size;simp at this;omega
  clear hw35 hs3 hf3 hb3 k0 k1 k2 hBb;generalize (w3.alloc (.cells #[.slice ao' (ps.length-f) c'] 320))=w5 at*;generalize w3.heap.size=Bs at*
 rotate_left
 have hw35:Upd (fun j=>j=w.heap.size+1) w3 (w3.setCell ⟨w.heap.size+1,0,none⟩ (.slice ao' (ps.length-f) c')):=zi _ _ _ _;have hbox:=zh kb 0 (.slice ao' (ps.length-f) c');simp at hbox;have hBa:=zj (zj (qxl _ w) hu2 (qXo _) (fun _ h=>h.elim)) hua (qXo _) (fun _ h=>h.elim);have hBb:=zj hBa (uuo (S:=fun _=>False) hb3) (qXo _) (fun _ h=>h.elim);have hF:From w.heap.size (.slice ao' (ps.length-f) c'):=fun g hg=>by have:=hf3 g (by rw[qza];exact hg);simp at this;omega
 have hbs0:w.heap.size<=w.heap.size+1:=oM;have hs5:=hs3.keep hw35 (fun g hg e=>by have:=hf3 g hg;simp at this;omega);have hB5:=zj hBb hw35 (qXo _) (fun j e=>oM);have t5:=(hw35.cellAt (b:=w.heap.size) (o:=0) oK oM).trans k1;have t6:=(hw35.cellAt (b:=w.heap.size) (o:=1) oK oM).trans k2;have hbs1:w.heap.size+1≠w.heap.size:=oM;clear hw35 hs3 hf3 hb3 k0 k1 k2 k3 k4 kb hBa hBb hnb hua HT HT2 HR HR2;generalize (w3.setCell ⟨w.heap.size+1,0,none⟩ (.slice ao' (ps.length-f) c'))=w5 at*;generalize w.heap.size+1=Bs at*
 all_goals
  obtain⟨g',off',cap',cur,hve,hg',hcs,hcc⟩:=hs5.at og
 all_goals
  cases hve;have hel:Hid (∀j (h:j<(ps.drop f).length),w5.cell? ⟨g',off'+j*2,none⟩=some (.int .i64 (ps.drop f)[j].1)/\w5.cell? ⟨g',off'+j*2+1,none⟩=some (.bool (ps.drop f)[j].2)):=
   fun j h=>⟨(za hg' _).trans (hcc _ _ (wL h).1),(za hg' _).trans (hcc (j*2+1) _ (wL h).2)⟩
  have hgl:=zd hg';have hgf:=hF g' rfl;have hbl5:=zd hbox;have hcap:ps.length-f<=c':=by
   obtain⟨_,⟨h1,_⟩|⟨_,_,_,_,h1,_,h2,_⟩⟩:=hs5
   .cases h1
   .cases h1;simpa using h2
  have hgBs:g'≠Bs:=fun e=>by
   rw[e]at hg';rw[hg']at hbox;simp at hbox
  have y0:=za hbox 0;have y1:=zf hbox 0;simp at y0;have HBX:=qqh hbox;clear hcs hcc hg' hs5 hbox;by_cases hlt:(n:Int)<((ps.length-f:Nat):Int)
  .have hn1:n<=ps.length-f:=oM;have hn2:n<=c':=oM;have hL:Hid (spanL ps f n=(ps.drop f).take n):=rfl;have hLn:(spanL ps f n).length=n:=by simp[spanL];omega
   go_wp2
   go_ret
   have hus:Upd (fun j=>j=Bs) w5 (w5.setCell ⟨Bs,0,none⟩ (.slice (some ⟨g',off',none⟩) n c')):=zi _ _ _ _;have hspl:=(zJ t5).2;refine⟨Bs,w.heap.size,g',off',c',rfl,⟨qXo _,hgf,hbs0⟩,by rw[World.size_setCell];exact hbl5,by rw[World.size_setCell];exact hspl,by rw[World.size_setCell];exact hgl,?_,(hus.cellAt hspl (fun e=>hbs1 e.symm)).trans t5,?_,hB5.setCell (p:=⟨Bs,0,none⟩) hbs0 _⟩
   .rw [hLn,za (zh HBX.o 0 _)];simp
   .intro j hj;have hj2:j<(ps.drop f).length:=by rw[hLn]at hj;simp;omega
    have e:(spanL ps f n)[j]=(ps.drop f)[j]:=by simp[spanL]
    rw[e];exact⟨(hus.cellAt hgl (fun e=>hgBs e)).trans (hel.out j hj2).1,(hus.cellAt hgl (fun e=>hgBs e)).trans (hel.out j hj2).2⟩
  .go_wp2
   go_ret
   have hL:spanL ps f n=ps.drop f:=by unfold spanL;rw[qXj];simp;omega
   rw[hL];have hspl:=(zJ t5).2;exact⟨Bs,w.heap.size,rfl,g',⟨qXo _,hgf,hbs0⟩,hbl5,hspl,hgl,off',⟨c',by rw[qza];exact y0⟩,t5,hel.out,hB5⟩
open Go Go.RowKit Go.Shelf Tryz
attribute [local go_sem] qYa
theorem zam(n:Nat)(hn:2<=n)(S:Nat->Prop)(l Bs Bp b off cap:Nat)(qs:List (Int×Bool))(fr:Nat)
  (hle:qs.length<=4096) (hfr:fr<=4096) (hgood:∀k (h:k<qs.length),qs[k]=(-1,false)\/0<=qs[k].1) (hb:¬S b) (hBp:¬S Bp) (J Jx:List It9->World->Prop) (B0:Nat) (hJ:AbidesFrom B0 J)
  (hY:∀pre (x:It9) W,J pre W->pre++[x]<+:vis qs fr->YieldAt Fence.wide (n-1) prog l (zak x) W fun e W'=>
   (e=.returned (.bool true)/\J (pre++[x]) W'/\Upd S W W')\/(e=.returned (.bool false)/\Jx (pre++[x]) W'))
  (W:World) (hbW:b<W.heap.size) (hBpW:Bp<W.heap.size) (hBs:W.cell? ⟨Bs,0,none⟩=some (.slice (some ⟨b,off,none⟩) qs.length cap)) (hcp:W.cell? ⟨Bp,0,none⟩=some (.int .i64 fr))
  (hc:∀j (h:j<qs.length),W.cell? ⟨b,off+j*2,none⟩=some (.int .i64 qs[j].1)/\W.cell? ⟨b,off+j*2+1,none⟩=some (.bool qs[j].2)) (h0:J [] W):
  CallsIn Fence.wide n prog 229 #[.func (.yield l) #[] #[],.pointer (some ⟨Bs,0,none⟩),.pointer (some ⟨Bp,0,none⟩)] W fun e W'=>(∃v,e=.returned v)/\
   ((∃ys,ys=vis qs fr/\J ys W')\/(∃pre,pre<+:vis qs fr/\Jx pre W')):=by
 have hmix:prog.follows .mixedOrders=true:=kR;refine callsIn_of_wp func229 rfl trivial ?_ rfl;simp only[ntmps229,qXh,qyz,qzc,Nat.reduceAdd,Nat.reduceSub,qxi,qxj,qXb,qxy,qzu,qxz]
 gi_wp2
 refine wpIn_wide.2 (wp_scope_straight (wpIn_wide (n:=n).1 (wpIn_seq (wpIn_label ?_))))
 gi_wp2
 gi_loopw [8] (fun i wr=>∃k:Nat,k<=qs.length/\i=.int .i64 k/\J (visTo qs fr k) wr/\Upd S W wr)
  (fun i _=>qs.length-(intOf i).toNat)
 case atStart=>exact⟨0,qXy _,rfl,h0,uur _ _⟩
 case round=>
  obtain⟨k,hk,rfl,hJs,hnx⟩:=hrel;have hct':wr.cell? ⟨Bp,0,none⟩=some (.int .i64 fr):=(hnx.cellAt hBpW hBp).trans hcp;by_cases hlt:k<qs.length
  .have hc0:wr.cell? ⟨b,off+k*2,none⟩=some (.int .i64 qs[k].1):=(hnx.cellAt hbW hb).trans (hc k hlt).1;have hc1:wr.cell? ⟨b,off+k*2+1,none⟩=some (.bool qs[k].2):=(hnx.cellAt hbW hb).trans (hc k hlt).2;by_cases hq:qs[k]=(-1,false)
   .have HM:Hid (visTo qs fr (k+1)=visTo qs fr k):=vQ hlt hq;rw[hq]at hc0 hc1;clear hq;have HP0:Hid ((wr.alloc (.cells #[.int .i64 (-1),.bool false] 256)).drew.cell? ⟨wr.heap.size,0,none⟩=some (.int .i64 (-1))):=za (zc wr _ rfl) 0;have HP1:Hid ((wr.alloc (.cells #[.int .i64 (-1),.bool false] 256)).drew.cell? ⟨wr.heap.size,1,none⟩=some (.bool false)):=za (zc wr _ rfl) 1
    gi_wp2
    gi_region_with_o (first|refine⟨trivial,fun _=>oM,?_⟩|skip;gi_at_call 211;refine(callsIn_wide.2 (yS _)).mono ?_;rintro e w3 ⟨rfl,hu3,hz3⟩;have k0:=(hu3.cellAt oe id).trans HP0.o;have k1:=(hu3.cellAt oe id).trans HP1.o)
    all_goals
     have hu4:Upd (fun _=>False) wr w3:=((uur (fun _=>False) wr).alloc _).trans hu3.undrew;have HJ:=qqh (qT hJ hJs hu4);have HU:=qqh (hnx.trans (hu4.mono (S':=S) (fun _ _ h=>h.elim)));clear hu3 hz3 k0 k1 hu4
     gi_wp2
     go_roundw
     case rel=>exact⟨k+1,oM,oe,by rw[HM.o];exact HJ.o,HU.o⟩
     case measure=>simp[intOf];omega
   .have hs:0<=qs[k].1:=(hgood k hlt).resolve_left hq;have hsb:(qs[k].1== -1)=false:=by simp;omega
    have HM:Hid (visTo qs fr (k+1)=visTo qs fr k++[(fr+k,qs[k])]):=ta hlt hq;clear hq;have HP0:Hid ((wr.alloc (.cells #[.int .i64 qs[k].1,.bool qs[k].2] 256)).drew.cell? ⟨wr.heap.size,0,none⟩=some (.int .i64 qs[k].1)):=za (zc wr _ rfl) 0;have HP1:Hid ((wr.alloc (.cells #[.int .i64 qs[k].1,.bool qs[k].2] 256)).drew.cell? ⟨wr.heap.size,1,none⟩=some (.bool qs[k].2)):=za (zc wr _ rfl) 1
    gi_wp2
    gi_region_with_o (first|refine⟨trivial,fun _=>oM,?_⟩|skip;gi_at_call 211;refine(callsIn_wide.2 (yS _)).mono ?_;rintro e w3 ⟨rfl,hu3,hz3⟩;have k0:=(hu3.cellAt oe id).trans HP0.o;have k1:=(hu3.cellAt oe id).trans HP1.o)
    all_goals
     have hu4:Upd (fun _=>False) wr w3:=((uur (fun _=>False) wr).alloc _).trans hu3.undrew;have HJ:=qqh (qT hJ hJs hu4);have hnx4:=hnx.trans (hu4.mono (S':=S) (fun _ _ h=>h.elim));have c4:w3.cell? ⟨Bp,0,none⟩=some (.int .i64 fr):=(hnx4.cellAt hBpW hBp).trans hcp;have HU:=qqh hnx4;obtain⟨fn,tmps,assign,body,hy,hR⟩:=hY _ (fr+k,qs[k]) w3 HJ.o (by rw[<-HM.o];exact uv qs fr oM);simp only[zak,qxs]at hy;clear hu3 hz3 hu4 hnx4
     gi_wp2
     refine⟨fun _=>oM,?_⟩;refine hR.mono ?_;rintro e W3 (⟨rfl,hJ3,hk3⟩|⟨rfl,hJx3⟩)
     .have HJ3:=qqh hJ3;have HU3:=qqh (HU.o.trans (hk3.mono (fun _ _ h=>h)));clear hJ3 hk3 hR
      gi_wp2
      go_roundw
      case rel=>exact⟨k+1,oM,oe,by rw[HM.o];exact HJ3.o,HU3.o⟩
      case measure=>simp[intOf];omega
     .clear hR
      gi_wp2
      rw[qxq];refine qYp (qYu rfl _ _ _) rfl ?_;exact⟨⟨_,rfl⟩,.inr ⟨_,by rw[<-HM.o];exact uv qs fr oM,hJx3⟩⟩
  .obtain rfl:k=qs.length:=oM
   gi_wp2
   rw[Exit.noGoto_normal]
   go_end0
   exact⟨⟨_,rfl⟩,.inl ⟨_,rfl,hJs⟩⟩
abbrev ItM(qs:List (Int×Bool))(fr:Nat):={x:It9//x∈vis qs fr}
theorem Tm{L pre:List It9}{x:It9}(h:pre++[x]<+:L):x∈L/\pre.length<L.length:=by
 refine⟨h.subset oe,?_⟩;have:=h.length_le;simp at this;omega
theorem Tn(n:Nat)(hn:2<=n)(S:Nat->Prop)(Bs Bp b off cap:Nat)(qs:List (Int×Bool))(fr:Nat)(w:World)(hle:qs.length<=4096)(hfr:fr<=4096)(hgood:∀k (h:k<qs.length),qs[k]=(-1,false)\/0<=qs[k].1)
  (hb:b<w.heap.size) (hBp:Bp<w.heap.size) (hBs:Bs<w.heap.size) (hbS:¬S b) (hBpS:¬S Bp)
  (hcs:w.cell? ⟨Bs,0,none⟩=some (.slice (some ⟨b,off,none⟩) qs.length cap)) (hcp:w.cell? ⟨Bp,0,none⟩=some (.int .i64 fr))
  (hc:∀j (h:j<qs.length),w.cell? ⟨b,off+j*2,none⟩=some (.int .i64 qs[j].1)/\w.cell? ⟨b,off+j*2+1,none⟩=some (.bool qs[j].2)):
  SeqStopsK Fence.wide n prog 229 #[.pointer (some ⟨Bs,0,none⟩),.pointer (some ⟨Bp,0,none⟩)] (fun x:ItM qs fr=>zak x.1) (Upd S) (fun ys=>ys.map (·.1)=vis qs fr) (fun pre=>pre.map (·.1)<+:vis qs fr) (vis qs fr).length w:=fun l J Jx W hW hJ _ hY h0=>by
 refine(zam n hn S l Bs Bp b off cap qs fr hle hfr hgood hbS hBpS (fun ys X=>∃zs:List (ItM qs fr),zs.map (·.1)=ys/\J zs X) (fun ys X=>∃zs:List (ItM qs fr),zs.map (·.1)=ys/\Jx zs X) W.heap.size
  (fun ys X Y row h hg hr=>by obtain⟨zs,hz,h⟩:=h;exact⟨zs,hz,hJ zs X Y row h hg hr⟩) ?_ W (qXr hb hW.size) (qXr hBp hW.size) ((hW.cell (p:=⟨Bs,0,none⟩) hBs).trans hcs) ((hW.cell (p:=⟨Bp,0,none⟩) hBp).trans hcp)
  (fun j hj=>⟨(hW.cell (p:=⟨b,off+j*2,none⟩) hb).trans (hc j hj).1,(hW.cell (p:=⟨b,off+j*2+1,none⟩) hb).trans (hc j hj).2⟩) ⟨[],rfl,h0⟩).mono ?_
 .rintro pre x X ⟨zs,hz,hJz⟩ hp;obtain⟨hx,hl⟩:=Tm hp;obtain⟨fn,tmps,assign,body,hy,hR⟩:=hY zs ⟨x,hx⟩ X hJz (by have:=congrArg List.length hz;simp at this;omega);refine⟨fn,tmps,assign,body,hy,hR.mono ?_⟩;rintro e Y (⟨h1,h2,h3⟩|⟨h1,h2⟩)
  .exact .inl ⟨h1,⟨_,by rw[qzg,hz];rfl,h2⟩,h3⟩
  .exact .inr ⟨h1,⟨_,by rw[qzg,hz];rfl,h2⟩⟩
 .rintro e Y ⟨hv,⟨ys,hys,zs,hz,h⟩|⟨ys,hys,zs,hz,h⟩⟩
  .exact ⟨hv,.inl ⟨zs,hz.trans hys,h⟩⟩
  .exact ⟨hv,.inr ⟨zs,by show List.map (fun x=>x.val) zs<+:vis qs fr;rw[hz];exact hys,h⟩⟩
attribute [local go_sem] qYa
def Aq(x:It9)(pb:Nat)(W:World):Prop:=W.heap[pb]?=some (.cells #[.int .i64 x.2.1,.bool x.2.2] 256 (0,0))
theorem Wz{X Y:World}{row:Option Nat}{b:Nat}{cs:Array Value}{T:TypeId}(h:X.heap[b]?=some (.cells cs T (0,0)))(hg:X.grownBy Y row)(hr:∀r,row=some r->∃o:Obj,X.heap[r]?=some o/\o.isCells=false):Y.heap[b]?=some (.cells cs T (0,0)):=
 (hg.block b (Array.getElem?_eq_some_iff.1 h).1 (fun e=>by
  obtain⟨o,ho,hc⟩:=hr b e.symm;rw[h]at ho;cases ho;simp[Obj.isCells]at hc)).trans h
theorem To(B:Nat)(x:It9)(pb:Nat):OwnFrom B (fun(_:Unit) W=>Aq x pb W):=fun _ _ _ _ hs hg hr=>Wz hs hg (fun r e=>(hr r e).2)
end Go.Proofs.YtpejdgiccaijfaaGreatDoor
namespace Go.Proofs.YtpejdgiccaijfaaGreatDoor
open Go Tryz
def uw(o:Oper):Bool:=match o.op with
 | .defer _=>false
 |_=>true
theorem ZC{o:Oper}(h:uw o=true)(c:Call):o.op≠ .defer c:=by
 intro e;unfold uw at h;rw[e]at h;cases h
theorem wR(w:World)(d:Nat)(a c:Int)(b e:Bool):(Op.equalIn (d+1+1) 256 (.agg #[.int .i64 a,.bool b]) (.agg #[.int .i64 c,.bool e])).run prog w=.ok (a==c&&b==e) w:=by
 have hu:=underlying256;obtain⟨fs,hfs⟩:∃fs,prog.underlying 256=some (.struct fs):=⟨_,hu⟩
 have hF:prog.fieldsOf 256=fs:=by unfold Program.fieldsOf;rw[hfs]
 have hfe:=hfs.symm.trans hu;injection hfe with hfe
 injection hfe with hfe
 have h2:=fun(x y:Bool)=>run_equalIn_bool (P:=prog) w d 4 x y underlying4;rw[run_equalIn_struct w (d+1) _ _ _ (by rw[hF];exact hfs) kR,hF,hfe];by_cases hac:a=c
 .simp [Op.eqFields,go_sem,h2,hac,Result.andThen];by_cases hbe:b=e<;>simp[hbe]
 .simp [Op.eqFields,go_sem,hac,Result.andThen]
theorem rW(w:World)(a c:Int)(b d:Bool):(binOp .neq 256 (.agg #[.int .i64 a,.bool b]) (.agg #[.int .i64 c,.bool d])).run prog w=.ok (.bool (!(a==c&&b==d))) w:=by
 simp only[binOp];simp[show Op.equal 256 (.agg #[.int .i64 a,.bool b]) (.agg #[.int .i64 c,.bool d])=Op.equalIn (9998+1+1) 256 (.agg #[.int .i64 a,.bool b]) (.agg #[.int .i64 c,.bool d])from rfl,wR w 9998 a c b d]
section
variable{n l0:Nat}{P:Program}{ops:Array Oper}{Q:Exit->Act->World->Prop}
theorem Ea{row:String}{args:Array Value}{w:World}{R:Value->World->Prop}(h:Go.Rows P row args w R):RowsIn (Fence.wide.inRound l0) n P row args w R:=
 fun c cs _=>let⟨v,w',r,s⟩:=h c cs;⟨v,w',r,stepsIn_wide.2 s⟩
theorem Rc{f:FuncId}{args:Array Value}{w:World}{R:Ending->World->Prop}(h:Calls P f args w R):CallsIn (Fence.wide.inRound l0) n P f args w R:=
 CallsIn.inRound l0 (callsIn_wide.2 h)
theorem qU{o:Oper}{a:Act}{next:Act->World->Prop}{r:Result Next}(h:o.upon P a next Q r):o.uponIn (Fence.wide.inRound l0) n P a next Q r:=by
 unfold Oper.upon at h;split at h
 .exact h
 .exact h
 .exact h
 .exact ⟨(fun e=>by cases e),Rc h⟩
 .exact ⟨(fun e=>by cases e),Ea h⟩
 .exact h
 .exact h.elim
theorem qV(hQ:¬LetsOut Q)(hnd:∀(j:Nat) (o:Oper),ops[j]?=some o->uw o=true){i:Nat}{K K':Act->World->Prop}(hK:∀a w,K a w->K' a w){a:Act}{w:World}(h:wpOp P ops Q i K a w):
  wpOpIn (Fence.wide.inRound l0) n P ops Q i K' a w:=by
 have h':=wpOp_mono hK h;unfold wpOp at h';unfold wpOpIn;cases ho:ops[i]? with
 |none=>simp only[ho]at h'⊢;exact h'
 |some o=>
  have hnd':=hnd i o ho;simp only[ho]at h'⊢;by_cases hw:Region.wanted o (yielded ops a.tmps)=true
  .rw [if_pos hw]at h'⊢;rcases h' with h'|⟨-,h'⟩
   .refine ⟨fun _ _=>trivial,?_⟩;rw[show(Fence.wide.inRound l0).round=some l0 from rfl,qYa _ _ _ (ZC hnd')];exact qU h'
   .exact absurd h' hQ
  .rw [if_neg hw]at h'⊢;exact⟨fun _ _=>trivial,h'⟩
theorem xU(hQ:¬LetsOut Q)(md:Region.Mode)(hnd:∀(j:Nat) (o:Oper),ops[j]?=some o->uw o=true):∀(fuel:Nat) (listed:Array Bool) (a:Act) (w:World),
  wpAny P md ops Q fuel listed a w->wpAnyIn (Fence.wide.inRound l0) n P md ops Q fuel listed a w
 |0,_,_,_,h=>h
 |fuel+1,_,_,_,h=>⟨h.1,fun i hi=>qV hQ hnd (fun a' w' h'=>xU hQ md hnd fuel _ a' w' h') (h.2 i hi)⟩
theorem ww{S:World->Prop}{id:Nat}{a:Act}{w:World}{l:List Oper}(hQ:¬LetsOut Q)(hm:P.follows .mixedOrders=true)(hnd:l.all uw=true)(hS:S w.drew)
  (h:S w.drew->wpAnyH P .any l.toArray Q S l.toArray.size (Array.replicate l.toArray.size false) a w.drew):(Code.region id l.toArray true).wpIn (Fence.wide.inRound l0) n P Q a w:=
 wpIn_region_any hm (xU hQ .any (fun j o ho=>qxv.1 hnd o (by rw[qyq]at ho;exact List.mem_of_getElem? ho)) _ _ _ _ (wpAny_of_held _ _ _ _ (h hS)))
end
end Go.Proofs.YtpejdgiccaijfaaGreatDoor
namespace Go.Proofs.YtpejdgiccaijfaaGreatDoor
open Go Go.RowKit Tryz
theorem Xd{P:Prop}(h:P:=by
 have hmf:=qqf;have HF:=Y3 hf hR hxs;clear hf hR hxs;have hr:=zg (zc w (.cells xs.toArray n1d) rfl)
 go_enter_defers q2d,q3d
 go_wp2_with (first
  |(refine qYy rfl _ _ rfl _ _ rfl _ _ (qYi (qYi hr _) _) q4d rfl HF.o.2.2 ?_)
  |fail)
 show Calls _ _ _ (((w.alloc (.cells xs.toArray n1d)).alloc (.cells (bkC zB).toArray 60)).alloc (.cells #[.int .i64 0] 31)) _;obtain⟨h1,h2,h3,h4,h5⟩:=xp w (.cells xs.toArray n1d) (.cells (bkC zB).toArray 60) (.cells #[.int .i64 0] 31);clear hr;generalize ((w.alloc (.cells xs.toArray n1d)).alloc (.cells (bkC zB).toArray 60)).alloc (.cells #[.int .i64 0] 31)=w3 at*;refine(HF.o.1 w3 (Upd.below h5)).mono ?_;rintro e w4 ⟨ys,cd,hRR,rfl,hb4⟩;have g2:=(hb4.block _ (zd h2)).trans h2;have g3:=(hb4.block _ (zd h3)).trans h3;have hyl:=HF.o.2.1 ys cd hRR;have hth:w4.there (w.heap.size+1) 0 64:=fun j hj=>by
  rw[za g2,zf g2];exact⟨by rw[qXx,qxe oR];rfl,rfl⟩
 have hst:w4.there (w.heap.size+1) 0 ys.toArray.size:=by rw[show ys.toArray.size=64 by simpa using hyl.1];exact hth
 have hsz2:(prog.info? 60).map (·.size)=some ys.toArray.size:=by rw[show ys.toArray.size=64 by simpa using hyl.1];exact zF
 have g3':=((zo w4 (w.heap.size+1) 0 ys).block (w.heap.size+1+1) (zd g3) oM).trans g3;have c3:(w4.setCells (w.heap.size+1) 0 ys).cell? ⟨w.heap.size+1+1,0,none⟩=some (.int .i64 0):=za g3' 0;have z3:=zf g3' 0;have HX:=Y8 hst hsz2 hyl hRR hb4 h5 h4 hth;clear hst hsz2 hyl hRR hb4 h5 h4 h1 h2 h3 g2 g3 hth;go_wp2_with (first
  |(refine qZa rfl _ _ _ rfl _ _ ys.toArray rfl rfl HX.o.1 HX.o.2.1 (qYn HX.o.2.2.1.2) ?_)
  |fail)
 refine leaves_cons (f:=n5d) (args:= #[.pointer (some ⟨w.heap.size+1,0,none⟩),.pointer (some ⟨w.heap.size+1+1,0,none⟩)]) oe jM ?_;refine(q6d _ _ _).mono ?_;rintro e u' w'' ⟨rfl,rfl,rfl⟩;simp[Leaves,settle];have hst2:w4.there (w.heap.size+1) 0 ys.length:=by rw[HX.o.2.2.1.1];exact HX.o.2.2.2.2.2.2.2
 have r1:=qYk w4 (w.heap.size+1) 0 ys hst2;have r2:((w4.setCells (w.heap.size+1) 0 ys).setCell ⟨w.heap.size+1+1,0,none⟩ (.int .i64 cd)).rangeAt (w.heap.size+1) 0 ys:=zA r1 oM;have c4:((w4.setCells (w.heap.size+1) 0 ys).setCell ⟨w.heap.size+1+1,0,none⟩ (.int .i64 cd)).cell? ⟨w.heap.size+1+1,0,none⟩=some (.int .i64 cd):=World.cell?_setCell_same _ _ _ c3;refine⟨_,vH rfl _ _ (w.heap.size+1) 0 ys _ rfl r2 underlying60 rfl (by rw[HX.o.2.2.1.1];exact zF) (w.heap.size+1+1) _ rfl (qW c4),⟨ys,cd,HX.o.2.2.2.1,rfl,?_⟩⟩;refine zj (zj ((Upd.below HX.o.2.2.2.2.2.1).trans (HX.o.2.2.2.2.1.mono HX.o.2.2.2.2.2.1.size)) (zo w4 (w.heap.size+1) 0 ys) (qXo _) (fun k e=>oM)) (zi _ (w.heap.size+1+1) 0 _) (qXo _) (fun k e=>oM)):P:=h
theorem wS{P:Prop}(h:P:=by
 have hmf:=qqf;have HF:=Y3 hf hR hxs;clear hf hR hxs;have hr:=zg (zc w (.cells xs.toArray 60) rfl)
 go_enter_defers q7d,q8d
 go_wp2_with (first
  |(refine qYy rfl _ _ rfl _ _ rfl _ _ (qYi (qYi hr _) _) underlying60 rfl HF.o.2.2 ?_)
  |fail)
 show Calls _ _ _ (((w.alloc (.cells xs.toArray 60)).alloc (.cells zL.toArray n1d)).alloc (.cells #[.int .i64 0] 31)) _;obtain⟨h1,h2,h3,h4,h5⟩:=xp w (.cells xs.toArray 60) (.cells zL.toArray n1d) (.cells #[.int .i64 0] 31);clear hr;generalize ((w.alloc (.cells xs.toArray 60)).alloc (.cells zL.toArray n1d)).alloc (.cells #[.int .i64 0] 31)=w3 at*;refine(HF.o.1 w3 (Upd.below h5)).mono ?_;rintro e w4 ⟨ys,cd,hRR,rfl,hb4⟩;have g2:=(hb4.block _ (zd h2)).trans h2;have g3:=(hb4.block _ (zd h3)).trans h3;have hyl:=HF.o.2.1 ys cd hRR;have hth:w4.there (w.heap.size+1) 0 n9d:=fun j hj=>by
  rw[za g2,zf g2];exact⟨by rw[qXx,qxe (by simpa[zL]using hj)];rfl,rfl⟩
 have hst:w4.there (w.heap.size+1) 0 ys.toArray.size:=by rw[show ys.toArray.size=n9d by simpa using hyl.1];exact hth
 have hsz2:(prog.info? n1d).map (·.size)=some ys.toArray.size:=by rw[show ys.toArray.size=n9d by simpa using hyl.1];exact Eb
 have g3':=((zo w4 (w.heap.size+1) 0 ys).block (w.heap.size+1+1) (zd g3) oM).trans g3;have c3:(w4.setCells (w.heap.size+1) 0 ys).cell? ⟨w.heap.size+1+1,0,none⟩=some (.int .i64 0):=za g3' 0;have z3:=zf g3' 0;have HX:=Y8 hst hsz2 hyl hRR hb4 h5 h4 hth;clear hst hsz2 hyl hRR hb4 h5 h4 h1 h2 h3 g2 g3 hth;go_wp2_with (first
  |(refine qZa rfl _ _ _ rfl _ _ ys.toArray rfl rfl HX.o.1 HX.o.2.1 (qYn HX.o.2.2.1.2) ?_)
  |fail)
 refine leaves_cons (f:=zan) (args:= #[.pointer (some ⟨w.heap.size+1,0,none⟩),.pointer (some ⟨w.heap.size+1+1,0,none⟩)]) oe jM ?_;refine(zao _ _ _).mono ?_;rintro e u' w'' ⟨rfl,rfl,rfl⟩;simp[Leaves,settle];have hst2:w4.there (w.heap.size+1) 0 ys.length:=by rw[HX.o.2.2.1.1];exact HX.o.2.2.2.2.2.2.2
 have r1:=qYk w4 (w.heap.size+1) 0 ys hst2;have r2:((w4.setCells (w.heap.size+1) 0 ys).setCell ⟨w.heap.size+1+1,0,none⟩ (.int .i64 cd)).rangeAt (w.heap.size+1) 0 ys:=zA r1 oM;have c4:((w4.setCells (w.heap.size+1) 0 ys).setCell ⟨w.heap.size+1+1,0,none⟩ (.int .i64 cd)).cell? ⟨w.heap.size+1+1,0,none⟩=some (.int .i64 cd):=World.cell?_setCell_same _ _ _ c3;refine⟨_,vH rfl _ _ (w.heap.size+1) 0 ys _ rfl r2 q4d rfl (by rw[HX.o.2.2.1.1];exact Eb) (w.heap.size+1+1) _ rfl (qW c4),⟨ys,cd,HX.o.2.2.2.1,rfl,?_⟩⟩;refine zj (zj ((Upd.below HX.o.2.2.2.2.2.1).trans (HX.o.2.2.2.2.1.mono HX.o.2.2.2.2.2.1.size)) (zo w4 (w.heap.size+1) 0 ys) (qXo _) (fun k e=>oM)) (zi _ (w.heap.size+1+1) 0 _) (qXo _) (fun k e=>oM)):P:=h
namespace fGuardI
def zL:List Value:=[Value.int .i64 0,Value.int .i64 0,Value.int .i64 0,Value.int .i64 0]
end fGuardI
theorem vH{P:Program}{fn:Func}{p q:Tmp}{ty ty2:TypeId}(h:fn.results= #[.cell p ty,.cell q ty2])(tmps:Array Value)(w:World)(b o:Nat)(cs:List Value)(d:TypeDesc)
  (hp:tmps.getD p undef=.pointer (some ⟨b,o,none⟩)) (hc:w.rangeAt b o cs) (hu:P.underlying ty=some d) (hd:d.isRow=true) (hi:(P.info? ty).map (·.size)=some cs.length)
  (g:Nat) (v:Value) (hq:tmps.getD q undef=.pointer (some ⟨g,0,none⟩)) (hv:(loadVar ty2 ⟨g,0,none⟩).run P w=.ok v w):
  (results fn tmps).run P w=.ok (.tuple #[.agg cs.toArray,v]) w:=by
 have hp':tmps[p]?.getD undef=.pointer (some ⟨b,o,none⟩):=by simpa using hp
 have hq':tmps[q]?.getD undef=.pointer (some ⟨g,0,none⟩):=by simpa using hq
 simp[results,h,hp',hq',asAddr,run_loadVar_mid w b o ty cs d hc hu hd hi,hv,Sem.run_bind,Result.andThen]
theorem qW{w:World}{g:Nat}{cd:Int}(h:w.cell? ⟨g,0,none⟩=some (.int .i64 cd)):(loadVar 31 ⟨g,0,none⟩).run prog w=.ok (.int .i64 cd) w:=by
 simp[go_sem,h]
def yq(w:World)(R:List Value->Int->Prop)(e:Ending)(w':World):Prop:=∃ys cd,R ys cd/\e=.returned (.tuple #[.agg ys.toArray,.int .i64 cd])/\Below w.heap.size w w'
theorem ux(p q:Value)(w:World):
  CallsD prog 314 #[p,q] .returning w fun e u' w'=>e=.returned (.tuple #[])/\u'=.returning/\w'=w:=by
 refine callsD_of_wpS func314 rfl fun c₀ cs hu=>?_;apply wpS_seq;apply wpS_region;simp[wpOpsS,go_sem,recoverD,hu,ntmps314,Exit.thenS];refine wpS_cond (t:=false) ou ?_;simp only[Bool.false_eq_true,if_false];refine wpS_of_wp (wp_skip ?_);cases c₀
 simp_all[bodyPostS,results,results314]
namespace fGuardI
abbrev n1d:Nat:=117
theorem q2d:type_of% @func247:= @func247
theorem q3d:type_of% @ntmps247:= @ntmps247
theorem q4d:type_of% @underlying117:= @underlying117
abbrev n5d:Nat:=314
theorem q6d:type_of% @ux:= @ux
end fGuardI
open fGuardI in
theorem zdE{w:World}(xs:List Value)(hxs:(prog.info? 117).map (·.size)=some xs.length)(ff:Nat)(cc:Array Value)(ent:∀args w,(callFunc ff args).run prog w=.ok (.enter ff args) w)
  (R:List Value->Int->Prop) (hR:∀ys cd,R ys cd->ys.length=64/\∀v∈ys,v.oneCell'=true)
  (hf:∀W,Below w.heap.size w W->Calls prog ff (#[.agg xs.toArray]++cc) W (yq W R)):
  Calls prog 247 #[.func (.func ff) #[] cc,.agg xs.toArray] w (yq w R):=Xd
theorem uy(p q:Value)(w:World):
  CallsD prog 317 #[p,q] .returning w fun e u' w'=>e=.returned (.tuple #[])/\u'=.returning/\w'=w:=by
 refine callsD_of_wpS func317 rfl fun c₀ cs hu=>?_;apply wpS_seq;apply wpS_region;simp[wpOpsS,go_sem,recoverD,hu,ntmps317,Exit.thenS];refine wpS_cond (t:=false) ou ?_;simp only[Bool.false_eq_true,if_false];refine wpS_of_wp (wp_skip ?_);cases c₀
 simp_all[bodyPostS,results,results317]
namespace fGuardI
theorem q7d:type_of% @func249:= @func249
theorem q8d:type_of% @ntmps249:= @ntmps249
abbrev n9d:Nat:=4
theorem Eb:type_of% @uS:= @uS
abbrev zan:Nat:=317
theorem zao:type_of% @uy:= @uy
end fGuardI
open fGuardI in
theorem VM{w:World}(xs:List Value)(hxs:(prog.info? 60).map (·.size)=some xs.length)(ff:Nat)(cc:Array Value)(ent:∀args w,(callFunc ff args).run prog w=.ok (.enter ff args) w)
  (R:List Value->Int->Prop) (hR:∀ys cd,R ys cd->ys.length=4/\∀v∈ys,v.oneCell'=true)
  (hf:∀W,Below w.heap.size w W->Calls prog ff (#[.agg xs.toArray]++cc) W (yq W R)):
  Calls prog 249 #[.func (.func ff) #[] cc,.agg xs.toArray] w (yq w R):=wS
namespace fGuardI
end fGuardI
namespace fGuardC
def zL:List Value:=[Value.int .i64 0,Value.int .i64 0,Value.int .i64 0,Value.int .i64 0,Value.int .i64 0,Value.int .i64 0]
end fGuardC
theorem ZD:(prog.info? 187).map (·.size)=some 6:=kR
theorem uz(p q:Value)(w:World):
  CallsD prog 438 #[p,q] .returning w fun e u' w'=>e=.returned (.tuple #[])/\u'=.returning/\w'=w:=by
 refine callsD_of_wpS func438 rfl fun c₀ cs hu=>?_;apply wpS_seq;apply wpS_region;simp[wpOpsS,go_sem,recoverD,hu,ntmps438,Exit.thenS];refine wpS_cond (t:=false) ou ?_;simp only[Bool.false_eq_true,if_false];refine wpS_of_wp (wp_skip ?_);cases c₀
 simp_all[bodyPostS,results,results438]
namespace fGuardC
abbrev n1d:Nat:=187
theorem q2d:type_of% @func409:= @func409
theorem q3d:type_of% @ntmps409:= @ntmps409
theorem q4d:type_of% @underlying187:= @underlying187
abbrev n5d:Nat:=438
theorem q6d:type_of% @uz:= @uz
end fGuardC
theorem uA(p q:Value)(w:World):
  CallsD prog 250 #[p,q] .returning w fun e u' w'=>e=.returned (.tuple #[])/\u'=.returning/\w'=w:=by
 refine callsD_of_wpS func250 rfl fun c₀ cs hu=>?_;apply wpS_seq;apply wpS_region;simp[wpOpsS,go_sem,recoverD,hu,ntmps250,Exit.thenS];refine wpS_cond (t:=false) ou ?_;simp only[Bool.false_eq_true,if_false];refine wpS_of_wp (wp_skip ?_);cases c₀
 simp_all[bodyPostS,results,results250]
namespace fGuardC
theorem q7d:type_of% @func183:= @func183
theorem q8d:type_of% @ntmps183:= @ntmps183
abbrev n9d:Nat:=6
theorem Eb:type_of% @ZD:= @ZD
abbrev zan:Nat:=250
theorem zao:type_of% @uA:= @uA
end fGuardC
open fGuardC in
theorem VN{w:World}(xs:List Value)(hxs:(prog.info? 60).map (·.size)=some xs.length)(ff:Nat)(cc:Array Value)(ent:∀args w,(callFunc ff args).run prog w=.ok (.enter ff args) w)
  (R:List Value->Int->Prop) (hR:∀ys cd,R ys cd->ys.length=6/\∀v∈ys,v.oneCell'=true)
  (hf:∀W,Below w.heap.size w W->Calls prog ff (#[.agg xs.toArray]++cc) W (yq W R)):
  Calls prog 183 #[.func (.func ff) #[] cc,.agg xs.toArray] w (yq w R):=wS
namespace fGuardC
end fGuardC
namespace fGuardF
def zL:List Value:=[Value.int .i64 0,Value.int .i64 0,Value.int .i64 0,Value.int .i64 0,Value.int .i64 0,Value.int .i64 0,Value.int .i64 0,Value.int .i64 0,Value.int .i64 0,Value.int .i64 0,Value.int .i64 0,Value.int .i64 0,Value.int .i64 0]
end fGuardF
theorem ZE:(prog.info? 192).map (·.size)=some 13:=kR
theorem uB(p q:Value)(w:World):
  CallsD prog 439 #[p,q] .returning w fun e u' w'=>e=.returned (.tuple #[])/\u'=.returning/\w'=w:=by
 refine callsD_of_wpS func439 rfl fun c₀ cs hu=>?_;apply wpS_seq;apply wpS_region;simp[wpOpsS,go_sem,recoverD,hu,ntmps439,Exit.thenS];refine wpS_cond (t:=false) ou ?_;simp only[Bool.false_eq_true,if_false];refine wpS_of_wp (wp_skip ?_);cases c₀
 simp_all[bodyPostS,results,results439]
namespace fGuardF
abbrev n1d:Nat:=192
theorem q2d:type_of% @func410:= @func410
theorem q3d:type_of% @ntmps410:= @ntmps410
theorem q4d:type_of% @underlying192:= @underlying192
abbrev n5d:Nat:=439
theorem q6d:type_of% @uB:= @uB
end fGuardF
theorem uC(p q:Value)(w:World):
  CallsD prog 253 #[p,q] .returning w fun e u' w'=>e=.returned (.tuple #[])/\u'=.returning/\w'=w:=by
 refine callsD_of_wpS func253 rfl fun c₀ cs hu=>?_;apply wpS_seq;apply wpS_region;simp[wpOpsS,go_sem,recoverD,hu,ntmps253,Exit.thenS];refine wpS_cond (t:=false) ou ?_;simp only[Bool.false_eq_true,if_false];refine wpS_of_wp (wp_skip ?_);cases c₀
 simp_all[bodyPostS,results,results253]
namespace fGuardF
theorem q7d:type_of% @func185:= @func185
theorem q8d:type_of% @ntmps185:= @ntmps185
abbrev n9d:Nat:=13
theorem Eb:type_of% @ZE:= @ZE
abbrev zan:Nat:=253
theorem zao:type_of% @uC:= @uC
end fGuardF
open fGuardF in
theorem VO{w:World}(xs:List Value)(hxs:(prog.info? 60).map (·.size)=some xs.length)(ff:Nat)(cc:Array Value)(ent:∀args w,(callFunc ff args).run prog w=.ok (.enter ff args) w)
  (R:List Value->Int->Prop) (hR:∀ys cd,R ys cd->ys.length=13/\∀v∈ys,v.oneCell'=true)
  (hf:∀W,Below w.heap.size w W->Calls prog ff (#[.agg xs.toArray]++cc) W (yq W R)):
  Calls prog 185 #[.func (.func ff) #[] cc,.agg xs.toArray] w (yq w R):=wS
namespace fGuardF
end fGuardF
theorem wT{P:Prop}(h:P:=by
 have hfl:=h.good.fl;have e1:=WA zap _ _ _ zaq;have e2:=WA zar _ _ _ zas;have e3:=WA zau _ _ _ zav;have q1:decide ((base:Int)<0)=false:=oe;have q2:decide ((n:Int)<1)=false:=by simp;omega
 have q3:decide ((F.length:Int)<(base:Int))=false:=by simp;omega
 have q4:decide ((F.length:Int)-(base:Int)<(n:Int))=false:=by simp;omega
 have H:=qqh h;clear h;go_enter zaw,zax
 go_wp2_with (first|(go_at_call 78;refine(tw H.o).mono ?_;rintro e w' ⟨rfl,rfl⟩))
 go_ret2
 exact⟨rfl,⟨zc _ _ rfl⟩,(qxl _ _).alloc (qXo _) _⟩):P:=h
structure LogI(w:World)(l b base n fi:Nat):Prop where
 str:w.heap[l]?=some (.cells #[.pointer (some ⟨b,0,none⟩),.int .i64 (base:Int),.int .i64 (n:Int),.func (.func 148) #[] #[],.func (.func 149) #[] #[],.func (.func fi) #[] #[]] 336 (0,0))
theorem LogI.lt{w:World}{l b base n fi:Nat}(h:LogI w l b base n fi):l<w.heap.size:=zd h.str
theorem LogI.keep{w w':World}{l b base n fi:Nat}(h:LogI w l b base n fi){S:Nat->Prop}(hu:Upd S w w')(hs:¬S l):LogI w' l b base n fi:=⟨(hu.block l h.lt hs).trans h.str⟩
theorem LogI.below{w w':World}{l b base n fi:Nat}(h:LogI w l b base n fi)(hb:Below w.heap.size w w'):LogI w' l b base n fi:=h.keep (uuo (S:=fun _=>False) hb) id
theorem LogI.c{w:World}{l b base n fi:Nat}(h:LogI w l b base n fi):w.cell? ⟨l,0,none⟩=some (.pointer (some ⟨b,0,none⟩))/\w.cell? ⟨l,1,none⟩=some (.int .i64 (base:Int))/\w.cell? ⟨l,2,none⟩=some (.int .i64 (n:Int))/\
  w.cell? ⟨l,3,none⟩=some (.func (.func 148) #[] #[])/\w.cell? ⟨l,4,none⟩=some (.func (.func 149) #[] #[])/\w.cell? ⟨l,5,none⟩=some (.func (.func fi) #[] #[]):=
 ⟨za h.str 0,za h.str 1,za h.str 2,za h.str 3,za h.str 4,za h.str 5⟩
namespace fLogI
end fLogI
namespace fLogI
end fLogI
theorem WA(T:TypeId)(a b c)(h:prog.underlying T=some (.func a b c))(w:World)(fn:Fn)(xs ys:Array Value):(binOp .eql T (.func fn xs ys) .nilFunc).run prog w=.ok (.bool false) w:=by
 have:∀d,(Op.equalIn (d+1) T (.func fn xs ys) .nilFunc).run prog w=.ok false w:=fun d=>by simp[Op.equalIn,run_underlying h]
 simp only[binOp];simp[Op.equal,Op.maxDepth,this 9999]
namespace fLogI
abbrev zap:Nat:=237
theorem zaq:type_of% @underlying237:= @underlying237
abbrev zar:Nat:=238
theorem zas:type_of% @underlying238:= @underlying238
abbrev zau:Nat:=239
theorem zav:type_of% @underlying239:= @underlying239
theorem zaw:type_of% @func147:= @func147
theorem zax:type_of% @ntmps147:= @ntmps147
end fLogI
open fLogI in
theorem Ec{S:Nat->Prop}{w:World}{b:Nat}{F:List Bk}{O:List (Nat×Bk)}{P:List Int}(h:Dv S w b F O P)(base n:Nat)(hn:1<=n)(hbn:base+n<=F.length)(fi:Nat):
  Calls prog 147 #[.pointer (some ⟨b,0,none⟩),.int .i64 (base:Int),.int .i64 (n:Int),.func (.func 148) #[] #[],.func (.func 149) #[] #[],.func (.func fi) #[] #[]] w
   fun e w'=>e=.returned (.tuple #[.pointer (some ⟨w.heap.size,0,none⟩),.int .i64 0])/\LogI w' w.heap.size b base n fi/\Below w.heap.size w w':=wT
structure LogC(w:World)(l b base n fi:Nat):Prop where
 str:w.heap[l]?=some (.cells #[.pointer (some ⟨b,0,none⟩),.int .i64 (base:Int),.int .i64 (n:Int),.func (.func 152) #[] #[],.func (.func 153) #[] #[],.func (.func fi) #[] #[]] 277 (0,0))
theorem LogC.lt{w:World}{l b base n fi:Nat}(h:LogC w l b base n fi):l<w.heap.size:=zd h.str
theorem LogC.keep{w w':World}{l b base n fi:Nat}(h:LogC w l b base n fi){S:Nat->Prop}(hu:Upd S w w')(hs:¬S l):LogC w' l b base n fi:=⟨(hu.block l h.lt hs).trans h.str⟩
theorem LogC.below{w w':World}{l b base n fi:Nat}(h:LogC w l b base n fi)(hb:Below w.heap.size w w'):LogC w' l b base n fi:=h.keep (uuo (S:=fun _=>False) hb) id
theorem LogC.c{w:World}{l b base n fi:Nat}(h:LogC w l b base n fi):w.cell? ⟨l,0,none⟩=some (.pointer (some ⟨b,0,none⟩))/\w.cell? ⟨l,1,none⟩=some (.int .i64 (base:Int))/\w.cell? ⟨l,2,none⟩=some (.int .i64 (n:Int))/\
  w.cell? ⟨l,3,none⟩=some (.func (.func 152) #[] #[])/\w.cell? ⟨l,4,none⟩=some (.func (.func 153) #[] #[])/\w.cell? ⟨l,5,none⟩=some (.func (.func fi) #[] #[]):=
 ⟨za h.str 0,za h.str 1,za h.str 2,za h.str 3,za h.str 4,za h.str 5⟩
namespace fLogC
end fLogC
namespace fLogC
end fLogC
namespace fLogC
abbrev zap:Nat:=242
theorem zaq:type_of% @underlying242:= @underlying242
abbrev zar:Nat:=243
theorem zas:type_of% @underlying243:= @underlying243
abbrev zau:Nat:=244
theorem zav:type_of% @underlying244:= @underlying244
theorem zaw:type_of% @func151:= @func151
theorem zax:type_of% @ntmps151:= @ntmps151
end fLogC
open fLogC in
theorem Ed{S:Nat->Prop}{w:World}{b:Nat}{F:List Bk}{O:List (Nat×Bk)}{P:List Int}(h:Dv S w b F O P)(base n:Nat)(hn:1<=n)(hbn:base+n<=F.length)(fi:Nat):
  Calls prog 151 #[.pointer (some ⟨b,0,none⟩),.int .i64 (base:Int),.int .i64 (n:Int),.func (.func 152) #[] #[],.func (.func 153) #[] #[],.func (.func fi) #[] #[]] w
   fun e w'=>e=.returned (.tuple #[.pointer (some ⟨w.heap.size,0,none⟩),.int .i64 0])/\LogC w' w.heap.size b base n fi/\Below w.heap.size w w':=wT
structure LogF(w:World)(l b base n fi:Nat):Prop where
 str:w.heap[l]?=some (.cells #[.pointer (some ⟨b,0,none⟩),.int .i64 (base:Int),.int .i64 (n:Int),.func (.func 156) #[] #[],.func (.func 157) #[] #[],.func (.func fi) #[] #[]] 281 (0,0))
theorem LogF.lt{w:World}{l b base n fi:Nat}(h:LogF w l b base n fi):l<w.heap.size:=zd h.str
theorem LogF.keep{w w':World}{l b base n fi:Nat}(h:LogF w l b base n fi){S:Nat->Prop}(hu:Upd S w w')(hs:¬S l):LogF w' l b base n fi:=⟨(hu.block l h.lt hs).trans h.str⟩
theorem LogF.below{w w':World}{l b base n fi:Nat}(h:LogF w l b base n fi)(hb:Below w.heap.size w w'):LogF w' l b base n fi:=h.keep (uuo (S:=fun _=>False) hb) id
theorem LogF.c{w:World}{l b base n fi:Nat}(h:LogF w l b base n fi):w.cell? ⟨l,0,none⟩=some (.pointer (some ⟨b,0,none⟩))/\w.cell? ⟨l,1,none⟩=some (.int .i64 (base:Int))/\w.cell? ⟨l,2,none⟩=some (.int .i64 (n:Int))/\
  w.cell? ⟨l,3,none⟩=some (.func (.func 156) #[] #[])/\w.cell? ⟨l,4,none⟩=some (.func (.func 157) #[] #[])/\w.cell? ⟨l,5,none⟩=some (.func (.func fi) #[] #[]):=
 ⟨za h.str 0,za h.str 1,za h.str 2,za h.str 3,za h.str 4,za h.str 5⟩
namespace fLogF
end fLogF
namespace fLogF
end fLogF
namespace fLogF
abbrev zap:Nat:=247
theorem zaq:type_of% @underlying247:= @underlying247
abbrev zar:Nat:=248
theorem zas:type_of% @underlying248:= @underlying248
abbrev zau:Nat:=249
theorem zav:type_of% @underlying249:= @underlying249
theorem zaw:type_of% @func155:= @func155
theorem zax:type_of% @ntmps155:= @ntmps155
end fLogF
open fLogF in
theorem Ee{S:Nat->Prop}{w:World}{b:Nat}{F:List Bk}{O:List (Nat×Bk)}{P:List Int}(h:Dv S w b F O P)(base n:Nat)(hn:1<=n)(hbn:base+n<=F.length)(fi:Nat):
  Calls prog 155 #[.pointer (some ⟨b,0,none⟩),.int .i64 (base:Int),.int .i64 (n:Int),.func (.func 156) #[] #[],.func (.func 157) #[] #[],.func (.func fi) #[] #[]] w
   fun e w'=>e=.returned (.tuple #[.pointer (some ⟨w.heap.size,0,none⟩),.int .i64 0])/\LogF w' w.heap.size b base n fi/\Below w.heap.size w w':=wT
theorem zD{w:World}{p:Nat}{cs:Array Value}{t:TypeId}(h:w.heap[p]?=some (.cells cs t (0,0))){n:Nat}(hn:n<=cs.size):w.there p 0 n:=fun j hj=>by
 rw[za h,zf h];exact⟨by rw[qXx,qxe oM];rfl,rfl⟩
theorem wU{w:World}{p:Nat}{x y:Bk}{t:TypeId}(h:w.heap[p]?=some (.cells (bkC x).toArray t (0,0)))(hx:x.length=64)(hy:y.length=64):(w.setCells p 0 (bkC y)).heap[p]?=some (.cells (bkC y).toArray t (0,0)):=by
 obtain⟨cur',h2,h3,h4⟩:=zy (bkC y) 0 w p _ t (0,0) h;rw[h2];have:cur'=(bkC y).toArray:=by
  apply qxd
  intro k;have e:(bkC y).toArray[k]?=(bkC y)[k]?:=oe;rw[h4 k,e,zm,hy,zn _ hx];by_cases hk:k<64
  .rw [if_pos ⟨oM,oM,oM⟩];rfl
  .rw [if_neg oM,qxf (by rw[zn _ hx];omega),qyk (by rw[zm,hy];omega)]
 rw[this]
def Re(T:Nat->Prop)(b:Nat)(F:List Bk)(O:List (Nat×Bk))(P:List Int)(s:Nat)(w2:World)(s8 s6:Value)(wx:World):Prop:=
 ∃q z cd,s8=.pointer (some ⟨q,0,none⟩)/\s6=.int .i64 cd/\wx.heap[q]?=some (.cells (bkC z).toArray 60 (0,0))/\w2.heap.size<=q/\z=(if fate P=1 then zB else curB F O s)/\cd=(if fate P=1 then 19 else 0)/\z.length=64/\
  Dv (fun j=>T j/\j≠q) wx b F O P.tail/\Upd T w2 wx
def secL(base n k:Nat):List Int:=(List.range n).map fun i=>if i<k then((base+i:Nat):Int)else 0
theorem Xe(base n k:Nat):(secL base n k).length=n:=by simp[secL]
theorem Tp(base n:Nat):secL base n 0=List.replicate n 0:=by
 apply qyc
 .simp [secL]
 .intro i h1 h2;simp[secL]
theorem Rf(base n:Nat){k:Nat}(_hk:k<n):(secL base n k).set k ((base+k:Nat):Int)=secL base n (k+1):=by
 apply qyc
 .simp [secL]
 .intro i h1 h2;rw[qyw];simp only[secL,qyt,List.getElem_range];by_cases h:k=i
  .subst h;simp
  .rw [if_neg h];by_cases hl:i<k
   .rw [if_pos hl,if_pos oM]
   .rw [if_neg hl,if_neg oM]
theorem Rg(base n:Nat)(hn:n<=1024)(hb:base<=4096)(w:World):
  Calls prog 202 #[.int .i64 (base:Int),.int .i64 (n:Int)] w fun e w'=>∃g,e=.returned (.slice (some ⟨g,0,none⟩) n n)/\w'.heap[g]?=some (.cells (ints (secL base n n)).toArray 3 (0,0))/\w.heap.size<=g/\Below w.heap.size w w':=by
 have hmk:=YE n oM w;obtain⟨w1,hw1⟩:=qqe (w.alloc (.cells (ints (List.replicate n 0)).toArray 3));have hg:=zc w (.cells (ints (List.replicate n 0)).toArray 3) rfl;have hb1:Below w.heap.size w w1:=by rw[hw1];exact(qxl _ w).alloc (qXo _) _
 rw[<-hw1,<-Tp base n]at hg;have HW:=Y3 hw1 hg hb1;obtain⟨G,hG⟩:=qqe (w.heap.size);have HGG:=qqh hG;clear hg hb1 hw1 hG;go_enter func202,ntmps202
 go_upto_region 2 with fail
 rw[<-HW.o.1,<-HGG.o];clear hmk;go_wp2_with fail
 go_loopg[11] n (fun gk s11 wr=>∃k:Nat,k+gk=n/\s11=.int .i64 (k:Int)/\wr.heap[G]?=some (.cells (ints (secL base n k)).toArray 3 (0,0))/\Upd (fun j=>j=G) w1 wr)
 case atStart=>exact⟨0,oM,rfl,by rw[HGG.o];exact HW.o.2.1,uur _ _⟩
 case round=>
  obtain⟨k,hk,rfl,hg,hu⟩:=hrel;by_cases hlt:k<n
  .have k1:(k:Int)<(n:Int):=oM;have k0:(0:Int)<=(k:Int):=oM;have f0:=zf hg k;have c0:∃v,wr.cell? ⟨G,k,none⟩=some v:=by
    rw[za hg,qxe (by rw[qXh,xe,Xe];omega)];exact⟨_,rfl⟩
   obtain⟨v0,c0⟩:=c0;have hgs:=zh hg k (.int .i64 ((base+k:Nat):Int));rw[qXd,YF,Rf base n hlt]at hgs;have hus:=hu.trans (zi wr G k (.int .i64 ((base+k:Nat):Int)));have e1:((base+k:Nat):Int)=(base:Int)+(k:Int):=oe;rw[e1]at hgs hus;have HN:=Y2 hgs hus;clear hg hu hgs hus e1;go_wp2_with fail
   go_roundg (gk-1)
   case measure=>omega
   case rel=>exact⟨k+1,oM,by go_num,HN.o.1,HN.o.2⟩
  .obtain rfl:k=n:=oM;have k1:¬((k:Int)<(k:Int)):=oM;have HN:=Y2 hg hu;clear hg hu;go_wp2_with fail
   go_ret
   exact⟨G,rfl,HN.o.1,Nat.le_of_eq HGG.o.symm,zj HW.o.2.2 HN.o.2 (qXo _) (fun j hj=>Nat.le_of_eq (by rw[hj,HGG.o]))⟩
end Go.Proofs.YtpejdgiccaijfaaGreatDoor
