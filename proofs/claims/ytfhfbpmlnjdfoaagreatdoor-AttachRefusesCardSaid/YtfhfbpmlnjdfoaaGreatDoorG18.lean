/- A cache: Commi -/
import Derived.Test.YtfhfbpmlnjdfoaaGreatDoorG17
import Derived.BigRegionIn
import Derived.Shelf.RegionOpen
import Derived.Maps.OwnIn
import Derived.Deep.RegionHeld
set_option maxRecDepth 100000
set_option maxHeartbeats 2000000
namespace Go.Proofs.YtfhfbpmlnjdfoaaGreatDoor
open Go Go.RowKit Tryz
def CaS.fb(a:CaS):CaS:=a.kz (flushR a.bF a.bO a.bP)
def CaS.cm(n:CaN)(a:CaS):CaS:={a.dev (a.com n).1 with W:=(a.com n).2}
def CaS.kh(n:CaN)(a:CaS):CaS×Int:=
 if(flushR a.bF a.bO a.bP).cd≠0 then(a.fb,(flushR a.bF a.bO a.bP).cd)else if(a.fb.com n).1.cd≠0 then(a.fb.cm n,(a.fb.com n).1.cd)else({a.fb.cm n with st:=freeTo a.st (pos a.st 3)},0)
theorem vY{own:Nat->Nat}{w:World}{c:Nat}{n:CaN}{p:CaP}{a:CaS}(h:CaAt own w c n p a)(h1:∀q∈a.W,1<=q.1)(hO:a.dO.length+a.W.length<=65536):
  Calls prog 39 #[ptr c] w (zv own w c n p (a.kh n).1 (.int .i64 (a.kh n).2)):=by
 have HB:=qqh (xM h);obtain⟨-,d1,-,-,-,-,-,-,-⟩:=h.cells;have H:=Y2 h1 hO;clear h h1 hO;go_enter func39,ntmps39
 go_wp2_with fail
 refine HB.o.mono ?_;rintro e w1 ⟨rfl,own1,h1,hd1⟩;have hR:a.kh n=a.kh n:=rfl
 conv at hR=>rhs;unfold CaS.kh
 generalize hcd:(flushR a.bF a.bO a.bP).cd=cd at*;replace h1:CaAt own1 w1 c n p a.fb:=h1;obtain⟨-,-,-,e3,-,-,-,-,-⟩:=h1.cells;have HC:=qqh (Tm h1 H.o.1 H.o.2);have H1:=Y3 h1 hd1 hR;clear h1 hd1 hR HB d1 hcd;by_cases hc:cd=0
 .have HZ:=qqh hc;subst hc;go_wp2_with fail
  refine HC.o.mono ?_;rintro e w2 ⟨rfl,own2,h2,hd2⟩;obtain⟨h1,hd1,hR⟩:=H1.o;rw[if_neg oe]at hR;generalize (a.fb.com n).1.cd=cd2 at*;replace h2:CaAt own2 w2 c n p (a.fb.cm n):=h2;have HF:=qqh (Uc h2);have H2:=Y3 h2 (hd1.trans hd2) hR;clear h1 hd1 hR h2 hd2 e3;by_cases hc2:cd2=0
  .subst hc2;go_wp2_with fail
   refine HF.o.mono ?_;rintro e w3 ⟨rfl,own3,h3,hd3⟩;obtain⟨h2,hd2,hR⟩:=H2.o;rw[if_neg oe]at hR;have H3:=Y3 h3 (hd2.trans hd3) hR;clear h2 hd2 hR h3 hd3;go_wp2
   go_ret
   obtain⟨h3,hd3,hR⟩:=H3.o;rw[hR];exact⟨rfl,own3,h3,hd3⟩
  .have q0:(cd2==0)=false:=by simpa using hc2
   go_wp2
   go_ret
   obtain⟨h2,hd2,hR⟩:=H2.o;rw[if_pos hc2]at hR;rw[hR];exact⟨rfl,own2,h2,hd2⟩
 .have q0:(cd==0)=false:=by simpa using hc
  go_wp2
  go_ret
  obtain⟨h1,hd1,hR⟩:=H1.o;rw[if_pos hc]at hR;rw[hR];exact⟨rfl,own1,h1,hd1⟩
theorem zam:(prog.info? 95).map (fun i=>(i.zero,i.size,i.bytes))=some (some (.agg #[.int .i64 0,.bool false]),2,16):=kR
theorem rl{w:World}{v:Value}{ps:List (Int×Bool)}(h:Rd w 2 v ps.length (plC ps))(hle:ps.length<=4096)(hpos:0<ps.length):
  Calls prog 216 #[v] w fun e w'=>∃v',e=.returned v'/\Sl w' 95 2 v' ps.length (plC ps)/\From w.heap.size v'/\Below w.heap.size w w':=by
 obtain⟨i0,hi,hz0,hz1,hz2⟩:=qZa zam;have H:=qqh h;obtain⟨hl,hm,ao,c,rfl,h0,_⟩:=h;have q34:=fun(w:World) (a:Option Addr) (n c:Nat)=>Lib.run_eql_slice_nil (P:=prog) w 283 95 a n c 0 0 underlying283;cases ao with
 |none=>
  have hn:=h0 rfl;omega
 |some a=>
  clear h0 hl;have hs0:Sl (w.alloc (.cells #[] 95)) 95 2 (.slice (some ⟨w.heap.size,0,none⟩) 0 0) 0 []:=
   ⟨oe,.inr ⟨w.heap.size,0,0,#[],rfl,zc _ _ rfl,oe,by simp[maxLen],oe,oe⟩⟩
  have HR:Hid (Rd (w.alloc (.cells #[] 95)) 2 (.slice (some a) ps.length c) ps.length (plC ps)):=H.o.keep ((uur (fun _=>False) _).alloc _) (fun _ _ h=>h);have hone:∀u∈plC ps,u.oneCell'=true:=by intro u hu;simp only[plC,qzu]at hu;obtain⟨p,_,hp⟩:=hu;simp at hp;rcases hp with rfl|rfl<;>simp[Value.oneCell']
  go_enter func216,ntmps216
  go_wp2_with (at_builtin;refine zE rfl _ _ 283 rfl i0 (.agg #[.int .i64 0,.bool false]) 16 underlying283 hi hz0 hz1 hz2 rfl de rfl hs0 _ ps.length (plC ps) rfl HR.o hone og oM ?_)
  intro v' w2 hs2 hu2 hb2;go_wp2
  go_ret
  refine⟨_,rfl,by simpa using hs2,?_,?_⟩
  .exact hb2.ge oe oy
  .refine zk ((qxl _ _).alloc (qXv _) _) hu2 (qXv _) ou
open Go Go.RowKit Go.Shelf Tryz
attribute [local go_sem] qYh
abbrev It9:=Nat×(Int×Bool)
abbrev zan(x:It9):Array Value:= #[.int .i64 (x.1:Int),zM x.2.1 x.2.2]
def uJ(qs:List (Int×Bool))(fr k:Nat):List It9:=if qs[k]?.getD (-1,false)=(-1,false)then[]else[(fr+k,qs[k]?.getD (-1,false))]
def visTo(qs:List (Int×Bool))(fr:Nat):Nat->List It9
 |0=>[]
 |k+1=>visTo qs fr k++uJ qs fr k
abbrev vis(qs:List (Int×Bool))(fr:Nat):List It9:=visTo qs fr qs.length
theorem tp{qs:List (Int×Bool)}{fr k:Nat}(hk:k<qs.length)(h:qs[k]≠(-1,false)):visTo qs fr (k+1)=visTo qs fr k++[(fr+k,qs[k])]:=by
 have e:qs[k]?.getD (-1,false)=qs[k]:=by simp[hk]
 simp[visTo,uJ,hk,h]
theorem vZ{qs:List (Int×Bool)}{fr k:Nat}(hk:k<qs.length)(h:qs[k]=(-1,false)):visTo qs fr (k+1)=visTo qs fr k:=by
 simp[visTo,uJ,hk,h]
theorem Tv(qs:List (Int×Bool))(fr k:Nat):(uJ qs fr k).length<=1:=by unfold uJ;split<;>simp
theorem Tw(qs:List (Int×Bool))(fr k:Nat):(visTo qs fr k).length<=k:=by
 induction k with
 |zero=>simp[visTo]
 |succ k ih=>have:=Tv qs fr k;simp only[visTo,qzd];omega
theorem uK(qs:List (Int×Bool))(fr:Nat){k m:Nat}(h:k<=m):visTo qs fr k<+:visTo qs fr m:=by
 induction m with
 |zero=>
  obtain rfl:k=0:=oM;exact List.prefix_rfl
 |succ m ih=>
  by_cases hk:k=m+1
  .subst hk;exact List.prefix_rfl
  .exact (ih oM).trans (List.prefix_append _ _)
theorem rm{β:Type}{B:Nat}{J:β->World->Prop}(hJ:AbidesFrom B J){s:β}{W W':World}(h:J s W)(hu:Upd (fun _=>False) W W'):J s W':=
 hJ s W W' none h ⟨hu.os,hu.tape,hu.output,hu.size,fun k hk _=>hu.block k hk id⟩ (fun r e=>by cases e)
end Go.Proofs.YtfhfbpmlnjdfoaaGreatDoor
namespace Go.Proofs.YtfhfbpmlnjdfoaaGreatDoor
open Go Go.RowKit Tryz
theorem Eg{w w':World}(h:Below w.drew.heap.size w.drew w'):Below w.heap.size w w':=⟨h.os,h.tape,h.output,h.size,h.block⟩
abbrev Ad(f n:Int):Value:=.agg #[.int .i64 f,.int .i64 n]
def spanL(ps:List (Int×Bool))(f n:Nat):List (Int×Bool):=(ps.drop f).take n
theorem RD(ps:List (Int×Bool))(k:Nat):plC (ps.drop k)=(plC ps).drop (k*2):=by
 induction ps generalizing k with
 |nil=>simp[plC]
 |cons p ps ih=>
  cases k with
  |zero=>rfl
  |succ k=>
   rw[show(k+1)*2=k*2+1+1 by omega];simpa[plC]using ih k
theorem Ud{w:World}{ps:List (Int×Bool)}{g o c:Nat}(h:Sl w 95 2 (.slice (some ⟨g,o,none⟩) ps.length c) ps.length (plC ps))(f:Nat)(hf:f<=ps.length):
  Rd w 2 (.slice (some ⟨g,o+f*2,none⟩) (ps.length-f) (c-f)) (ps.drop f).length (plC (ps.drop f)):=by
 obtain⟨hl,hm,ao,cc,hv,h0,hc⟩:=h.rd;cases hv;refine⟨JE _,by rw[qzf];omega,some ⟨g,o+f*2,none⟩,c-f,by rw[qzf],(fun h=>by cases h),fun b hb j u hj=>?_⟩;cases hb;rw[RD,qym]at hj;have:=hc _ rfl (f*2+j) u hj;have e:(⟨g,o,none⟩:Addr).add (f*2+j)=(⟨g,o+f*2,none⟩:Addr).add j:=by rw[qxa,qxa,qXr]
 rw[<-e];exact this
theorem zdh{w:World}{b mb N:Nat}{v:Value}{ps:List (Int×Bool)}{slots:Nat}(h:IndexAt w b v mb N ps slots)(f n:Int)(ho:f<0\/n<0\/(ps.length:Int)<=f):
  Calls prog 153 #[.pointer (some ⟨b,0,none⟩),Ad f n] w fun e w'=>e=.returned (.func (.func 215) #[] #[])/\Below w.heap.size w w':=by
 have hu:Upd (fun _=>False) w (w.alloc (.cells #[.int .i64 f,.int .i64 n] 152)):=(uur _ _).alloc _;have g0:=(hu.cellAt (o:=0) h.blt id).trans (za h.str 0);simp at g0;have hle:=h.le;obtain⟨ao,c,rfl⟩:=h.sl.rd.j7;clear h hu;have ho':f<0\/(¬f<0/\n<0)\/(¬f<0/\¬n<0/\(ps.length:Int)<=f):=oM;clear ho;rcases ho' with h1|⟨h1,h2⟩|⟨h1,h2,h3⟩
 case' inr.inl=>
  have d1:decide (f<0)=false:=by simpa using h1
  have d2:decide (n<0)=true:=by simpa using h2
 case' inr.inr=>
  have d1:decide (f<0)=false:=by simpa using h1
  have d2:decide (n<0)=false:=by simpa using h2
  have d3:decide ((ps.length:Int)<=f)=true:=by simpa using h3
 all_goals
  go_enter func153,ntmps153
  go_wp2
  go_quiet(fail)
  go_wp2
  go_ret
  exact⟨rfl,zR ((qxl _ _).alloc (qXv _) _) _⟩
theorem zao{w:World}{b mb N:Nat}{v:Value}{ps:List (Int×Bool)}{slots:Nat}(h:IndexAt w b v mb N ps slots)(f n:Nat)(hf:f<ps.length):
  Calls prog 153 #[.pointer (some ⟨b,0,none⟩),Ad f n] w fun e w'=>∃Bs Bp g off cap,e=.returned (.func (.func 217) #[] #[.pointer (some ⟨Bs,0,none⟩),.pointer (some ⟨Bp,0,none⟩)])/\
   (w.heap.size<=Bp/\w.heap.size<=g/\w.heap.size<=Bs)/\Bs<w'.heap.size/\Bp<w'.heap.size/\g<w'.heap.size/\w'.cell? ⟨Bs,0,none⟩=some (.slice (some ⟨g,off,none⟩) (spanL ps f n).length cap)/\w'.cell? ⟨Bp,0,none⟩=some (.int .i64 f)/\
   (∀j (h:j<(spanL ps f n).length),w'.cell? ⟨g,off+j*2,none⟩=some (.int .i64 (spanL ps f n)[j].1)/\w'.cell? ⟨g,off+j*2+1,none⟩=some (.bool (spanL ps f n)[j].2))/\Below w.heap.size w w':=by
 have hu:Upd (fun _=>False) w (w.alloc (.cells #[.int .i64 f,.int .i64 n] 152)):=(uur _ _).alloc _;have g0:=(hu.cellAt (o:=0) h.blt id).trans (za h.str 0);simp at g0;have hle:=h.le;have HI0:=qqh h;obtain⟨ao,c,rfl⟩:=h.sl.rd.j7;have d1:¬(f:Int)<0:=oM;have d2:¬(n:Int)<0:=oM;have d3:¬(ps.length:Int)<=f:=oM;clear h;go_enter func153,ntmps153
 go_wp2
 go_quiet(fail)
 go_wp2
 clear g0;generalize hw2:(w.alloc (.cells #[.int .i64 f,.int .i64 n] 152)).drewN nq=w2;have hu2:Upd (fun _=>False) w w2:=by rw[<-hw2];exact hu.drewN nq
 have hsp:w2.heap[w.heap.size]?=some (.cells #[.int .i64 f,.int .i64 n] 152):=by rw[<-hw2];exact zc w _ rfl
 have hz2:w2.heap.size=w.heap.size+1:=by rw[<-hw2];simp[World.drewN]
 clear hw2 hu;have t0:=za hsp 0;have t1:=za hsp 1;simp at t0 t1;have g0:=(hu2.cellAt (o:=0) HI0.o.blt id).trans (za HI0.o.str 0);simp at g0;obtain⟨gb,go,rfl,hgc1⟩:∃gb go,ao=some (⟨gb,go,none⟩:Addr)/\ps.length<=c:=by
  obtain⟨hl,⟨h1,h2⟩|⟨g',off',cap',cur,h1,hg,hn,_⟩⟩:=HI0.o.sl
  .omega
  .cases h1;exact⟨g',off',rfl,hn⟩
 have hua:Upd (fun _=>False) w2 (w2.alloc (.cells #[.slice none 0 0] 283)).drew:=((uur _ _).alloc _).drew;have HR:Hid (Rd (w2.alloc (.cells #[.slice none 0 0] 283)).drew 2 (.slice (some ⟨gb,go+f*2,none⟩) (ps.length-f) (c-f)) (ps.drop f).length (plC (ps.drop f))):=
  (Ud (HI0.o.sl.keep hu2 (fun _ _ h=>h)) f oM).keep hua (fun _ _ h=>h)
 have HR2:Hid (Rd w2.drew 2 (.slice (some ⟨gb,go+f*2,none⟩) (ps.length-f) (c-f)) (ps.drop f).length (plC (ps.drop f))):=
  (Ud (HI0.o.sl.keep hu2 (fun _ _ h=>h)) f oM).keep ((uur (fun _=>False) w2).drew) (fun _ _ h=>h)
 have HT2:Hid (w2.drew.cell? ⟨b,0,none⟩=some (.slice (some ⟨gb,go,none⟩) ps.length c)/\w2.drew.cell? ⟨w.heap.size,0,none⟩=some (.int .i64 f)/\w2.drew.cell? ⟨w.heap.size,1,none⟩=some (.int .i64 n)):=⟨g0,t0,t1⟩
 have hcf:¬c=f:=oM;have hfl:f<=ps.length:=oM;have hbl:=HI0.o.blt;have HT:Hid ((w2.alloc (.cells #[.slice none 0 0] 283)).drew.cell? ⟨b,0,none⟩=some (.slice (some ⟨gb,go,none⟩) ps.length c)/\(w2.alloc (.cells #[.slice none 0 0] 283)).drew.cell? ⟨w.heap.size,0,none⟩=some (.int .i64 f)/\
   (w2.alloc (.cells #[.slice none 0 0] 283)).drew.cell? ⟨w.heap.size,1,none⟩=some (.int .i64 n)/\(w2.alloc (.cells #[.slice none 0 0] 283)).drew.heap[w.heap.size+1]?=some (.cells #[.slice none 0 0] 283)):=
  ⟨(hua.cellAt oM id).trans g0,(hua.cellAt oM id).trans t0,(hua.cellAt oM id).trans t1,zc w2 _ hz2.symm⟩
 have hnb:¬w.heap.size+1=b:=oM
 go_region_held3 (fun W=>W.cell? ⟨b,0,none⟩=some (.slice (some ⟨gb,go,none⟩) ps.length c)/\W.cell? ⟨w.heap.size,0,none⟩=some (.int .i64 f)/\W.cell? ⟨w.heap.size,1,none⟩=some (.int .i64 n)) (go_keep)
  (first
  |((go_at_call 216;refine(rl HR2.o oh oh).mono ?_;rintro e w3 ⟨v',rfl,hs3,hf3,hb3⟩;obtain⟨ao',c',rfl⟩:=hs3.rd.j7;have k0:=(hb3.cell (p:=⟨b,0,none⟩) oh).trans HT2.o.1;have k1:=(hb3.cell (p:=⟨w.heap.size,0,none⟩) oh).trans HT2.o.2.1;have k2:=(hb3.cell (p:=⟨w.heap.size,1,none⟩) oh).trans HT2.o.2.2))
  |((go_at_call 216;refine(rl HR.o oh oh).mono ?_;rintro e w3 ⟨v',rfl,hs3,hf3,hb3⟩;obtain⟨ao',c',rfl⟩:=hs3.rd.j7;have k0:=(hb3.cell (p:=⟨b,0,none⟩) oh).trans HT.o.1;have k1:=(hb3.cell (p:=⟨w.heap.size,0,none⟩) oh).trans HT.o.2.1;have k2:=(hb3.cell (p:=⟨w.heap.size,1,none⟩) oh).trans HT.o.2.2.1;have kb:=(hb3.block (w.heap.size+1) oh).trans HT.o.2.2.2;have k3:=za kb 0;have k4:=zg kb 0;simp at k3)))
 case' refine_2.refine_3.refine_3.refine_3.refine_3.refine_3.refine_3.refine_3.refine_1.refine_2.refine_1.refine_2.refine_1.refine_2=>
  have hw35:Upd (fun _=>False) w3 (w3.alloc (.cells #[.slice ao' (ps.length-f) c'] 283)):=(uur _ _).alloc _;have hbox:=zc w3 (.cells #[.slice ao' (ps.length-f) c'] 283) rfl;have hBb:=zk (zk (qxl _ w) hu2 (qXv _) (fun _ h=>h.elim)) (uuo (S:=fun _=>False) (Eg hb3)) (qXv _) (fun _ h=>h.elim);have hF:From w.heap.size (.slice ao' (ps.length-f) c'):=fun g hg=>by have:=hf3 g (by rw[qzf];exact hg);simp at this;omega
  have hbs0:w.heap.size<=w3.heap.size:=hBb.size;have hs5:=hs3.keep hw35 (fun _ _ h=>h);have hB5:=zk hBb hw35 (qXv _) (fun _ h=>h.elim);have t5:=(hw35.cellAt (b:=w.heap.size) (o:=0) oQ id).trans k1;have t6:=(hw35.cellAt (b:=w.heap.size) (o:=1) oQ id).trans k2;have hbs1:w3.heap.size≠w.heap.size:=by have:=hb3.size;simp at this;omega
  clear hw35 hs3 hf3 hb3 k0 k1 k2 hBb;generalize (w3.alloc (.cells #[.slice ao' (ps.length-f) c'] 283))=w5 at*;generalize w3.heap.size=Bs at*
 rotate_left
 have hw35:Upd (fun j=>j=w.heap.size+1) w3 (w3.setCell ⟨w.heap.size+1,0,none⟩ (.slice ao' (ps.length-f) c')):=zj _ _ _ _;have hbox:=zi kb 0 (.slice ao' (ps.length-f) c');simp at hbox;have hBa:=zk (zk (qxl _ w) hu2 (qXv _) (fun _ h=>h.elim)) hua (qXv _) (fun _ h=>h.elim);have hBb:=zk hBa (uuo (S:=fun _=>False) hb3) (qXv _) (fun _ h=>h.elim);have hF:From w.heap.size (.slice ao' (ps.length-f) c'):=fun g hg=>by have:=hf3 g (by rw[qzf];exact hg);simp at this;omega
 have hbs0:w.heap.size<=w.heap.size+1:=oM;have hs5:=hs3.keep hw35 (fun g hg e=>by have:=hf3 g hg;simp at this;omega);have hB5:=zk hBb hw35 (qXv _) (fun j e=>oM);have t5:=(hw35.cellAt (b:=w.heap.size) (o:=0) oQ oM).trans k1;have t6:=(hw35.cellAt (b:=w.heap.size) (o:=1) oQ oM).trans k2;have hbs1:w.heap.size+1≠w.heap.size:=oM;clear hw35 hs3 hf3 hb3 k0 k1 k2 k3 k4 kb hBa hBb hnb hua HT HT2 HR HR2;generalize (w3.setCell ⟨w.heap.size+1,0,none⟩ (.slice ao' (ps.length-f) c'))=w5 at*;generalize w.heap.size+1=Bs at*
 all_goals
  obtain⟨g',off',cap',cur,hve,hg',hcs,hcc⟩:=hs5.at oh
 all_goals
  cases hve;have hel:Hid (∀j (h:j<(ps.drop f).length),w5.cell? ⟨g',off'+j*2,none⟩=some (.int .i64 (ps.drop f)[j].1)/\w5.cell? ⟨g',off'+j*2+1,none⟩=some (.bool (ps.drop f)[j].2)):=
   fun j h=>⟨(za hg' _).trans (hcc _ _ (xL h).1),(za hg' _).trans (hcc (j*2+1) _ (xL h).2)⟩
  have hgl:=zf hg';have hgf:=hF g' rfl;have hbl5:=zf hbox;have hcap:ps.length-f<=c':=by
   obtain⟨_,⟨h1,_⟩|⟨_,_,_,_,h1,_,h2,_⟩⟩:=hs5
   .cases h1
   .cases h1;simpa using h2
  have hgBs:g'≠Bs:=fun e=>by
   rw[e]at hg';rw[hg']at hbox;simp at hbox
  have y0:=za hbox 0;have y1:=zg hbox 0;simp at y0;have HBX:=qqh hbox;clear hcs hcc hg' hs5 hbox;by_cases hlt:(n:Int)<((ps.length-f:Nat):Int)
  .have hn1:n<=ps.length-f:=oM;have hn2:n<=c':=oM;have hL:Hid (spanL ps f n=(ps.drop f).take n):=rfl;have hLn:(spanL ps f n).length=n:=by simp[spanL];omega
   go_wp2
   go_ret
   have hus:Upd (fun j=>j=Bs) w5 (w5.setCell ⟨Bs,0,none⟩ (.slice (some ⟨g',off',none⟩) n c')):=zj _ _ _ _;have hspl:=(zN t5).2;refine⟨Bs,w.heap.size,g',off',c',rfl,⟨qXv _,hgf,hbs0⟩,by rw[World.size_setCell];exact hbl5,by rw[World.size_setCell];exact hspl,by rw[World.size_setCell];exact hgl,?_,(hus.cellAt hspl (fun e=>hbs1 e.symm)).trans t5,?_,hB5.setCell (p:=⟨Bs,0,none⟩) hbs0 _⟩
   .rw [hLn,za (zi HBX.o 0 _)];simp
   .intro j hj;have hj2:j<(ps.drop f).length:=by rw[hLn]at hj;simp;omega
    have e:(spanL ps f n)[j]=(ps.drop f)[j]:=by simp[spanL]
    rw[e];exact⟨(hus.cellAt hgl (fun e=>hgBs e)).trans (hel.out j hj2).1,(hus.cellAt hgl (fun e=>hgBs e)).trans (hel.out j hj2).2⟩
  .go_wp2
   go_ret
   have hL:spanL ps f n=ps.drop f:=by unfold spanL;rw[qXp];simp;omega
   rw[hL];have hspl:=(zN t5).2;exact⟨Bs,w.heap.size,rfl,g',⟨qXv _,hgf,hbs0⟩,hbl5,hspl,hgl,off',⟨c',by rw[qzf];exact y0⟩,t5,hel.out,hB5⟩
open Go Go.RowKit Go.Shelf Tryz
attribute [local go_sem] qYh
section
variable{own own':Nat->Nat}{w w':World}{c:Nat}{n:CaN}{p:CaP}{a:CaS}
def Box(own:Nat->Nat)(w:World)(b:Nat)(o:Obj):Prop:=w.heap[b]?=some o/\own b=0
theorem Box.did{b:Nat}{o:Obj}(h:Box own w b o)(hd:Did own own' w w'):Box own' w' b o:=
 ⟨(hd.upd.block b (zf h.1) (fun hs=>hs.1 h.2)).trans h.1,(hd.old b (zf h.1)).trans h.2⟩
theorem Box.new{b:Nat}{o:Obj}(h:Box own w b o)(hu:Upd (fun _=>False) w w'):Box own w' b o:=⟨hu.j6 h.1,h.2⟩
theorem Box.made(hf:∀j,w.heap.size<=j->own j=0)(o:Obj):Box own (w.alloc o) w.heap.size o:=⟨zc w o rfl,hf _ (qXv _)⟩
theorem CaAt.kv(h:CaAt own w c n p a){S:Nat->Prop}(hu:Upd S w w')(hS:∀j,S j->own j=0/\j≠0/\j≠1):CaAt own w' c n p a:=by
 have hne:∀(k j:Nat),k≠0->own j=k->¬S j:=fun k j hk hj hs=>hk (hj.symm.trans (hS j hs).1);exact{h with
  str:=(hu.block c h.clt (hne 1 c de h.oc)).trans h.str
  ssd:=h.ssd.keep hu (fun j hj=>hne _ j de hj)
  back:=h.back.keep hu (fun j hj=>hne _ j de hj)
  jr:=(Jn.kU _ _ _ _ _ _ _).keep h.jr hu (fun j hj=>hne _ j de hj)
  ix:=(Ix.kU _ _ _ _).keep h.ix hu (fun j hj=>hne _ j de hj)
  ss:=(Ss.kU _ _).keep h.ss hu (fun j hj=>hne _ j de hj)
  lg:=(Lg.kU _ _ _).keep h.lg hu (fun j hj=>hne _ j de hj)
  ck:=h.ck.keep hu (fun j hj=>hne _ j de hj)
  sm:=(Mp.kU _ _ _).keep h.sm hu (fun j hj=>hne _ j de hj)
  far:=fun j hj=>h.far j (qXx hu.size hj)
  nib:=h.nib.keep hu (fun hs=>(hS _ hs).2.1 rfl)
  tur:=h.tur.keep hu (fun hs=>(hS _ hs).2.2 rfl)}
theorem Zc{b:Nat}{o:Obj}{u:Value}{i:Nat}{b2:Nat}(h:w.heap[b]?=some o)(ho:o.isCells=false)(hc:w.cell? ⟨b2,i,none⟩=some u):b≠b2:=by
 rintro rfl;cases o<;>simp[World.cell?,h,Obj.isCells]at hc ho
theorem uL(W:World)(l:Nat)(o':Obj):Upd (fun j=>j=l) W (W.putObj l o'):=
 ⟨rfl,rfl,rfl,by simp[World.putObj],fun k _ hk=>by
  simp only[World.putObj];rw[qxg (fun e=>hk e.symm)]⟩
theorem CaAt.putObj(h:CaAt own w c n p a){b:Nat}{o:Obj}(hb:Box own w b o)(ho:o.isCells=false)(o':Obj):CaAt own (w.putObj b o') c n p a:=
 h.kv (uL w b o') (fun j e=>by subst e;exact⟨hb.2,Zc hb.1 ho (h.nib.c 0 de),Zc hb.1 ho h.tur.c0⟩)
theorem Did.putObj(h:Did own own' w w'){b:Nat}(hb:w.heap.size<=b)(o':Obj):Did own own' w (w'.putObj b o'):=
 ⟨h.upd.new (uL w' b o') (fun i hi e=>oM),h.old,h.new,fun j hj=>h.far j (by simpa[World.putObj]using hj)⟩
def zcx(n:CaN)(a:CaS)(E:List Ent):CaS:=
 {a with bF:=flushF a.bF a.bO,bO:=[],bP:=[],dF:=flushF (flushF a.dF a.dO) (ckO (1+(1-a.which)*n.pa) n.pa (pagesB (a.next-1) E)),dO:=[],dP:=[],which:=1-a.which,cov:=a.next-1,W:=[],st:=freeTo a.st (pos a.st 3)}
end
attribute [local go_sem] qYh
theorem zap(n:Nat)(hn:2<=n)(S:Nat->Prop)(l Bs Bp b off cap:Nat)(qs:List (Int×Bool))(fr:Nat)
  (hle:qs.length<=4096) (hfr:fr<=4096) (hgood:∀k (h:k<qs.length),qs[k]=(-1,false)\/0<=qs[k].1) (hb:¬S b) (hBp:¬S Bp) (J Jx:List It9->World->Prop) (B0:Nat) (hJ:AbidesFrom B0 J)
  (hY:∀pre (x:It9) W,J pre W->pre++[x]<+:vis qs fr->YieldAt Fence.wide (n-1) prog l (zan x) W fun e W'=>
   (e=.returned (.bool true)/\J (pre++[x]) W'/\Upd S W W')\/(e=.returned (.bool false)/\Jx (pre++[x]) W'))
  (W:World) (hbW:b<W.heap.size) (hBpW:Bp<W.heap.size) (hBs:W.cell? ⟨Bs,0,none⟩=some (.slice (some ⟨b,off,none⟩) qs.length cap)) (hcp:W.cell? ⟨Bp,0,none⟩=some (.int .i64 fr))
  (hc:∀j (h:j<qs.length),W.cell? ⟨b,off+j*2,none⟩=some (.int .i64 qs[j].1)/\W.cell? ⟨b,off+j*2+1,none⟩=some (.bool qs[j].2)) (h0:J [] W):
  CallsIn Fence.wide n prog 217 #[.func (.yield l) #[] #[],.pointer (some ⟨Bs,0,none⟩),.pointer (some ⟨Bp,0,none⟩)] W fun e W'=>(∃v,e=.returned v)/\
   ((∃ys,ys=vis qs fr/\J ys W')\/(∃pre,pre<+:vis qs fr/\Jx pre W')):=by
 have hmix:prog.follows .mixedOrders=true:=kR;refine callsIn_of_wp func217 rfl trivial ?_ rfl;simp only[ntmps217,qXm,qze,qzh,Nat.reduceAdd,Nat.reduceSub,qxi,qxj,qXg,qxz,qzz,qya]
 gi_wp2
 refine wpIn_wide.2 (wp_scope_straight (wpIn_wide (n:=n).1 (wpIn_seq (wpIn_label ?_))))
 gi_wp2
 gi_loopw [8] (fun i wr=>∃k:Nat,k<=qs.length/\i=.int .i64 k/\J (visTo qs fr k) wr/\Upd S W wr)
  (fun i _=>qs.length-(intOf i).toNat)
 case atStart=>exact⟨0,qYf _,rfl,h0,uur _ _⟩
 case round=>
  obtain⟨k,hk,rfl,hJs,hnx⟩:=hrel;have hct':wr.cell? ⟨Bp,0,none⟩=some (.int .i64 fr):=(hnx.cellAt hBpW hBp).trans hcp;by_cases hlt:k<qs.length
  .have hc0:wr.cell? ⟨b,off+k*2,none⟩=some (.int .i64 qs[k].1):=(hnx.cellAt hbW hb).trans (hc k hlt).1;have hc1:wr.cell? ⟨b,off+k*2+1,none⟩=some (.bool qs[k].2):=(hnx.cellAt hbW hb).trans (hc k hlt).2;by_cases hq:qs[k]=(-1,false)
   .have HM:Hid (visTo qs fr (k+1)=visTo qs fr k):=vZ hlt hq;rw[hq]at hc0 hc1;clear hq;have HP0:Hid ((wr.alloc (.cells #[.int .i64 (-1),.bool false] 95)).drew.cell? ⟨wr.heap.size,0,none⟩=some (.int .i64 (-1))):=za (zc wr _ rfl) 0;have HP1:Hid ((wr.alloc (.cells #[.int .i64 (-1),.bool false] 95)).drew.cell? ⟨wr.heap.size,1,none⟩=some (.bool false)):=za (zc wr _ rfl) 1
    gi_wp2
    gi_region_with_o (first|refine⟨trivial,fun _=>oM,?_⟩|skip;gi_at_call 173;refine(callsIn_wide.2 (yW _)).mono ?_;rintro e w3 ⟨rfl,hu3,hz3⟩;have k0:=(hu3.cellAt oe id).trans HP0.o;have k1:=(hu3.cellAt oe id).trans HP1.o)
    all_goals
     have hu4:Upd (fun _=>False) wr w3:=((uur (fun _=>False) wr).alloc _).trans hu3.undrew;have HJ:=qqh (rm hJ hJs hu4);have HU:=qqh (hnx.trans (hu4.mono (S':=S) (fun _ _ h=>h.elim)));clear hu3 hz3 k0 k1 hu4
     gi_wp2
     go_roundw
     case rel=>exact⟨k+1,oM,oe,by rw[HM.o];exact HJ.o,HU.o⟩
     case measure=>simp[intOf];omega
   .have hs:0<=qs[k].1:=(hgood k hlt).resolve_left hq;have hsb:(qs[k].1== -1)=false:=by simp;omega
    have HM:Hid (visTo qs fr (k+1)=visTo qs fr k++[(fr+k,qs[k])]):=tp hlt hq;clear hq;have HP0:Hid ((wr.alloc (.cells #[.int .i64 qs[k].1,.bool qs[k].2] 95)).drew.cell? ⟨wr.heap.size,0,none⟩=some (.int .i64 qs[k].1)):=za (zc wr _ rfl) 0;have HP1:Hid ((wr.alloc (.cells #[.int .i64 qs[k].1,.bool qs[k].2] 95)).drew.cell? ⟨wr.heap.size,1,none⟩=some (.bool qs[k].2)):=za (zc wr _ rfl) 1
    gi_wp2
    gi_region_with_o (first|refine⟨trivial,fun _=>oM,?_⟩|skip;gi_at_call 173;refine(callsIn_wide.2 (yW _)).mono ?_;rintro e w3 ⟨rfl,hu3,hz3⟩;have k0:=(hu3.cellAt oe id).trans HP0.o;have k1:=(hu3.cellAt oe id).trans HP1.o)
    all_goals
     have hu4:Upd (fun _=>False) wr w3:=((uur (fun _=>False) wr).alloc _).trans hu3.undrew;have HJ:=qqh (rm hJ hJs hu4);have hnx4:=hnx.trans (hu4.mono (S':=S) (fun _ _ h=>h.elim));have c4:w3.cell? ⟨Bp,0,none⟩=some (.int .i64 fr):=(hnx4.cellAt hBpW hBp).trans hcp;have HU:=qqh hnx4;obtain⟨fn,tmps,assign,body,hy,hR⟩:=hY _ (fr+k,qs[k]) w3 HJ.o (by rw[<-HM.o];exact uK qs fr oM);simp only[zan,qxt]at hy;clear hu3 hz3 hu4 hnx4
     gi_wp2
     refine⟨fun _=>oM,?_⟩;refine hR.mono ?_;rintro e W3 (⟨rfl,hJ3,hk3⟩|⟨rfl,hJx3⟩)
     .have HJ3:=qqh hJ3;have HU3:=qqh (HU.o.trans (hk3.mono (fun _ _ h=>h)));clear hJ3 hk3 hR
      gi_wp2
      go_roundw
      case rel=>exact⟨k+1,oM,oe,by rw[HM.o];exact HJ3.o,HU3.o⟩
      case measure=>simp[intOf];omega
     .clear hR
      gi_wp2
      rw[qxr];refine qYw (qZc rfl _ _ _) rfl ?_;exact⟨⟨_,rfl⟩,.inr ⟨_,by rw[<-HM.o];exact uK qs fr oM,hJx3⟩⟩
  .obtain rfl:k=qs.length:=oM
   gi_wp2
   rw[Exit.noGoto_normal]
   go_end0
   exact⟨⟨_,rfl⟩,.inl ⟨_,rfl,hJs⟩⟩
abbrev ItM(qs:List (Int×Bool))(fr:Nat):={x:It9//x∈vis qs fr}
theorem Tx{L pre:List It9}{x:It9}(h:pre++[x]<+:L):x∈L/\pre.length<L.length:=by
 refine⟨h.subset oe,?_⟩;have:=h.length_le;simp at this;omega
theorem Ty(n:Nat)(hn:2<=n)(S:Nat->Prop)(Bs Bp b off cap:Nat)(qs:List (Int×Bool))(fr:Nat)(w:World)(hle:qs.length<=4096)(hfr:fr<=4096)(hgood:∀k (h:k<qs.length),qs[k]=(-1,false)\/0<=qs[k].1)
  (hb:b<w.heap.size) (hBp:Bp<w.heap.size) (hBs:Bs<w.heap.size) (hbS:¬S b) (hBpS:¬S Bp)
  (hcs:w.cell? ⟨Bs,0,none⟩=some (.slice (some ⟨b,off,none⟩) qs.length cap)) (hcp:w.cell? ⟨Bp,0,none⟩=some (.int .i64 fr))
  (hc:∀j (h:j<qs.length),w.cell? ⟨b,off+j*2,none⟩=some (.int .i64 qs[j].1)/\w.cell? ⟨b,off+j*2+1,none⟩=some (.bool qs[j].2)):
  SeqStopsK Fence.wide n prog 217 #[.pointer (some ⟨Bs,0,none⟩),.pointer (some ⟨Bp,0,none⟩)] (fun x:ItM qs fr=>zan x.1) (Upd S) (fun ys=>ys.map (·.1)=vis qs fr) (fun pre=>pre.map (·.1)<+:vis qs fr) (vis qs fr).length w:=fun l J Jx W hW hJ _ hY h0=>by
 refine(zap n hn S l Bs Bp b off cap qs fr hle hfr hgood hbS hBpS (fun ys X=>∃zs:List (ItM qs fr),zs.map (·.1)=ys/\J zs X) (fun ys X=>∃zs:List (ItM qs fr),zs.map (·.1)=ys/\Jx zs X) W.heap.size
  (fun ys X Y row h hg hr=>by obtain⟨zs,hz,h⟩:=h;exact⟨zs,hz,hJ zs X Y row h hg hr⟩) ?_ W (qXy hb hW.size) (qXy hBp hW.size) ((hW.cell (p:=⟨Bs,0,none⟩) hBs).trans hcs) ((hW.cell (p:=⟨Bp,0,none⟩) hBp).trans hcp)
  (fun j hj=>⟨(hW.cell (p:=⟨b,off+j*2,none⟩) hb).trans (hc j hj).1,(hW.cell (p:=⟨b,off+j*2+1,none⟩) hb).trans (hc j hj).2⟩) ⟨[],rfl,h0⟩).mono ?_
 .rintro pre x X ⟨zs,hz,hJz⟩ hp;obtain⟨hx,hl⟩:=Tx hp;obtain⟨fn,tmps,assign,body,hy,hR⟩:=hY zs ⟨x,hx⟩ X hJz (by have:=congrArg List.length hz;simp at this;omega);refine⟨fn,tmps,assign,body,hy,hR.mono ?_⟩;rintro e Y (⟨h1,h2,h3⟩|⟨h1,h2⟩)
  .exact .inl ⟨h1,⟨_,by rw[qzl,hz];rfl,h2⟩,h3⟩
  .exact .inr ⟨h1,⟨_,by rw[qzl,hz];rfl,h2⟩⟩
 .rintro e Y ⟨hv,⟨ys,hys,zs,hz,h⟩|⟨ys,hys,zs,hz,h⟩⟩
  .exact ⟨hv,.inl ⟨zs,hz.trans hys,h⟩⟩
  .exact ⟨hv,.inr ⟨zs,by show List.map (fun x=>x.val) zs<+:vis qs fr;rw[hz];exact hys,h⟩⟩
attribute [local go_sem] qYh
def Ae(x:It9)(pb:Nat)(W:World):Prop:=W.heap[pb]?=some (.cells #[.int .i64 x.2.1,.bool x.2.2] 95 (0,0))
theorem WN{X Y:World}{row:Option Nat}{b:Nat}{cs:Array Value}{T:TypeId}(h:X.heap[b]?=some (.cells cs T (0,0)))(hg:X.grownBy Y row)(hr:∀r,row=some r->∃o:Obj,X.heap[r]?=some o/\o.isCells=false):Y.heap[b]?=some (.cells cs T (0,0)):=
 (hg.block b (Array.getElem?_eq_some_iff.1 h).1 (fun e=>by
  obtain⟨o,ho,hc⟩:=hr b e.symm;rw[h]at ho;cases ho;simp[Obj.isCells]at hc)).trans h
theorem Tz(B:Nat)(x:It9)(pb:Nat):OwnFrom B (fun(_:Unit) W=>Ae x pb W):=fun _ _ _ _ hs hg hr=>WN hs hg (fun r e=>(hr r e).2)
end Go.Proofs.YtfhfbpmlnjdfoaaGreatDoor
namespace Go.Proofs.YtfhfbpmlnjdfoaaGreatDoor
open Go Tryz
def uM(o:Oper):Bool:=match o.op with
 | .defer _=>false
 |_=>true
theorem ZX{o:Oper}(h:uM o=true)(c:Call):o.op≠ .defer c:=by
 intro e;unfold uM at h;rw[e]at h;cases h
theorem vc(w:World)(d:Nat)(a c:Int)(b e:Bool):(Op.equalIn (d+1+1) 95 (.agg #[.int .i64 a,.bool b]) (.agg #[.int .i64 c,.bool e])).run prog w=.ok (a==c&&b==e) w:=by
 have hu:=underlying95;obtain⟨fs,hfs⟩:∃fs,prog.underlying 95=some (.struct fs):=⟨_,hu⟩
 have hF:prog.fieldsOf 95=fs:=by unfold Program.fieldsOf;rw[hfs]
 have hfe:=hfs.symm.trans hu;injection hfe with hfe
 injection hfe with hfe
 have h2:=fun(x y:Bool)=>run_equalIn_bool (P:=prog) w d 4 x y underlying4;rw[run_equalIn_struct w (d+1) _ _ _ (by rw[hF];exact hfs) kR,hF,hfe];by_cases hac:a=c
 .simp [Op.eqFields,go_sem,h2,hac,Result.andThen];by_cases hbe:b=e<;>simp[hbe]
 .simp [Op.eqFields,go_sem,hac,Result.andThen]
theorem sC(w:World)(a c:Int)(b d:Bool):(binOp .neq 95 (.agg #[.int .i64 a,.bool b]) (.agg #[.int .i64 c,.bool d])).run prog w=.ok (.bool (!(a==c&&b==d))) w:=by
 simp only[binOp];simp[show Op.equal 95 (.agg #[.int .i64 a,.bool b]) (.agg #[.int .i64 c,.bool d])=Op.equalIn (9998+1+1) 95 (.agg #[.int .i64 a,.bool b]) (.agg #[.int .i64 c,.bool d])from rfl,vc w 9998 a c b d]
section
variable{n l0:Nat}{P:Program}{ops:Array Oper}{Q:Exit->Act->World->Prop}
theorem Eh{row:String}{args:Array Value}{w:World}{R:Value->World->Prop}(h:Go.Rows P row args w R):RowsIn (Fence.wide.inRound l0) n P row args w R:=
 fun c cs _=>let⟨v,w',r,s⟩:=h c cs;⟨v,w',r,stepsIn_wide.2 s⟩
theorem RE{f:FuncId}{args:Array Value}{w:World}{R:Ending->World->Prop}(h:Calls P f args w R):CallsIn (Fence.wide.inRound l0) n P f args w R:=
 CallsIn.inRound l0 (callsIn_wide.2 h)
theorem rn{o:Oper}{a:Act}{next:Act->World->Prop}{r:Result Next}(h:o.upon P a next Q r):o.uponIn (Fence.wide.inRound l0) n P a next Q r:=by
 unfold Oper.upon at h;split at h
 .exact h
 .exact h
 .exact h
 .exact ⟨(fun e=>by cases e),RE h⟩
 .exact ⟨(fun e=>by cases e),Eh h⟩
 .exact h
 .exact h.elim
theorem ro(hQ:¬LetsOut Q)(hnd:∀(j:Nat) (o:Oper),ops[j]?=some o->uM o=true){i:Nat}{K K':Act->World->Prop}(hK:∀a w,K a w->K' a w){a:Act}{w:World}(h:wpOp P ops Q i K a w):
  wpOpIn (Fence.wide.inRound l0) n P ops Q i K' a w:=by
 have h':=wpOp_mono hK h;unfold wpOp at h';unfold wpOpIn;cases ho:ops[i]? with
 |none=>simp only[ho]at h'⊢;exact h'
 |some o=>
  have hnd':=hnd i o ho;simp only[ho]at h'⊢;by_cases hw:Region.wanted o (yielded ops a.tmps)=true
  .rw [if_pos hw]at h'⊢;rcases h' with h'|⟨-,h'⟩
   .refine ⟨fun _ _=>trivial,?_⟩;rw[show(Fence.wide.inRound l0).round=some l0 from rfl,qYh _ _ _ (ZX hnd')];exact rn h'
   .exact absurd h' hQ
  .rw [if_neg hw]at h'⊢;exact⟨fun _ _=>trivial,h'⟩
theorem xX(hQ:¬LetsOut Q)(md:Region.Mode)(hnd:∀(j:Nat) (o:Oper),ops[j]?=some o->uM o=true):∀(fuel:Nat) (listed:Array Bool) (a:Act) (w:World),
  wpAny P md ops Q fuel listed a w->wpAnyIn (Fence.wide.inRound l0) n P md ops Q fuel listed a w
 |0,_,_,_,h=>h
 |fuel+1,_,_,_,h=>⟨h.1,fun i hi=>ro hQ hnd (fun a' w' h'=>xX hQ md hnd fuel _ a' w' h') (h.2 i hi)⟩
theorem wF{S:World->Prop}{id:Nat}{a:Act}{w:World}{l:List Oper}(hQ:¬LetsOut Q)(hm:P.follows .mixedOrders=true)(hnd:l.all uM=true)(hS:S w.drew)
  (h:S w.drew->wpAnyH P .any l.toArray Q S l.toArray.size (Array.replicate l.toArray.size false) a w.drew):(Code.region id l.toArray true).wpIn (Fence.wide.inRound l0) n P Q a w:=
 wpIn_region_any hm (xX hQ .any (fun j o ho=>qxw.1 hnd o (by rw[qyv]at ho;exact List.mem_of_getElem? ho)) _ _ _ _ (wpAny_of_held _ _ _ _ (h hS)))
end
end Go.Proofs.YtfhfbpmlnjdfoaaGreatDoor
namespace Go.Proofs.YtfhfbpmlnjdfoaaGreatDoor
open Go Go.RowKit Go.Maps Tryz
theorem MapAt.look1{w:World}{mb N:Nat}{f:Int->Option Nat}(h:MapAt w mb N f){x:Int}(h1: -9223372036854775808<=x)(h2:x<9223372036854775808):
  (Instr.lookup 116 (.map (some mb)) (.int .i64 x) false).run prog w=.ok (.int .i64 (((f x).getD 0:Nat):Int)) w:=by
 obtain⟨D,ho,hf⟩:=h;obtain⟨v,ps,hr,hv⟩:=ho.lookup yC underlying116 (QO w) (plainElem_int underlying3 de) (qc h1 h2);obtain⟨c,rfl,hc,hwc⟩:=plainElem_int_inv underlying3 hv;simp only[qYk]at hc;rw[hr];have:c=(((f x).getD 0:Nat):Int):=by
  cases hx:f x with
  |none=>
   have h0:=(hf x).1;rw[hx]at h0;have:=atKey_of_not_has (D:=D) h0 (.lit (.int .i64 0));rw[this]at hc;simp at hc;simpa using hc.1.symm
  |some c'=>
   have:=(hf x).2 c' hx (.lit (.int .i64 0));rw[this]at hc;simp at hc;simpa using hc.1.symm
 rw[this]
end Go.Proofs.YtfhfbpmlnjdfoaaGreatDoor
