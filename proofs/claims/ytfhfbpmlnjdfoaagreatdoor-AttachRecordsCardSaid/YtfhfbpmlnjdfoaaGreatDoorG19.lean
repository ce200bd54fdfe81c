/- The index: Copy. The iterator over the blocks  -/
import Derived.BigRegionIn
import Derived.Shelf.RegionOpen
import Derived.Test.YtfhfbpmlnjdfoaaGreatDoorG18
set_option maxRecDepth 100000
set_option maxHeartbeats 1000000
namespace Go.Proofs.YtfhfbpmlnjdfoaaGreatDoor
open Go Go.RowKit
theorem JU:(Tryz.prog.info? 95).map (fun i=>(i.zero,i.size,i.bytes))=some (some (.agg #[.int .i64 0,.bool false]),2,16):=by kernel_rfl
theorem qn{w:World}{v:Value}{ps:List (Int×Bool)}(h:Rd w 2 v ps.length (plC ps))(hle:ps.length<=4096)(hpos:0<ps.length):
  Calls Tryz.prog 216 #[v] w fun e w'=>∃v',e=.returned v'/\Sl w' 95 2 v' ps.length (plC ps)/\From w.heap.size v'/\Below w.heap.size w w':=by
 obtain⟨i0,hi,hz0,hz1,hz2⟩:=qZa JU;have H:=qqh h;obtain⟨hl,hm,ao,c,rfl,h0,_⟩:=h;have q34:=fun(w:World) (a:Option Addr) (n c:Nat)=>Lib.run_eql_slice_nil (P:=Tryz.prog) w 283 95 a n c 0 0 Tryz.underlying283;cases ao with
 |none=>
  have hn:=h0 rfl;omega
 |some a=>
  clear h0 hl;have hs0:Sl (w.alloc (.cells #[] 95)) 95 2 (.slice (some ⟨w.heap.size,0,none⟩) 0 0) 0 []:=
   ⟨by simp,.inr ⟨w.heap.size,0,0,#[],rfl,zc _ _ rfl,by simp,by simp[maxLen],by simp,by simp⟩⟩
  have HR:Hid (Rd (w.alloc (.cells #[] 95)) 2 (.slice (some a) ps.length c) ps.length (plC ps)):=H.o.keep ((uur (fun _=>False) _).alloc _) (fun _ _ h=>h);have hone:∀u∈plC ps,u.oneCell'=true:=by intro u hu;simp only[plC,qzu]at hu;obtain⟨p,_,hp⟩:=hu;simp at hp;rcases hp with rfl|rfl<;>simp[Value.oneCell']
  go_enter Tryz.func216,Tryz.ntmps216
  go_wp2_with (at_builtin;refine zK rfl _ _ 283 rfl i0 (.agg #[.int .i64 0,.bool false]) 16 Tryz.underlying283 hi hz0 hz1 hz2 rfl (by decide) rfl hs0 _ ps.length (plC ps) rfl HR.o hone (by unfold maxLen;omega) (by omega) ?_)
  intro v' w2 hs2 hu2 hb2;go_wp2
  go_ret
  refine⟨_,rfl,by simpa using hs2,?_,?_⟩
  .exact hb2.ge (by simp) (by intro g hg;simp[Value.ownBlock]at hg;omega)
  .refine zj ((qxl _ _).alloc (qXv _) _) hu2 (qXv _) (by intro k hk;simp[ownS,Value.ownBlock]at hk;omega)
open Go Go.RowKit Go.Shelf
attribute [local go_sem] qYh
abbrev It9:=Nat×(Int×Bool)
abbrev JV(x:It9):Array Value:= #[.int .i64 (x.1:Int),zN x.2.1 x.2.2]
def vY(qs:List (Int×Bool))(fr k:Nat):List It9:=if qs[k]?.getD (-1,false)=(-1,false)then[]else[(fr+k,qs[k]?.getD (-1,false))]
def visTo(qs:List (Int×Bool))(fr:Nat):Nat->List It9
 |0=>[]
 |k+1=>visTo qs fr k++vY qs fr k
abbrev vis(qs:List (Int×Bool))(fr:Nat):List It9:=visTo qs fr qs.length
theorem uG{qs:List (Int×Bool)}{fr k:Nat}(hk:k<qs.length)(h:qs[k]≠(-1,false)):visTo qs fr (k+1)=visTo qs fr k++[(fr+k,qs[k])]:=by
 have e:qs[k]?.getD (-1,false)=qs[k]:=by simp[hk]
 simp[visTo,vY,hk,h]
theorem vv{qs:List (Int×Bool)}{fr k:Nat}(hk:k<qs.length)(h:qs[k]=(-1,false)):visTo qs fr (k+1)=visTo qs fr k:=by
 simp[visTo,vY,hk,h]
theorem VR(qs:List (Int×Bool))(fr k:Nat):(vY qs fr k).length<=1:=by unfold vY;split<;>simp
theorem VS(qs:List (Int×Bool))(fr k:Nat):(visTo qs fr k).length<=k:=by
 induction k with
 |zero=>simp[visTo]
 |succ k ih=>have:=VR qs fr k;simp only[visTo,qzd];omega
theorem vZ(qs:List (Int×Bool))(fr:Nat){k m:Nat}(h:k<=m):visTo qs fr k<+:visTo qs fr m:=by
 induction m with
 |zero=>
  obtain rfl:k=0:=by omega
  exact List.prefix_rfl
 |succ m ih=>
  by_cases hk:k=m+1
  .subst hk;exact List.prefix_rfl
  .exact (ih (by omega)).trans (List.prefix_append _ _)
theorem qo{β:Type}{B:Nat}{J:β->World->Prop}(hJ:AbidesFrom B J){s:β}{W W':World}(h:J s W)(hu:Upd (fun _=>False) W W'):J s W':=
 hJ s W W' none h ⟨hu.os,hu.tape,hu.output,hu.size,fun k hk _=>hu.block k hk (fun h=>h)⟩ (fun r e=>by cases e)
end Go.Proofs.YtfhfbpmlnjdfoaaGreatDoor
namespace Go.Proofs.YtfhfbpmlnjdfoaaGreatDoor
open Go Go.RowKit
theorem Sf{w w':World}(h:Below w.drew.heap.size w.drew w'):Below w.heap.size w w':=⟨h.os,h.tape,h.output,h.size,h.block⟩
abbrev Jo(f n:Int):Value:=.agg #[.int .i64 f,.int .i64 n]
def spanL(ps:List (Int×Bool))(f n:Nat):List (Int×Bool):=(ps.drop f).take n
theorem TH(ps:List (Int×Bool))(k:Nat):plC (ps.drop k)=(plC ps).drop (k*2):=by
 induction ps generalizing k with
 |nil=>simp[plC]
 |cons p ps ih=>
  cases k with
  |zero=>rfl
  |succ k=>
   rw[show(k+1)*2=k*2+1+1 by omega];simpa[plC]using ih k
theorem WF{w:World}{ps:List (Int×Bool)}{g o c:Nat}(h:Sl w 95 2 (.slice (some ⟨g,o,none⟩) ps.length c) ps.length (plC ps))(f:Nat)(hf:f<=ps.length):
  Rd w 2 (.slice (some ⟨g,o+f*2,none⟩) (ps.length-f) (c-f)) (ps.drop f).length (plC (ps.drop f)):=by
 obtain⟨hl,hm,ao,cc,hv,h0,hc⟩:=h.rd;cases hv;refine⟨RD _,by rw[qzf];omega,some ⟨g,o+f*2,none⟩,c-f,by rw[qzf],(fun h=>by cases h),fun b hb j u hj=>?_⟩;cases hb;rw[TH,qym]at hj;have:=hc _ rfl (f*2+j) u hj;have e:(⟨g,o,none⟩:Addr).add (f*2+j)=(⟨g,o+f*2,none⟩:Addr).add j:=by rw[qxa,qxa,qXr]
 rw[<-e];exact this
theorem zak{w:World}{b mb N:Nat}{v:Value}{ps:List (Int×Bool)}{slots:Nat}(h:IndexAt w b v mb N ps slots)(f n:Int)(ho:f<0\/n<0\/(ps.length:Int)<=f):
  Calls Tryz.prog 153 #[.pointer (some ⟨b,0,none⟩),Jo f n] w fun e w'=>e=.returned (.func (.func 215) #[] #[])/\Below w.heap.size w w':=by
 have hu:Upd (fun _=>False) w (w.alloc (.cells #[.int .i64 f,.int .i64 n] 152)):=(uur _ _).alloc _;have g0:=(hu.cellAt (o:=0) h.blt (fun h=>h)).trans (za h.str 0);simp at g0;have hle:=h.le;obtain⟨ao,c,rfl⟩:=h.sl.rd.nil_iff;clear h hu;have ho':f<0\/(¬f<0/\n<0)\/(¬f<0/\¬n<0/\(ps.length:Int)<=f):=by omega
 clear ho;rcases ho' with h1|⟨h1,h2⟩|⟨h1,h2,h3⟩
 case' inr.inl=>
  have d1:decide (f<0)=false:=by simpa using h1
  have d2:decide (n<0)=true:=by simpa using h2
 case' inr.inr=>
  have d1:decide (f<0)=false:=by simpa using h1
  have d2:decide (n<0)=false:=by simpa using h2
  have d3:decide ((ps.length:Int)<=f)=true:=by simpa using h3
 all_goals
  go_enter Tryz.func153,Tryz.ntmps153
  go_wp2
  go_quiet(fail)
  go_wp2
  go_ret
  exact⟨rfl,zS ((qxl _ _).alloc (qXv _) _) _⟩
theorem JW{w:World}{b mb N:Nat}{v:Value}{ps:List (Int×Bool)}{slots:Nat}(h:IndexAt w b v mb N ps slots)(f n:Nat)(hf:f<ps.length):
  Calls Tryz.prog 153 #[.pointer (some ⟨b,0,none⟩),Jo f n] w fun e w'=>∃Bs Bp g off cap,e=.returned (.func (.func 217) #[] #[.pointer (some ⟨Bs,0,none⟩),.pointer (some ⟨Bp,0,none⟩)])/\
   (w.heap.size<=Bp/\w.heap.size<=g/\w.heap.size<=Bs)/\Bs<w'.heap.size/\Bp<w'.heap.size/\g<w'.heap.size/\w'.cell? ⟨Bs,0,none⟩=some (.slice (some ⟨g,off,none⟩) (spanL ps f n).length cap)/\w'.cell? ⟨Bp,0,none⟩=some (.int .i64 f)/\
   (∀j (h:j<(spanL ps f n).length),w'.cell? ⟨g,off+j*2,none⟩=some (.int .i64 (spanL ps f n)[j].1)/\w'.cell? ⟨g,off+j*2+1,none⟩=some (.bool (spanL ps f n)[j].2))/\Below w.heap.size w w':=by
 have hu:Upd (fun _=>False) w (w.alloc (.cells #[.int .i64 f,.int .i64 n] 152)):=(uur _ _).alloc _;have g0:=(hu.cellAt (o:=0) h.blt (fun h=>h)).trans (za h.str 0);simp at g0;have hle:=h.le;have HI0:=qqh h;obtain⟨ao,c,rfl⟩:=h.sl.rd.nil_iff;have d1:¬(f:Int)<0:=by omega
 have d2:¬(n:Int)<0:=by omega
 have d3:¬(ps.length:Int)<=f:=by omega
 clear h;go_enter Tryz.func153,Tryz.ntmps153
 go_wp2
 go_quiet(fail)
 go_wp2
 clear g0;generalize hw2:(w.alloc (.cells #[.int .i64 f,.int .i64 n] 152)).drewN nq=w2;have hu2:Upd (fun _=>False) w w2:=by rw[<-hw2];exact hu.drewN nq
 have hsp:w2.heap[w.heap.size]?=some (.cells #[.int .i64 f,.int .i64 n] 152):=by rw[<-hw2];exact zc w _ rfl
 have hz2:w2.heap.size=w.heap.size+1:=by rw[<-hw2];simp[World.drewN]
 clear hw2 hu;have t0:=za hsp 0;have t1:=za hsp 1;simp at t0 t1;have g0:=(hu2.cellAt (o:=0) HI0.o.blt (fun h=>h)).trans (za HI0.o.str 0);simp at g0;obtain⟨gb,go,rfl,hgc1⟩:∃gb go,ao=some (⟨gb,go,none⟩:Addr)/\ps.length<=c:=by
  obtain⟨hl,⟨h1,h2⟩|⟨g',off',cap',cur,h1,hg,hn,_⟩⟩:=HI0.o.sl
  .omega
  .cases h1;exact⟨g',off',rfl,hn⟩
 have hua:Upd (fun _=>False) w2 (w2.alloc (.cells #[.slice none 0 0] 283)).drew:=((uur _ _).alloc _).drew;have HR:Hid (Rd (w2.alloc (.cells #[.slice none 0 0] 283)).drew 2 (.slice (some ⟨gb,go+f*2,none⟩) (ps.length-f) (c-f)) (ps.drop f).length (plC (ps.drop f))):=
  (WF (HI0.o.sl.keep hu2 (fun _ _ h=>h)) f (by omega)).keep hua (fun _ _ h=>h)
 have HR2:Hid (Rd w2.drew 2 (.slice (some ⟨gb,go+f*2,none⟩) (ps.length-f) (c-f)) (ps.drop f).length (plC (ps.drop f))):=
  (WF (HI0.o.sl.keep hu2 (fun _ _ h=>h)) f (by omega)).keep ((uur (fun _=>False) w2).drew) (fun _ _ h=>h)
 have HT2:Hid (w2.drew.cell? ⟨b,0,none⟩=some (.slice (some ⟨gb,go,none⟩) ps.length c)/\w2.drew.cell? ⟨w.heap.size,0,none⟩=some (.int .i64 f)/\w2.drew.cell? ⟨w.heap.size,1,none⟩=some (.int .i64 n)):=⟨g0,t0,t1⟩
 have hcf:¬c=f:=by omega
 have hfl:f<=ps.length:=by omega
 have hbl:=HI0.o.blt;have HT:Hid ((w2.alloc (.cells #[.slice none 0 0] 283)).drew.cell? ⟨b,0,none⟩=some (.slice (some ⟨gb,go,none⟩) ps.length c)/\(w2.alloc (.cells #[.slice none 0 0] 283)).drew.cell? ⟨w.heap.size,0,none⟩=some (.int .i64 f)/\
   (w2.alloc (.cells #[.slice none 0 0] 283)).drew.cell? ⟨w.heap.size,1,none⟩=some (.int .i64 n)/\(w2.alloc (.cells #[.slice none 0 0] 283)).drew.heap[w.heap.size+1]?=some (.cells #[.slice none 0 0] 283)):=
  ⟨(hua.cellAt (by omega) (fun h=>h)).trans g0,(hua.cellAt (by omega) (fun h=>h)).trans t0,(hua.cellAt (by omega) (fun h=>h)).trans t1,zc w2 _ hz2.symm⟩
 have hnb:¬w.heap.size+1=b:=by omega
 go_region_held3 (fun W=>W.cell? ⟨b,0,none⟩=some (.slice (some ⟨gb,go,none⟩) ps.length c)/\W.cell? ⟨w.heap.size,0,none⟩=some (.int .i64 f)/\W.cell? ⟨w.heap.size,1,none⟩=some (.int .i64 n)) (go_keep)
  (first
  |((go_at_call 216;refine(qn HR2.o (by simp;omega) (by simp;omega)).mono ?_;rintro e w3 ⟨v',rfl,hs3,hf3,hb3⟩;obtain⟨ao',c',rfl⟩:=hs3.rd.nil_iff;have k0:=(hb3.cell (p:=⟨b,0,none⟩) (by simp;omega)).trans HT2.o.1;have k1:=(hb3.cell (p:=⟨w.heap.size,0,none⟩) (by simp;omega)).trans HT2.o.2.1;have k2:=(hb3.cell (p:=⟨w.heap.size,1,none⟩) (by simp;omega)).trans HT2.o.2.2))
  |((go_at_call 216;refine(qn HR.o (by simp;omega) (by simp;omega)).mono ?_;rintro e w3 ⟨v',rfl,hs3,hf3,hb3⟩;obtain⟨ao',c',rfl⟩:=hs3.rd.nil_iff;have k0:=(hb3.cell (p:=⟨b,0,none⟩) (by simp;omega)).trans HT.o.1;have k1:=(hb3.cell (p:=⟨w.heap.size,0,none⟩) (by simp;omega)).trans HT.o.2.1;have k2:=(hb3.cell (p:=⟨w.heap.size,1,none⟩) (by simp;omega)).trans HT.o.2.2.1;have kb:=(hb3.block (w.heap.size+1) (by simp;omega)).trans HT.o.2.2.2;have k3:=za kb 0;have k4:=zf kb 0;simp at k3)))
 case' refine_2.refine_3.refine_3.refine_3.refine_3.refine_3.refine_3.refine_3.refine_1.refine_2.refine_1.refine_2.refine_1.refine_2=>
  have hw35:Upd (fun _=>False) w3 (w3.alloc (.cells #[.slice ao' (ps.length-f) c'] 283)):=(uur _ _).alloc _;have hbox:=zc w3 (.cells #[.slice ao' (ps.length-f) c'] 283) rfl;have hBb:=zj (zj (qxl _ w) hu2 (qXv _) (fun _ h=>h.elim)) (uuo (S:=fun _=>False) (Sf hb3)) (qXv _) (fun _ h=>h.elim);have hF:From w.heap.size (.slice ao' (ps.length-f) c'):=fun g hg=>by have:=hf3 g (by rw[qzf];exact hg);simp at this;omega
  have hbs0:w.heap.size<=w3.heap.size:=hBb.size;have hs5:=hs3.keep hw35 (fun _ _ h=>h);have hB5:=zj hBb hw35 (qXv _) (fun _ h=>h.elim);have t5:=(hw35.cellAt (b:=w.heap.size) (o:=0) (by have:=hb3.size;simp at this;omega) (fun h=>h)).trans k1;have t6:=(hw35.cellAt (b:=w.heap.size) (o:=1) (by have:=hb3.size;simp at this;omega) (fun h=>h)).trans k2;have hbs1:w3.heap.size≠w.heap.size:=by have:=hb3.size;simp at this;omega
  clear hw35 hs3 hf3 hb3 k0 k1 k2 hBb;generalize (w3.alloc (.cells #[.slice ao' (ps.length-f) c'] 283))=w5 at*;generalize w3.heap.size=Bs at*
 rotate_left
 have hw35:Upd (fun j=>j=w.heap.size+1) w3 (w3.setCell ⟨w.heap.size+1,0,none⟩ (.slice ao' (ps.length-f) c')):=zi _ _ _ _;have hbox:=zh kb 0 (.slice ao' (ps.length-f) c');simp at hbox;have hBa:=zj (zj (qxl _ w) hu2 (qXv _) (fun _ h=>h.elim)) hua (qXv _) (fun _ h=>h.elim);have hBb:=zj hBa (uuo (S:=fun _=>False) hb3) (qXv _) (fun _ h=>h.elim);have hF:From w.heap.size (.slice ao' (ps.length-f) c'):=fun g hg=>by have:=hf3 g (by rw[qzf];exact hg);simp at this;omega
 have hbs0:w.heap.size<=w.heap.size+1:=by omega
 have hs5:=hs3.keep hw35 (fun g hg e=>by have:=hf3 g hg;simp at this;omega);have hB5:=zj hBb hw35 (qXv _) (fun j e=>by omega);have t5:=(hw35.cellAt (b:=w.heap.size) (o:=0) (by have:=hb3.size;simp at this;omega) (by omega)).trans k1;have t6:=(hw35.cellAt (b:=w.heap.size) (o:=1) (by have:=hb3.size;simp at this;omega) (by omega)).trans k2;have hbs1:w.heap.size+1≠w.heap.size:=by omega
 clear hw35 hs3 hf3 hb3 k0 k1 k2 k3 k4 kb hBa hBb hnb hua HT HT2 HR HR2;generalize (w3.setCell ⟨w.heap.size+1,0,none⟩ (.slice ao' (ps.length-f) c'))=w5 at*;generalize w.heap.size+1=Bs at*
 all_goals
  obtain⟨g',off',cap',cur,hve,hg',hcs,hcc⟩:=hs5.at (by simp;omega)
 all_goals
  cases hve;have hel:Hid (∀j (h:j<(ps.drop f).length),w5.cell? ⟨g',off'+j*2,none⟩=some (.int .i64 (ps.drop f)[j].1)/\w5.cell? ⟨g',off'+j*2+1,none⟩=some (.bool (ps.drop f)[j].2)):=
   fun j h=>⟨(za hg' _).trans (hcc _ _ (xI h).1),(za hg' _).trans (hcc (j*2+1) _ (xI h).2)⟩
  have hgl:=zd hg';have hgf:=hF g' rfl;have hbl5:=zd hbox;have hcap:ps.length-f<=c':=by
   obtain⟨_,⟨h1,_⟩|⟨_,_,_,_,h1,_,h2,_⟩⟩:=hs5
   .cases h1
   .cases h1;simpa using h2
  have hgBs:g'≠Bs:=fun e=>by
   rw[e]at hg';rw[hg']at hbox;simp at hbox
  have y0:=za hbox 0;have y1:=zf hbox 0;simp at y0;have HBX:=qqh hbox;clear hcs hcc hg' hs5 hbox;by_cases hlt:(n:Int)<((ps.length-f:Nat):Int)
  .have hn1:n<=ps.length-f:=by omega
   have hn2:n<=c':=by omega
   have hL:Hid (spanL ps f n=(ps.drop f).take n):=rfl;have hLn:(spanL ps f n).length=n:=by simp[spanL];omega
   go_wp2
   go_ret
   have hus:Upd (fun j=>j=Bs) w5 (w5.setCell ⟨Bs,0,none⟩ (.slice (some ⟨g',off',none⟩) n c')):=zi _ _ _ _;have hspl:=(zL t5).2;refine⟨Bs,w.heap.size,g',off',c',rfl,⟨qXv _,hgf,hbs0⟩,by rw[World.size_setCell];exact hbl5,by rw[World.size_setCell];exact hspl,by rw[World.size_setCell];exact hgl,?_,(hus.cellAt hspl (fun e=>hbs1 e.symm)).trans t5,?_,hB5.setCell (p:=⟨Bs,0,none⟩) hbs0 _⟩
   .rw [hLn,za (zh HBX.o 0 _)];simp
   .intro j hj;have hj2:j<(ps.drop f).length:=by rw[hLn]at hj;simp;omega
    have e:(spanL ps f n)[j]=(ps.drop f)[j]:=by simp[spanL]
    rw[e];exact⟨(hus.cellAt hgl (fun e=>hgBs e)).trans (hel.out j hj2).1,(hus.cellAt hgl (fun e=>hgBs e)).trans (hel.out j hj2).2⟩
  .go_wp2
   go_ret
   have hL:spanL ps f n=ps.drop f:=by unfold spanL;rw[qXp];simp;omega
   rw[hL];have hspl:=(zL t5).2;exact⟨Bs,w.heap.size,rfl,g',⟨qXv _,hgf,hbs0⟩,hbl5,hspl,hgl,off',⟨c',by rw[qzf];exact y0⟩,t5,hel.out,hB5⟩
open Go Go.RowKit Go.Shelf
attribute [local go_sem] qYh
section
variable{own own':Nat->Nat}{w w':World}{c:Nat}{n:CaN}{p:CaP}{a:CaS}
def Box(own:Nat->Nat)(w:World)(b:Nat)(o:Obj):Prop:=w.heap[b]?=some o/\own b=0
theorem Box.did{b:Nat}{o:Obj}(h:Box own w b o)(hd:Did own own' w w'):Box own' w' b o:=
 ⟨(hd.upd.block b (zd h.1) (fun hs=>hs.1 h.2)).trans h.1,(hd.old b (zd h.1)).trans h.2⟩
theorem Box.new{b:Nat}{o:Obj}(h:Box own w b o)(hu:Upd (fun _=>False) w w'):Box own w' b o:=⟨hu.blockv h.1,h.2⟩
theorem Box.made(hf:∀j,w.heap.size<=j->own j=0)(o:Obj):Box own (w.alloc o) w.heap.size o:=⟨zc w o rfl,hf _ (qXv _)⟩
theorem CaAt.nobody(h:CaAt own w c n p a){S:Nat->Prop}(hu:Upd S w w')(hS:∀j,S j->own j=0/\j≠0/\j≠1):CaAt own w' c n p a:=by
 have hne:∀(k j:Nat),k≠0->own j=k->¬S j:=fun k j hk hj hs=>hk (hj.symm.trans (hS j hs).1);exact{h with
  str:=(hu.block c h.clt (hne 1 c (by decide) h.oc)).trans h.str
  ssd:=h.ssd.keep hu (fun j hj=>hne _ j (by decide) hj)
  back:=h.back.keep hu (fun j hj=>hne _ j (by decide) hj)
  jr:=(Jn.thing _ _ _ _ _ _ _).keep h.jr hu (fun j hj=>hne _ j (by decide) hj)
  ix:=(Ix.thing _ _ _ _).keep h.ix hu (fun j hj=>hne _ j (by decide) hj)
  ss:=(Ss.thing _ _).keep h.ss hu (fun j hj=>hne _ j (by decide) hj)
  lg:=(Lg.thing _ _ _).keep h.lg hu (fun j hj=>hne _ j (by decide) hj)
  ck:=h.ck.keep hu (fun j hj=>hne _ j (by decide) hj)
  sm:=(Mp.thing _ _ _).keep h.sm hu (fun j hj=>hne _ j (by decide) hj)
  far:=fun j hj=>h.far j (qXx hu.size hj)
  nib:=h.nib.keep hu (fun hs=>(hS _ hs).2.1 rfl)
  tur:=h.tur.keep hu (fun hs=>(hS _ hs).2.2 rfl)}
theorem rN{b:Nat}{o:Obj}{u:Value}{i:Nat}{b2:Nat}(h:w.heap[b]?=some o)(ho:o.isCells=false)(hc:w.cell? ⟨b2,i,none⟩=some u):b≠b2:=by
 rintro rfl;cases o<;>simp[World.cell?,h,Obj.isCells]at hc ho
theorem ua(W:World)(l:Nat)(o':Obj):Upd (fun j=>j=l) W (W.putObj l o'):=
 ⟨rfl,rfl,rfl,by simp[World.putObj],fun k _ hk=>by
  simp only[World.putObj];rw[qxg (fun e=>hk e.symm)]⟩
theorem CaAt.putObj(h:CaAt own w c n p a){b:Nat}{o:Obj}(hb:Box own w b o)(ho:o.isCells=false)(o':Obj):CaAt own (w.putObj b o') c n p a:=
 h.nobody (ua w b o') (fun j e=>by subst e;exact⟨hb.2,rN hb.1 ho (h.nib.c 0 (by decide)),rN hb.1 ho h.tur.c0⟩)
theorem Did.putObj(h:Did own own' w w'){b:Nat}(hb:w.heap.size<=b)(o':Obj):Did own own' w (w'.putObj b o'):=
 ⟨h.upd.new (ua w' b o') (fun i hi e=>by omega),h.old,h.new,fun j hj=>h.far j (by simpa[World.putObj]using hj)⟩
def AE(n:CaN)(a:CaS)(E:List Ent):CaS:=
 {a with bF:=flushF a.bF a.bO,bO:=[],bP:=[],dF:=flushF (flushF a.dF a.dO) (ckO (1+(1-a.which)*n.pa) n.pa (pagesB (a.next-1) E)),dO:=[],dP:=[],which:=1-a.which,cov:=a.next-1,W:=[],st:=freeTo a.st (pos a.st 3)}
end
end Go.Proofs.YtfhfbpmlnjdfoaaGreatDoor
