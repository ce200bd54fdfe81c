/- A device: Flush. A device: Read, Firm. A devic -/
import Derived.Test.YtfhfbpmlnjdfoaaGreatDoorG02
set_option maxRecDepth 100000
set_option maxHeartbeats 1000000
namespace Go.Proofs.YtfhfbpmlnjdfoaaGreatDoor
open Go Go.RowKit
def flushF(F:List Bk)(O:List (Nat×Bk)):List Bk:=O.foldl (fun F p=>F.set p.1 p.2) F
theorem xE(F:List Bk)(O:List (Nat×Bk))(p:Nat×Bk):flushF F (O++[p])=(flushF F O).set p.1 p.2:=by simp[flushF]
theorem zH(F:List Bk)(O:List (Nat×Bk)):(flushF F O).length=F.length:=by
 induction O generalizing F with
 |nil=>rfl
 |cons p O ih=>simp only[flushF,List.foldl_cons]at ih⊢;rw[ih];simp
theorem UJ{O:List (Nat×Bk)}(h:∀p∈O,p.2.length=64){i:Nat}(hi:i<O.length){j:Nat}(hj:j<65):(Rn O)[i*65+j]?=(wrC O[i].1 O[i].2)[j]?:=by
 induction O generalizing i with
 |nil=>simp at hi
 |cons x O ih=>
  have h1:=h x (by simp);cases i with
  |zero=>
   simp only[Rn,qyg,qYg,qYe,qyx];rw[qyi (by simp[zo,h1];exact hj)]
  |succ i=>
   simp only[Rn,qyg,qyw];rw[qyj (by simp[zo,h1];omega)];have:=ih (fun y hy=>h y (by simp[hy])) (i:=i) (by simpa using hi);rw[<-this];simp only[qze,zo,h1]
   congr 1
   omega
section
variable{w w' w2:World}{b:Nat}{vf vo vp v2:Value}{F F':List Bk}{O O':List (Nat×Bk)}{P P':List Int}
theorem DvAt.opRange(h:DvAt w b vf vo vp F O P){k:Nat}(hk:k<O.length):∃g off cap,vo=.slice (some ⟨g,off,none⟩) O.length cap/\g<w.heap.size/\O.length<=cap/\w.rangeAt g (off+k*65) (wrC O[k].1 O[k].2):=by
 obtain⟨hl,⟨_,h0⟩|⟨g,off,cap,cur,rfl,hg,hn,hm,hs,hc⟩⟩:=h.os
 .omega
 .refine ⟨g,off,cap,rfl,zd hg,hn,fun j v hj=>?_⟩;have ho:∀p∈O,p.2.length=64:=fun p hp=>(h.good.o64 p hp).1;have hj':=(qyp.1 hj).1;rw[wrC_len,ho _ (qyz hk)]at hj';rw[za hg,qXr];exact hc _ _ (by rw[UJ ho hk hj'];exact hj)
theorem DvAt.fiRange(h:DvAt w b vf vo vp F O P){k:Nat}(hk:k<F.length):∃g off cap,vf=.slice (some ⟨g,off,none⟩) F.length cap/\g<w.heap.size/\F.length<=cap/\w.rangeAt g (off+k*64) (bkC F[k])/\w.there g (off+k*64) 64:=by
 obtain⟨hl,⟨_,h0⟩|⟨g,off,cap,cur,rfl,hg,hn,hm,hs,hc⟩⟩:=h.fs
 .omega
 .have:=qYb 64 hn;exact⟨g,off,cap,rfl,zd hg,hn,rm h.good.f64 hg hc hk,Vd hg hk (by omega)⟩
theorem DvAt.setFirm{g off cap:Nat}(h:DvAt w b (.slice (some ⟨g,off,none⟩) F.length cap) vo vp F O P){s:Nat}(hs:s<F.length){x:Bk}(hx:x.length=64):
  DvAt (w.setCells g (off+s*64) (bkC x)) b (.slice (some ⟨g,off,none⟩) F.length cap) vo vp (F.set s x) O P:=by
 have hu:=zp w g (off+s*64) (bkC x);have hne:g≠b:=fun e=>h.fb (by simp[Value.ownBlock,e]);have hfs:=Sl.row_set h.good.f64 h.fs hs hx;rw[qzj]at hfs;have hlen:(F.set s x).length=F.length:=qzj;exact{h with
  str:=(hu.block b h.blt (fun e=>hne e.symm)).trans h.str
  fs:=by rw[hlen];exact hfs
  os:=h.os.keep hu (fun g' hg' e=>h.fo g' (by simp[Value.ownBlock,e]) hg')
  ps:=h.ps.keep hu (fun g' hg' e=>h.fp g' (by simp[Value.ownBlock,e]) hg')
  good:={h.good with f64:=h.good.f64.set s hx,o64:=by rw[hlen];exact h.good.o64,f1:=by rw[hlen];exact h.good.f1,fl:=by rw[hlen];exact h.good.fl}}
theorem DvAt.openNil(h:DvAt w b vf vo vp F O P):DvAt (w.setCell ⟨b,1,none⟩ (.slice none 0 0)) b vf (.slice none 0 0) vp F [] P:=
 {str:=zh h.str 1 _
  fs:=h.fs.keep_ne (zi _ _ _ _) h.fb
  os:=Sl.nil _ _ _
  ps:=h.ps.keep_ne (zi _ _ _ _) h.pb
  good:={h.good with o64:=by simp,ol:=by simp}
  fb:=h.fb
  ob:=by simp[Value.ownBlock]
  pb:=h.pb
  fo:=(Dis.nil _ _ _).symm
  fp:=h.fp
  op:=Dis.nil _ _ _}
end
theorem uT{F:List Bk}{O:List (Nat×Bk)}{k:Nat}(hk:k<O.length):flushF F (O.take (k+1))=(flushF F (O.take k)).set O[k].1 O[k].2:=by
 rw[qXq hk,xE]
theorem UK(s:Int)(x:Bk)(hx:x.length=64):(Tryz.prog.info? 131).map (·.size)=some (wrC s x).length:=by
 obtain⟨i,z,hi,_,_,h1,_⟩:=xh;rw[hi,wrC_len,hx,Option.map_some,h1]
theorem zy{w:World}{g o b o':Nat}{v:Value}{vs:List Value}(h:w.cell? ⟨g,o,none⟩=some v)(hne:¬g=b):(w.setCells b o' vs).cell? ⟨g,o,none⟩=some v:=by
 rw[World.cell?_setCells_out b vs o' w _ (fun e _=>absurd e hne),h]
theorem Rr{S:Nat->Prop}{w:World}{b g0:Nat}{F:List Bk}{O:List (Nat×Bk)}{P:List Int}(h:Dv S w b F O P)(hn:∀j,w.heap.size<=j->S j)
  (c0:w.cell? ⟨g0,0,none⟩=some (.pointer (some ⟨b,0,none⟩))) (s0:¬S g0):
  Calls Tryz.prog 115 #[.pointer (some ⟨g0,0,none⟩)] w fun e w'=>e=.returned (.tuple #[])/\Dv S w' b (flushF F O) [] P/\Upd S w w':=by
 obtain⟨vf,vo,vp,h,hS⟩:=h;obtain⟨-,d1,-⟩:=h.c;obtain⟨ao,co,rfl⟩:=h.os.rd.nil_iff;have hol:=h.good.ol;have H:=Y5 h hS hn c0 s0;clear h hS hn;go_enter Tryz.func115,Tryz.ntmps115
 go_wp2
 go_loopw[8] (fun i wr=>∃k:Nat,k<=O.length/\i=.int .i64 k/\DvAt wr b vf (.slice ao O.length co) vp (flushF F (O.take k)) O P/\Upd (fun j=>vf.ownBlock=some j\/w.heap.size<=j) w wr)
  (fun i _=>O.length-(intOf i).toNat)
 case atStart=>exact⟨0,qYf _,rfl,H.o.1,uur _ _⟩
 case round=>
  obtain⟨k,hk,rfl,hd,hu⟩:=hrel;by_cases hlt:k<O.length
  .obtain ⟨h,hS,hn,c0,s0⟩:=H.o;obtain⟨gO,oO,cO,e1,hgO,hcO,rO⟩:=hd.opRange hlt;obtain⟨rfl,rfl⟩:ao=some ⟨gO,oO,none⟩/\co=cO:=by injection e1 with e1 _ e2;exact⟨e1,e2⟩
   clear e1;have hsx:=hd.good.o64 O[k] (qyz hlt);obtain⟨s,x,hO⟩:∃s x,O[k]=(s,x):=⟨_,_,rfl⟩
   rw[hO]at hsx rO;have HO:=qqh hO;clear hO;obtain⟨hx,hs⟩:=hsx;obtain⟨gF,oF,cF,e1,hgF,hcF,rF,tF⟩:=hd.fiRange hs;have hO1:0<=(k:Int)/\(k:Int)<O.length:=⟨by omega,by omega⟩
   have hwr:w.heap.size<=wr.heap.size:=hu.size;go_wp2_with (first
    |refine qZg rfl _ _ rfl _ _ rfl _ _ rO Tryz.underlying131 rfl (UK _ _ hx) ?_
    |(refine zk rfl _ _ _ rfl _ _ _ rfl rfl (by rw[sA,wrC_len,hx]) (UK _ _ hx) (vF _ _) ?_)
    |fail)
   rw[zH]at hs e1 hcF;subst e1;have hu1:Upd (fun _=>False) wr (wr.alloc (.cells (wrC (s:Int) x).toArray 131)):=(uur _ _).alloc _;have hd1:=hd.new hu1;have hU1:=hu.trans (hu1.mono (fun _ _ h=>h.elim));have q2:(wr.alloc (.cells (wrC (s:Int) x).toArray 131)).rangeAt wr.heap.size 0 (wrC (s:Int) x):=fun j v hv=>by
    rw[za (zc wr _ rfl)];simpa using hv
   have q1:=q2 0 _ rfl;have q3:(wr.alloc (.cells (wrC (s:Int) x).toArray 131)).rangeAt wr.heap.size 1 (bkC x):=fun j v hv=>by
    have:=q2 (1+j) v (by rw[Nat.add_comm];exact hv);rw[qYe]at this;exact this
   have q4:=qYt tF (.cells (wrC (s:Int) x).toArray 131);have hne0:¬g0=gF:=fun e=>s0 (hS g0 (.inr (.inl (by simp[Value.ownBlock,e]))));have q0:=hU1.cellv c0 (by rintro(e|e);exact hne0 (by simpa[Value.ownBlock]using e.symm);have:=qYn w _ c0;simp at this;omega);obtain⟨q5,-,-⟩:=hd1.c;have hneb:¬b=gF:=fun e=>hd.fb (by simp[Value.ownBlock,e]);have hut:=Tryz.underlying54;have hsi:=zt x hx;have hlx:(bkC x).length=64:=by rw[zo,hx]
   have h1x:=zv x;have hsb:0<=(s:Int)/\(s:Int)<F.length:=⟨by omega,by omega⟩
   have hnm:¬wr.heap.size=gF:=by omega
   rw[qYe]at q1;obtain⟨hsb1,hsb2⟩:=hsb;generalize wr.alloc (.cells (wrC (s:Int) x).toArray 131)=W1 at*;have HH:=Y5 hd1 hU1 hd hu hwr;clear hd1 hU1 hd hu hwr hu1 q2 hS hn h tF rF rO c0 s0 hgO hgF;generalize wr.heap.size=m at*
   go_region_held3 (fun W=>W.cell? ⟨g0,0,none⟩=some (.pointer (some ⟨b,0,none⟩))/\W.cell? ⟨b,0,none⟩=some (.slice (some ⟨gF,oF,none⟩) F.length cF)/\W.cell? ⟨m,0,none⟩=some (.int .i64 (s:Int))/\W.rangeAt m 1 (bkC x)/\W.there gF (oF+s*64) 64)
    ((go_split_ands;(simp only[qYq,World.there_drew,qYo]at*);((repeat' constructor)<;>first|assumption|(apply World.there_setCells;assumption)|(refine zy ?_ ?_<;>assumption)|(refine World.rangeAt_setCells_apart (by assumption) _ _ _ (by omega)))))
    (fail)
   have hset:DvAt (W1.drew.setCells gF (oF+s*64) (bkC x)) b (.slice (some ⟨gF,oF,none⟩) F.length cF) (.slice (some ⟨gO,oO,none⟩) O.length co) vp (flushF F (O.take (k+1))) O P:=by
    obtain⟨hd1,hU1,hd,hu,hwr⟩:=HH.o;have h2:=hd1.new ((uur (fun _=>False) _).drew);rw[<-zH F (O.take k)]at h2;have:=h2.setFirm (s:=s) (x:=x) (by rw[zH];exact hs) hx;rw[zH]at this;rw[uT hlt,HO.o];exact this
   have hUs:Upd (fun j=>(Value.slice (some ⟨gF,oF,none⟩) F.length cF).ownBlock=some j\/w.heap.size<=j) w (W1.drew.setCells gF (oF+s*64) (bkC x)):=
    HH.o.2.1.drew.trans ((zp W1.drew gF (oF+s*64) (bkC x)).mono (fun j _ e=> .inl (by simp[Value.ownBlock,e])))
   have HS:=Y2 hset hUs;clear hset hUs;go_wp2
   go_roundw
   case rel=>exact⟨k+1,by omega,by go_num,HS.o.1,HS.o.2⟩
   case measure=>simp[intOf];omega
  .obtain rfl:k=O.length:=by omega
   rw[List.take_length]at hd;obtain⟨h,hS,hn,c0,s0⟩:=H.o;have hUS:Upd S w wr:=hu.mono (fun j _ e=>e.elim (fun e=>hS j (.inr (.inl e))) (hn j));have q0:=hUS.cellv c0 s0;have q1:=hd.fz 1;obtain⟨-,q2,-⟩:=hd.c;have HH:=Y4 hd hUS hS hn;clear hd hUS hu h hS hn c0 s0;go_wp2
   go_end0
   obtain⟨hd,hUS,hS,hn⟩:=HH.o;refine⟨rfl,⟨vf,_,vp,hd.openNil,?_⟩,hUS.trans (Upd.mono (zi _ _ _ _) (fun k _ hk=>hk▸hS _ (.inl rfl)))⟩;rintro j (rfl|h|h|h)
   .exact hS _ (.inl rfl)
   .exact hS _ (.inr (.inl h))
   .cases h
   .exact hS _ (.inr (.inr (.inr h)))
def Vh(S:Nat->Prop)(w:World)(b:Nat)(F:List Bk)(O:List (Nat×Bk))(P:List Int)(e:Ending)(w':World):Prop:=
 (fate P=1/\e=.returned (.int .i64 21)/\Dv S w' b F O P.tail/\Upd S w w')\/
 (fate P=0/\e=.returned (.int .i64 0)/\Dv S w' b (flushF F O) [] P.tail/\Upd S w w')\/
 (fate P≠0/\fate P≠1/\e=.returned (.int .i64 0)/\Dv S w' b F O P.tail/\Upd S w w')
theorem Jy{S:Nat->Prop}{w:World}{b:Nat}{F:List Bk}{O:List (Nat×Bk)}{P:List Int}(h:Dv S w b F O P)(hn:∀j,w.heap.size<=j->S j):
  Calls Tryz.prog 46 #[.pointer (some ⟨b,0,none⟩)] w (Vh S w b F O P):=by
 have hmf:=qqf;have H:=Y2 h hn;clear h hn;go_enter Tryz.func46,Tryz.ntmps46
 go_wp2_with fail
 have hu:Upd (fun _=>False) w (w.alloc (.cells #[.pointer (some ⟨b,0,none⟩)] 46)):=(uur _ w).alloc _;have c0:(w.alloc (.cells #[.pointer (some ⟨b,0,none⟩)] 46)).cell? ⟨w.heap.size,0,none⟩=some (.pointer (some ⟨b,0,none⟩)):=za (zc w _ rfl) 0;have hsz:(w.alloc (.cells #[.pointer (some ⟨b,0,none⟩)] 46)).heap.size=w.heap.size+1:=by simp
 generalize (w.alloc (.cells #[.pointer (some ⟨b,0,none⟩)] 46))=w3 at hu c0 hsz⊢;obtain⟨hd0,hn⟩:=H.o;have hbS:=hd0.sb;have hS':∀j,((S j/\j<w.heap.size)\/w.heap.size+1<=j)->S j:=by
  rintro j (⟨h,-⟩|h)
  .exact h
  .exact hn j (by omega)
 have hd4:Dv (fun j=>(S j/\j<w.heap.size)\/w.heap.size+1<=j) w3 b F O P:=(hd0.shrink (fun j hj hl=> .inl ⟨hj,hl⟩)).keep hu (fun _ _ h=>h);have HO:=Y3 hS' hu hbS;refine(UG hd4 21 115 _ (fun W=>Dv (fun j=>(S j/\j<w.heap.size)\/w.heap.size+1<=j) W b (flushF F O) [] P.tail/\Upd (fun j=>(S j/\j<w.heap.size)\/w.heap.size+1<=j) w3 W) (fun _ _=>rfl) ?_).mono ?_
 .intro h0 w1 hd1 hu1;refine(Rr hd1 (fun j hj=> .inr (by have:=hu1.size;omega)) (hu1.cellv c0 (by omega)) (by omega)).mono ?_;rintro e w' ⟨rfl,hD,hU⟩;exact⟨rfl,hD,(hu1.mono (fun j _ hj=>hj▸ .inl ⟨hbS.1,hbS.2⟩)).trans hU⟩
 .clear hd4 hd0 hn hu hsz hS' c0 hbS;rintro e w5 (⟨h1,rfl,hD,hU⟩|⟨h1,rfl,hD,hU⟩|⟨h1,h2,rfl,hD,hU⟩)
  .have D:=Y3 h1 hD hU;clear h1 hD hU;go_wp2
   go_ret
   exact .inl ⟨D.out.1,rfl,D.out.2.1.wide HO.o.1,(HO.o.2.1.mono (fun _ _ h=>h.elim)).trans (D.out.2.2.mono (fun j _ hj=>hj▸HO.o.2.2.1))⟩
  .have D:=Y3 h1 hD hU;clear h1 hD hU;go_wp2
   go_ret
   exact .inr (.inl ⟨D.out.1,rfl,D.out.2.1.wide HO.o.1,(HO.o.2.1.mono (fun _ _ h=>h.elim)).trans (D.out.2.2.mono (fun j _ hj=>HO.o.1 j hj))⟩)
  .have D:=Y4 h1 h2 hD hU;clear h1 h2 hD hU;go_wp2
   go_ret
   exact .inr (.inr ⟨D.out.1,D.out.2.1,rfl,D.out.2.2.1.wide HO.o.1,(HO.o.2.1.mono (fun _ _ h=>h.elim)).trans (D.out.2.2.2.mono (fun j _ hj=>hj▸HO.o.2.2.1))⟩)
def curB(F:List Bk)(O:List (Nat×Bk))(s:Nat):Bk:=(flushF F O).getD s zB
theorem tN(F:List Bk)(O O':List (Nat×Bk)):flushF F (O++O')=flushF (flushF F O) O':=by simp[flushF]
theorem uU{F:List Bk}{O:List (Nat×Bk)}{s:Nat}(h:∀p∈O,p.1≠s):(flushF F O)[s]?=F[s]?:=by
 induction O generalizing F with
 |nil=>rfl
 |cons p O ih=>
  have:=ih (F:=F.set p.1 p.2) (fun q hq=>h q (by simp[hq]));simp only[flushF,List.foldl_cons]at this⊢;rw[this,List.getElem?_set_ne (h p (by simp))]
theorem rn{F:List Bk}{O:List (Nat×Bk)}{s k:Nat}(h:∀p∈O.drop k,p.1≠s):curB F O s=curB F (O.take k) s:=by
 unfold curB;have:flushF F O=flushF (flushF F (O.take k)) (O.drop k):=by rw[<-tN,qXo]
 rw[this,qyh,uU h,<-qyh]
theorem UL{F:List Bk}{O:List (Nat×Bk)}{s k:Nat}(hk:k<O.length)(hs:s<F.length)(h0:O[k].1=s)(h:∀p∈O.drop (k+1),p.1≠s):curB F O s=O[k].2:=by
 rw[rn h];unfold curB;rw[uT hk,h0,qyh,List.getElem?_set_self (by rw[zH];exact hs)];rfl
theorem Vi{F:List Bk}{O:List (Nat×Bk)}{s:Nat}(hs:s<F.length)(h:∀p∈O,p.1≠s):curB F O s=F[s]:=by
 rw[rn (k:=0) (by simpa using h)];simp[curB,flushF,hs]
theorem tO{F:List Bk}{O:List (Nat×Bk)}{P:List Int}(h:DvGood F O P)(s:Nat):(curB F O s).length=64:=by
 unfold curB;have:∀(O:List (Nat×Bk)) (F:List Bk),All64 F->(∀p∈O,p.2.length=64)->All64 (flushF F O):=by
  intro O
  induction O with
  |nil=>intro F h _;exact h
  |cons p O ih=>intro F hF hO;exact ih _ (hF.set p.1 (hO p (by simp))) (fun q hq=>hO q (by simp[hq]))
 have h2:=this O F h.f64 (fun p hp=>(h.o64 p hp).1);by_cases hs:s<(flushF F O).length
 .rw [qyh,qyn hs];exact h2 _ (qyz hs)
 .rw [qyh,qyo (by omega)];exact zw
theorem Jz(w:World):Calls Tryz.prog 128 #[] w fun e w'=>e=.returned (.tuple #[])/\w'=w:=by
 go_enter Tryz.func128,Tryz.ntmps128
 go_wp2
 go_end0
 exact⟨rfl,rfl⟩
theorem zl(x:Bk)(hx:x.length=64):(bkC x).toArray.size=64:=by simp[zo,hx]
def UM(S:Nat->Prop)(w:World)(b:Nat)(F:List Bk)(O:List (Nat×Bk))(P:List Int)(s:Int)(e:Ending)(w':World):Prop:=
 (hasC F.length s≠0/\e=.returned (.tuple #[bkV zB,.int .i64 (hasC F.length s)])/\Dv S w' b F O P/\Upd S w w')\/
 (hasC F.length s=0/\fate P=1/\e=.returned (.tuple #[bkV zB,.int .i64 19])/\Dv S w' b F O P.tail/\Upd S w w')\/
 (hasC F.length s=0/\fate P≠1/\e=.returned (.tuple #[bkV (curB F O s.toNat),.int .i64 0])/\Dv S w' b F O P.tail/\Upd S w w')
theorem zF:(Tryz.prog.info? 54).map (·.size)=some 64:=zt zB zw
theorem Ar{S:Nat->Prop}{w:World}{b:Nat}{F:List Bk}{O:List (Nat×Bk)}{P:List Int}(h:Dv S w b F O P)(hn:∀j,w.heap.size<=j->S j)(s:Int):
  Calls Tryz.prog 67 #[.pointer (some ⟨b,0,none⟩),.int .i64 s] w (UM S w b F O P s):=by
 have H:=Y2 h hn;clear h hn;go_enter Tryz.func67,Tryz.ntmps67
 go_wp2
 go_step3
 go_wp2_with fail
 show Calls _ _ _ (w.alloc (.cells (bkC zB).toArray 54)) _;have hu1:Upd (fun _=>False) w (w.alloc (.cells (bkC zB).toArray 54)):=(uur _ w).alloc _;have hg1:(w.alloc (.cells (bkC zB).toArray 54)).heap[w.heap.size]?=some (.cells (bkC zB).toArray 54):=zc _ _ rfl;have hs1:(w.alloc (.cells (bkC zB).toArray 54)).heap.size=w.heap.size+1:=by simp
 generalize w.alloc (.cells (bkC zB).toArray 54)=w1 at*;obtain⟨hd0,hn⟩:=H.o;obtain⟨hSb,hlb⟩:=hd0.sb;have hd1:Dv (fun j=>(S j/\j<w.heap.size)\/w.heap.size+1<=j) w1 b F O P:=(hd0.shrink (fun j hj hl=> .inl ⟨hj,hl⟩)).keep hu1 (fun _ _ h=>h);have hS':∀j,((S j/\j<w.heap.size)\/w.heap.size+1<=j)->S j:=by
  rintro j (⟨h,-⟩|h)
  .exact h
  .exact hn j (by omega)
 have HX:=Y7 hd1 hu1 hg1 hs1 hS' hSb hlb;clear hd1 hu1 hg1 hs1 hS' hSb hlb hd0 hn;refine(Ap HX.o.1 s).mono ?_;rintro e w4 ⟨rfl,rfl⟩;by_cases hz:hasC F.length s=0
 .have HZ:=qqh hz;rw[hz];clear hz;go_wp2_with fail
  refine(UG HX.o.1 19 128 #[] (fun W=>Dv (fun j=>(S j/\j<w.heap.size)\/w.heap.size+1<=j) W b F O P.tail/\Upd (fun j=>j=b) w4 W) (fun _ _=>rfl) ?_).mono ?_
  .intro h0 w1 hd1 hu1;refine(Jz w1).mono ?_;rintro e w' ⟨rfl,rfl⟩;exact⟨rfl,hd1,hu1⟩
  .obtain ⟨hd1,hu1,hg1,hs1,hS',hSb,hlb⟩:=HX.o;rintro e w5 h5;have H5:Hid (Dv (fun j=>(S j/\j<w.heap.size)\/w.heap.size+1<=j) w5 b F O P.tail/\Upd (fun j=>j=b) w4 w5):=by
    rcases h5 with⟨-,-,a,b⟩|⟨-,-,a,b⟩|⟨-,-,-,a,b⟩<;>exact⟨a,b⟩
   have hth:w5.there w.heap.size 0 64:=fun j hj=>by
    have hg5:=(H5.o.2.block w.heap.size (by omega) (by omega)).trans hg1;rw[za hg5,zf hg5];exact⟨by rw[qYe,qxe (by simp[zo,zw];omega)];rfl,rfl⟩
   have hlow:Hid (Upd S w w5):=(hu1.mono (fun _ _ h=>h.elim)).trans (H5.o.2.mono (fun j _ e=>e▸hSb));have hw5:=H5.o.2.size;clear hd1 hu1 hg1;have h6:(fate P=1/\e=.returned (.int .i64 19))\/(fate P≠1/\e=.returned (.int .i64 0)):=by
    rcases h5 with⟨h1,rfl,-,-⟩|⟨h0,rfl,-,-⟩|⟨h0,h1,rfl,-,-⟩
    .exact .inl ⟨h1,rfl⟩
    .exact .inr ⟨by omega,rfl⟩
    .exact .inr ⟨h1,rfl⟩
   clear h5;rcases h6 with⟨h1,rfl⟩|⟨h1,rfl⟩
   .have H1:=qqh h1;clear h1 hs1 hS' hSb hlb hw5;go_wp2_with (first
     |(refine qZi rfl _ _ _ rfl _ _ (bkC zB).toArray rfl rfl (by rw[zl _ zw];exact hth) (by rw[zl _ zw];exact zF) (qYu (zv _)) ?_)
     |fail)
    rw[qxr];refine qYw (zn rfl _ _ w.heap.size 0 (bkC zB) _ rfl (qYr _ _ _ _ (by rw[zo,zw];exact hth)) Tryz.underlying54 rfl (zt zB zw)) rfl (.inr (.inl ⟨HZ.o,H1.o,rfl,?_,?_⟩))
    .exact (H5.o.1.keep (zp _ _ _ _) (by rintro j (⟨-,h⟩|h) e<;>omega)).wide (by obtain⟨-,-,-,-,hS',-⟩:=HX.o;exact hS')
    .exact hlow.out.trans ((zp _ _ _ _).mono (fun j _ e=>e▸H.o.2 _ (qXv _)))
   .have H1:=qqh h1;clear h1;obtain⟨n,rfl⟩:∃n:Nat,s=n:=⟨s.toNat,(uo HZ.o).1.symm⟩
    have hsn:=(uo HZ.o).2;rw[qxu]at hsn;obtain⟨vf,vo,vp,hd5,hS5⟩:=H5.o.1;obtain⟨gF,oF,cF,rfl,hgF,hcF,rF,tF⟩:=hd5.fiRange hsn;obtain⟨ao,co,rfl⟩:=hd5.os.rd.nil_iff;obtain⟨e0,e1,e2⟩:=hd5.c;have hfl:=hd5.good.fl;have hol:=hd5.good.ol;have hx:(F[n]).length=64:=hd5.good.f64 _ (qyz hsn);have hua:Upd (fun _=>False) w5 (w5.alloc (.cells (bkC F[n]).toArray 54)):=(uur _ _).alloc _;have hd6:=hd5.new hua;have hg6:=zc w5 (.cells (bkC F[n]).toArray 54) rfl;have hth6:=qYt hth (.cells (bkC F[n]).toArray 54);have e16:=hd6.c.2.1;have hb1:0<=(n:Int)/\(n:Int)<F.length:=⟨by omega,by omega⟩
    have hse:Hid ((bkC F[n]).length=64):=by show _=_;rw[zo,hx]
    have hse2:Hid (F[n].length=64):=hx;have HD:=Y10 hd6 hS5 hua hg6 hth6 hw5 hs1 hS' hSb hlb;clear hd5 hS5 hx tF hgF hcF hd6 hua hg6 hth6 hw5 hs1 hS' hSb hlb hth;obtain⟨hb1,hb2⟩:=hb1;go_wp2_with (first
     |(refine qZg rfl _ _ rfl _ _ rfl _ _ rF Tryz.underlying54 rfl (zt _ hse2.out) ?_)
     |(refine zk rfl _ _ _ rfl _ _ _ rfl rfl hse.out.symm (zt _ hse2.out) (zv _) ?_)
     |fail)
    clear e0 e1 e2 rF;generalize w5.alloc (.cells (bkC F[n]).toArray 54)=w6 at*
    go_step3
    go_wp2
    go_loop [9] (fun i=>∃k:Nat,k<=O.length/\i=.int .i64 ((k:Int)-1)/\∀p∈O.drop k,p.1≠n) (fun i=>(intOf i+1).toNat)
    case atStart=>exact⟨O.length,qXv _,rfl,by simp⟩
    case round=>
     obtain⟨k,hk,rfl,hno⟩:=hrel;have HN:Hid (∀p∈O.drop k,p.1≠n):=hno;clear hno;cases k with
     |zero=>
      obtain⟨hd6,hS5,hua,hg6,hth6,hw5,hs1,hS',hSb,hlb⟩:=HD.o;have r6:=zg hg6;have hzero:Hid (curB F O n=F[n]):=Vi hsn (by have:=HN.o;simpa using this);have hst:w6.there w.heap.size 0 (bkC F[n]).toArray.size:=by rw[zl _ hse2.out];exact hth6
      have hsz2:(Tryz.prog.info? 54).map (·.size)=some (bkC F[n]).toArray.size:=by rw[zl _ hse2.out];exact zF
      have HST:=Y2 hst hsz2;clear hd6 hS5 hua hg6 hs1 hS' hSb hlb hst hsz2;simp only[Int.natCast_zero];go_wp2_with (first
       |(refine qZg rfl _ _ rfl _ _ rfl _ _ r6 Tryz.underlying54 rfl (zt _ hse2.out) ?_)
       |(refine qZi rfl _ _ _ rfl _ _ (bkC F[n]).toArray rfl rfl HST.o.1 HST.o.2 (qYu (zv _)) ?_)
       |fail)
      try rw[qxr]
      refine qYw (zn rfl _ _ w.heap.size 0 (bkC F[n]) _ rfl (qYr _ _ _ _ (by rw[hse.out];exact hth6)) Tryz.underlying54 rfl (zt _ hse2.out)) rfl (.inr (.inr ⟨HZ.o,H1.o,by rw[qxu,hzero.out];rfl,?_,?_⟩))
      .obtain ⟨hd6,hS5,hua,hg6,hth6,hw5,hs1,hS',hSb,hlb⟩:=HD.o;exact(Dv.keep ⟨_,_,_,hd6,hS5⟩ (zp _ _ _ _) (by rintro j (⟨-,h⟩|h) e<;>omega)).wide hS'
      .obtain ⟨hd6,hS5,hua,hg6,hth6,hw5,hs1,hS',hSb,hlb⟩:=HD.o;exact(hlow.out.trans (hua.mono (fun _ _ h=>h.elim))).trans ((zp _ _ _ _).mono (fun j _ e=>e▸H.o.2 _ (qXv _)))
     |succ k=>
      have hlt:k<O.length:=by omega
      have ek:((k+1:Nat):Int)-1=(k:Int):=by omega
      rw[ek];clear ek;obtain⟨hd6,hS5,hua,hg6,hth6,hw5,hs1,hS',hSb,hlb⟩:=HD.o;obtain⟨gO,oO,cO,e2,hgO,hcO,rO⟩:=hd6.opRange hlt;obtain⟨rfl,rfl⟩:ao=some ⟨gO,oO,none⟩/\co=cO:=by injection e2 with e1 _ e2;exact⟨e1,e2⟩
      clear e2;obtain⟨s',x',hO⟩:∃s x,O[k]=(s,x):=⟨_,_,rfl⟩
      have hx':x'.length=64:=by have:=(hd6.good.o64 O[k] (qyz hlt)).1;rw[hO]at this;exact this
      rw[hO]at rO;have HO:=qqh hO;clear hO;have c0:=rO 0 _ rfl;have r1:w6.rangeAt gO (oO+k*65+1) (bkC x'):=fun j v hv=>by
       have:=rO (1+j) v (by rw[Nat.add_comm];exact hv);rw[<-qXr]at this;exact this
      rw[qXs]at c0;have hO1:0<=(k:Int)/\(k:Int)<O.length:=⟨by omega,by omega⟩
      clear hd6 hS5 hua hw5 hs1 hS' hSb hlb rO hgO hcO;by_cases heq:s'=n
      .subst heq;have hcur:Hid (curB F O s'=x'):=by
        have:=UL hlt hsn (by rw[HO.o]) HN.o;rw[HO.o]at this;exact this
       obtain⟨gx,hgx⟩:∃g,g=w5.heap.size:=⟨_,rfl⟩
       have hst6:w6.there w5.heap.size 0 (bkC x').toArray.size:=by
        rw[zl _ hx'];intro j hj;rw[za hg6,zf hg6];exact⟨by rw[qYe,qxe (by rw[zl _ hse2.out];exact hj)];rfl,rfl⟩
       have hsz2:(Tryz.prog.info? 54).map (·.size)=some (bkC x').toArray.size:=by rw[zl _ hx'];exact zF
       have h7:(w6.setCells w5.heap.size 0 (bkC x')).rangeAt w5.heap.size 0 (bkC x'):=qYr _ _ _ _ (by rw[zl _ hx']at hst6;rw[zo,hx'];exact hst6);have hth7:(w6.setCells w5.heap.size 0 (bkC x')).there w.heap.size 0 (bkC x').toArray.size:=by rw[zl _ hx'];exact World.there_setCells hth6 _ _ _
       have HST:=Y5 hst6 hsz2 h7 hth7 hx';clear hst6 hsz2 h7 hth7 hgx hx';go_wp2_with (first
        |(refine qZg rfl _ _ rfl _ _ rfl _ _ r1 Tryz.underlying54 rfl (zt _ HST.o.2.2.2.2) ?_)
        |(refine qZg rfl _ _ rfl _ _ rfl _ _ HST.o.2.2.1 Tryz.underlying54 rfl (zt _ HST.o.2.2.2.2) ?_)
        |(refine qZi rfl _ _ _ rfl _ _ (bkC x').toArray rfl rfl HST.o.1 HST.o.2.1 (qYu (zv _)) ?_)
        |(refine qZi rfl _ _ _ rfl _ _ (bkC x').toArray rfl rfl HST.o.2.2.2.1 HST.o.2.1 (qYu (zv _)) ?_)
        |fail)
       have hth8:(w6.setCells w5.heap.size 0 (bkC x')).there w.heap.size 0 (bkC x').length:=by rw[zo,HST.o.2.2.2.2];exact World.there_setCells hth6 _ _ _
       refine qYw (zn rfl _ _ w.heap.size 0 (bkC x') _ rfl (qYr _ _ _ _ hth8) Tryz.underlying54 rfl (zt _ HST.o.2.2.2.2)) rfl (.inr (.inr ⟨HZ.o,H1.o,by rw[qxu,hcur.out];rfl,?_,?_⟩))
       .obtain ⟨hd6,hS5,hua,hg6,hth6,hw5,hs1,hS',hSb,hlb⟩:=HD.o;have hv:Dv (fun j=>((S j/\j<w.heap.size)\/w.heap.size+1<=j)/\j<w5.heap.size) w6 b F O P.tail:=(H5.o.1.shrink (fun j hj hl=>⟨hj,hl⟩)).keep hua (fun _ _ h=>h);exact((hv.keep (zp _ _ _ _) (by rintro j ⟨-,h2⟩ e;omega)).keep (zp _ _ _ _) (by rintro j ⟨⟨-,h⟩|h,h2⟩ e<;>omega)).wide (fun j hj=>hS' j hj.1)
       .obtain ⟨hd6,hS5,hua,hg6,hth6,hw5,hs1,hS',hSb,hlb⟩:=HD.o;exact((hlow.out.trans (hua.mono (fun _ _ h=>h.elim))).trans ((zp _ _ _ _).mono (fun j _ e=>e▸H.o.2 _ (by omega)))).trans ((zp _ _ _ _).mono (fun j _ e=>e▸H.o.2 _ (qXv _)))
      .have hq:((s':Int)==(n:Int))=false:=by simpa using(fun e:(s':Int)=n=>heq (by omega))
       have hHN:Hid (∀p∈O.drop k,p.1≠n):=by
        intro p hp;rw[qyb hlt]at hp;rcases qzr.1 hp with rfl|hp
        .rw [HO.o];exact heq
        .exact HN.o p hp
       clear heq;go_wp2
       go_round
       case rel=>exact⟨k,by omega,rfl,hHN.out⟩
       case measure=>simp[intOf]
 .have HZ:=qqh hz;have hz':(hasC F.length s==0)=false:=by simpa using hz
  have hz2:(hasC F.length s !=0)=true:=by simpa using hz
  obtain⟨hd1,hu1,hg1,hs1,hS',hSb,hlb⟩:=HX.o;have hth:w4.there w.heap.size 0 64:=fun j hj=>by
   rw[za hg1,zf hg1];exact⟨by rw[qYe,qxe (by simp[zo,zw];omega)];rfl,rfl⟩
  clear hd1 hu1 hg1 hs1 hS' hSb hlb hz;go_wp2_with (first
    |(refine qZi rfl _ _ _ rfl _ _ (bkC zB).toArray rfl rfl (by rw[zl _ zw];exact hth) (by rw[zl _ zw];exact zF) (qYu (zv _)) ?_)
    |fail)
  rw[qxr];refine qYw (zn rfl _ _ w.heap.size 0 (bkC zB) _ rfl (qYr _ _ _ _ (by rw[zo,zw];exact hth)) Tryz.underlying54 rfl (zt zB zw)) rfl (.inl ⟨HZ.o,rfl,?_,?_⟩)
  .exact (HX.o.1.keep (zp _ _ _ _) (by rintro j (⟨-,h⟩|h) e<;>omega)).wide (by obtain⟨-,-,-,-,hS',-⟩:=HX.o;exact hS')
  .exact (HX.o.2.1.mono (fun _ _ h=>h.elim)).trans ((zp _ _ _ _).mono (fun j _ e=>e▸H.o.2 _ (qXv _)))
structure DRes where
 F:List Bk
 O:List (Nat×Bk)
 P:List Int
 cd:Int
def Ro(S:Nat->Prop)(w:World)(b:Nat)(r:DRes)(e:Ending)(w':World):Prop:=e=.returned (.int .i64 r.cd)/\Dv S w' b r.F r.O r.P/\Upd S w w'
def flushR(F:List Bk)(O:List (Nat×Bk))(P:List Int):DRes:=
 if fate P=1 then⟨F,O,P.tail,21⟩else if fate P=0 then⟨flushF F O,[],P.tail,0⟩else ⟨F,O,P.tail,0⟩
def writeR(F:List Bk)(O:List (Nat×Bk))(P:List Int)(s:Nat)(y:Bk):DRes:=
 if fate P=1 then⟨F,O,P.tail,20⟩else if fate P=0 then⟨F,O++[(s,y)],P.tail,0⟩else ⟨F,O,P.tail,0⟩
theorem Wj{n s:Nat}(h:s<n):hasC n (s:Int)=0:=if_neg (by omega)
theorem xF{S:Nat->Prop}{w:World}{b:Nat}{F:List Bk}{O:List (Nat×Bk)}{P:List Int}(h:Dv S w b F O P)(hn:∀j,w.heap.size<=j->S j):
  Calls Tryz.prog 46 #[.pointer (some ⟨b,0,none⟩)] w (Ro S w b (flushR F O P)):=
 (Jy h hn).mono fun e w' h=>by
  rcases h with⟨h1,rfl,hd,hu⟩|⟨h1,rfl,hd,hu⟩|⟨h1,h2,rfl,hd,hu⟩
  .rw [flushR,if_pos h1];exact⟨rfl,hd,hu⟩
  .rw [flushR,if_neg (by omega),if_pos h1];exact⟨rfl,hd,hu⟩
  .rw [flushR,if_neg h2,if_neg h1];exact⟨rfl,hd,hu⟩
theorem wI{S:Nat->Prop}{w:World}{b:Nat}{F:List Bk}{O:List (Nat×Bk)}{P:List Int}(h:Dv S w b F O P)(hn:∀j,w.heap.size<=j->S j)(s:Nat)(hs:s<F.length)(x:Bk)(hx:x.length=64)(hO:O.length<65536):
  Calls Tryz.prog 18 #[.pointer (some ⟨b,0,none⟩),.int .i64 (s:Int),.agg (bkC x).toArray] w (Ro S w b (writeR F O P s x)):=
 (Jw h hn s x hx hO).mono fun e w' h=>by
  have h0:=Wj hs;rcases h with⟨h1,-⟩|⟨-,h1,rfl,hd,hu⟩|⟨-,h1,rfl,hd,hu⟩|⟨-,h1,h2,rfl,hd,hu⟩
  .exact absurd h0 h1
  .rw [writeR,if_pos h1];exact⟨rfl,hd,hu⟩
  .rw [writeR,if_neg (by omega),if_pos h1];rw[qxu]at hd;exact⟨rfl,hd,hu⟩
  .rw [writeR,if_neg h2,if_neg h1];exact⟨rfl,hd,hu⟩
def Rt(S:Nat->Prop)(w:World)(b:Nat)(F:List Bk)(O:List (Nat×Bk))(P:List Int)(s:Nat)(e:Ending)(w':World):Prop:=
 ∃(y:Bk) (cd:Int),e=.returned (.tuple #[.agg (bkC y).toArray,.int .i64 cd])/\y=(if fate P=1 then zB else curB F O s)/\cd=(if fate P=1 then 19 else 0)/\y.length=64/\Dv S w' b F O P.tail/\Upd S w w'
theorem xu{S:Nat->Prop}{w:World}{b:Nat}{F:List Bk}{O:List (Nat×Bk)}{P:List Int}(h:Dv S w b F O P)(hn:∀j,w.heap.size<=j->S j)(s:Nat)(hs:s<F.length):
  Calls Tryz.prog 67 #[.pointer (some ⟨b,0,none⟩),.int .i64 (s:Int)] w (Rt S w b F O P s):=
 (Ar h hn s).mono fun e w' h'=>by
  have h0:=Wj hs;rcases h' with⟨h1,-⟩|⟨-,h1,rfl,hd,hu⟩|⟨-,h1,rfl,hd,hu⟩
  .exact absurd h0 h1
  .exact ⟨zB,19,rfl,(if_pos h1).symm,(if_pos h1).symm,zw,hd,hu⟩
  .exact ⟨curB F O s,0,rfl,(if_neg h1).symm,(if_neg h1).symm,tO h.good s,hd,hu⟩
theorem Dv.but{S:Nat->Prop}{w:World}{b:Nat}{F:List Bk}{O:List (Nat×Bk)}{P:List Int}(h:Dv S w b F O P){q:Nat}(hq:w.heap.size<=q):Dv (fun j=>S j/\j≠q) w b F O P:=
 h.shrink (fun j hj hl=>⟨hj,by omega⟩)
def JrAt(w:World)(j:Nat)(d:Nat)(base n seq next:Int):Prop:=
 w.cell? ⟨j,0,none⟩=some (.pointer (some ⟨d,0,none⟩))/\w.cell? ⟨j,1,none⟩=some (.int .i64 base)/\w.cell? ⟨j,2,none⟩=some (.int .i64 n)/\
  w.cell? ⟨j,3,none⟩=some (.int .i64 seq)/\w.cell? ⟨j,4,none⟩=some (.int .i64 next)
theorem As(w:World)(j d:Nat)(base n seq next:Int)(h:JrAt w j d base n seq next):
  Calls Tryz.prog 154 #[.pointer (some ⟨j,0,none⟩)] w fun e w'=>e=.returned (.int .i64 next)/\w=w':=by
 obtain⟨h0,h1,h2,h3,h4⟩:=h;go_enter Tryz.func154,Tryz.ntmps154
 go_wp2
 go_ret
 exact⟨rfl,rfl⟩
theorem Wk{S:Nat->Prop}{w:World}{b:Nat}{F:List Bk}{O:List (Nat×Bk)}{P:List Int}(h:Dv S w b F O P)(base n:Nat)(h1:1<=n)(h2:n<=1024)(h3:base+n<=F.length)(h4:F.length<=4096):
  Calls Tryz.prog 103 #[.pointer (some ⟨b,0,none⟩),.int .i64 (base:Int),.int .i64 (n:Int)] w fun e w'=>e=.returned (.int .i64 0)/\w=w':=by
 have q1:decide ((base:Int)<0)=false:=by simp
 have q2:decide ((n:Int)<1)=false:=by simp;omega
 have q3:decide ((n:Int)>1024)=false:=by simp;omega
 have q3':decide (1024<(n:Int))=false:=by simp;omega
 have q4:decide ((base:Int)>F.length-n)=false:=by simp;omega
 have q4':decide ((F.length:Int)-n<(base:Int))=false:=by simp;omega
 go_enter Tryz.func103,Tryz.ntmps103
 go_wp2_with (first
  |(go_at_call 47;refine(wW h).mono ?_;rintro e w' ⟨rfl,rfl⟩)
  |fail)
 go_ret
 exact⟨rfl,rfl⟩
structure JnGood(base n cov next:Nat)(W:List (Nat×Bk)):Prop where
 w64:∀p∈W,p.2.length=64
 lt:∀p∈W,p.1<next
 n1:1<=n/\n<=1024
 wl:W.length+cov+1<=next
 room:next<=cov+n+1
 mx:next<=1099511627777
 bs:base<=4096
structure JnAt(w:World)(j:Nat)(vw:Value)(d base n cov next:Nat)(W:List (Nat×Bk)):Prop where
 str:w.heap[j]?=some (.cells #[.pointer (some ⟨d,0,none⟩),.int .i64 base,.int .i64 n,.int .i64 cov,.int .i64 next,vw] 276 (0,0))
 ws:Sl w 289 65 vw W.length (Rn W)
 wb:vw.ownBlock≠some j
 good:JnGood base n cov next W
def Ji(j:Nat)(vw:Value):Nat->Prop:=fun k=>k=j\/vw.ownBlock=some k
section
variable{w w':World}{j d base n cov next:Nat}{vw:Value}{W:List (Nat×Bk)}
theorem JnAt.keep(h:JnAt w j vw d base n cov next W){S:Nat->Prop}(hu:Upd S w w')(hs:∀k,Ji j vw k->¬S k):JnAt w' j vw d base n cov next W:=
 {h with
  str:=(hu.block _ (zd h.str) (hs j (.inl rfl))).trans h.str
  ws:=h.ws.keep hu (fun g hg=>hs g (.inr hg))}
theorem JnAt.new(h:JnAt w j vw d base n cov next W)(hu:Upd (fun _=>False) w w'):JnAt w' j vw d base n cov next W:=h.keep hu (fun _ _ h=>h)
theorem JnAt.slt(h:JnAt w j vw d base n cov next W):∀k,Ji j vw k->k<w.heap.size:=by
 rintro k (rfl|hk)
 .exact zd h.str
 .exact h.ws.lt hk
theorem JnAt.c(h:JnAt w j vw d base n cov next W):w.cell? ⟨j,0,none⟩=some (.pointer (some ⟨d,0,none⟩))/\w.cell? ⟨j,1,none⟩=some (.int .i64 base)/\w.cell? ⟨j,2,none⟩=some (.int .i64 n)/\
  w.cell? ⟨j,3,none⟩=some (.int .i64 cov)/\w.cell? ⟨j,4,none⟩=some (.int .i64 next)/\w.cell? ⟨j,5,none⟩=some vw:=by
 refine⟨?_,?_,?_,?_,?_,?_⟩<;>rw[za h.str]<;>rfl
theorem JnAt.fz(h:JnAt w j vw d base n cov next W)(i:Nat):w.frozen? ⟨j,i,none⟩=false:=zf h.str i
structure WtAt(w:World)(vw:Value)(next:Nat)(W:List (Nat×Bk)):Prop where
 ws:Sl w 289 65 vw W.length (Rn W)
 w64:∀p∈W,p.2.length=64
 lt:∀p∈W,p.1<next
 wl:W.length+1<=next
 mx:next<=1099511627777
theorem JnAt.wt(h:JnAt w j vw d base n cov next W):WtAt w vw next W:=⟨h.ws,h.good.w64,h.good.lt,by have:=h.good.wl;omega,h.good.mx⟩
theorem WtAt.keep(h:WtAt w vw next W){S:Nat->Prop}(hu:Upd S w w')(hs:∀k,vw.ownBlock=some k->¬S k):WtAt w' vw next W:={h with ws:=h.ws.keep hu hs}
theorem WtAt.new(h:WtAt w vw next W)(hu:Upd (fun _=>False) w w'):WtAt w' vw next W:=h.keep hu (fun _ _ h=>h)
theorem WtAt.range(h:WtAt w vw next W){k:Nat}(hk:k<W.length):∃g off cap,vw=.slice (some ⟨g,off,none⟩) W.length cap/\g<w.heap.size/\W.length<=cap/\w.rangeAt g (off+k*65) (wrC W[k].1 W[k].2):=by
 obtain⟨hl,⟨_,h0⟩|⟨g,off,cap,cur,rfl,hg,hn,hm,hs,hc⟩⟩:=h.ws
 .omega
 .refine ⟨g,off,cap,rfl,zd hg,hn,fun j v hj=>?_⟩;have hj':=(qyp.1 hj).1;rw[wrC_len,h.w64 _ (qyz hk)]at hj';rw[za hg,qXr];exact hc _ _ (by rw[UJ h.w64 hk hj'];exact hj)
theorem JnAt.range(h:JnAt w j vw d base n cov next W){k:Nat}(hk:k<W.length):∃g off cap,vw=.slice (some ⟨g,off,none⟩) W.length cap/\g<w.heap.size/\W.length<=cap/\w.rangeAt g (off+k*65) (wrC W[k].1 W[k].2):=h.wt.range hk
end
def Jn(S:Nat->Prop)(w:World)(j d base n cov next:Nat)(W:List (Nat×Bk)):Prop:=∃vw,JnAt w j vw d base n cov next W/\∀k,Ji j vw k->S k
theorem Jn.thing(j d base n cov next:Nat)(W:List (Nat×Bk)):Thing (fun S w=>Jn S w j d base n cov next W)where
 keep:=fun h hu hs=>by
  obtain⟨v,h,hS⟩:=h;exact⟨v,h.keep hu (fun j hj=>hs j (hS j hj)),hS⟩
 out:=fun h hs=>by
  obtain⟨v,h,hS⟩:=h;exact⟨v,h,fun j hj=>hs j (h.slt j hj) (hS j hj)⟩
theorem Jn.good{S:Nat->Prop}{w:World}{j d base n cov next:Nat}{W:List (Nat×Bk)}(h:Jn S w j d base n cov next W):JnGood base n cov next W:=by obtain⟨v,h,-⟩:=h;exact h.good
theorem Vj{S:Nat->Prop}{w:World}{j d base n cov next:Nat}{W:List (Nat×Bk)}(h:Jn S w j d base n cov next W):
  Calls Tryz.prog 154 #[.pointer (some ⟨j,0,none⟩)] w fun e w'=>e=.returned (.int .i64 (next:Int))/\w=w':=by
 obtain⟨v,h,-⟩:=h;obtain⟨c0,c1,c2,c3,c4,c5⟩:=h.c;exact As w j d base n cov next ⟨c0,c1,c2,c3,c4⟩
theorem UN{S:Nat->Prop}{T:Nat->Prop}{w:World}{b:Nat}{F:List Bk}{O:List (Nat×Bk)}{P:List Int}(h:Dv T w b F O P)(hn:∀j,w.heap.size<=j->S j)(base n seq:Nat)(h1:1<=n)(h2:n<=1024)(h3:base+n<=F.length)(h5:seq<1099511627776):
  Calls Tryz.prog 131 #[.pointer (some ⟨b,0,none⟩),.int .i64 (base:Int),.int .i64 (n:Int),.int .i64 (seq:Int)] w fun e w'=>∃j,e=.returned (.tuple #[.pointer (some ⟨j,0,none⟩),.int .i64 0])/\
   Jn S w' j b base n seq (seq+1) []/\w.heap.size<=j/\Below w.heap.size w w':=by
 have h4:=h.good.fl;have q1:decide ((seq:Int)<0)=false:=by simp
 have q2:decide ((seq:Int)>=1099511627776)=false:=by simp;omega
 have hs:¬(1099511627776<=(seq:Int)):=by omega
 go_enter Tryz.func131,Tryz.ntmps131
 go_wp2_with (first
  |(go_at_call 103;refine(Wk h base n h1 h2 h3 h4).mono ?_;rintro e w' ⟨rfl,rfl⟩)
  |fail)
 go_ret2
 have hb:=zc w (.cells #[.pointer (some ⟨b,0,none⟩),.int .i64 (base:Int),.int .i64 (n:Int),.int .i64 (seq:Int),.int .i64 ((seq:Int)+1),.slice none 0 0] 276) rfl;refine⟨w.heap.size,rfl,⟨.slice none 0 0,⟨?_,Sl.nil _ _ _,by simp[Value.ownBlock],⟨by simp,by simp,⟨h1,h2⟩,by simp,by omega,by omega,by omega⟩⟩,?_⟩,qXv _,(qxl _ w).alloc (qXv _) _⟩
 .rw [hb];simp
 .rintro k (rfl|hk)
  .exact hn _ (qXv _)
  .cases hk
theorem JA:(Tryz.prog.info? 289).map (·.size)=some 65:=by kernel_rfl
theorem vm(s:Int)(x:Bk)(hx:x.length=64):(Tryz.prog.info? 289).map (·.size)=some (wrC s x).length:=by
 rw[JA,wrC_len,hx]
theorem tw:Tryz.zeroCells289.size=65:=by kernel_rfl
theorem Jj(w:World)(q:Nat)(s:Int)(hq:w.cell? ⟨q,0,none⟩=some (.int .i64 s))(x:Nat)(y:Bk)(hx:(x:Int)<=s):
  Calls Tryz.prog 219 #[.agg (wrC (x:Int) y).toArray,.pointer (some ⟨q,0,none⟩)] w fun e w'=>e=.returned (.bool true)/\Below w.heap.size w w':=by
 have hqb:q<w.heap.size:=(zL hq).2;obtain⟨L,hL⟩:=qqe ((wrC (x:Int) y).toArray);have h0:L[0]?=some (.int .i64 (x:Int)):=by rw[hL];rfl
 have q1:decide ((x:Int)<=s)=true:=by simpa using hx
 have hq1:(w.alloc (.cells L 289)).cell? ⟨q,0,none⟩=some (.int .i64 s):=zm hq _;have hc:(w.alloc (.cells L 289)).cell? ⟨w.heap.size,0,none⟩=some (.int .i64 (x:Int)):=(za (zc w _ rfl) 0).trans h0;rw[<-hL];clear hL hq;go_enter Tryz.func219,Tryz.ntmps219
 go_wp2
 go_ret
 exact⟨rfl,(qxl _ _).alloc (qXv _) _⟩
end Go.Proofs.YtfhfbpmlnjdfoaaGreatDoor
