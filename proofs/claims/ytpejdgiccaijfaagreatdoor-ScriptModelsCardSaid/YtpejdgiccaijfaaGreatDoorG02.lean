/- A device: Flus -/
import Derived.Test.YtpejdgiccaijfaaGreatDoorG01
set_option maxRecDepth 100000
set_option maxHeartbeats 1000000
namespace Go.Proofs.YtpejdgiccaijfaaGreatDoor
open Go Go.RowKit Tryz
def flushF(F:List Bk)(O:List (Nat×Bk)):List Bk:=O.foldl (fun F p=>F.set p.1 p.2) F
theorem xD(F:List Bk)(O:List (Nat×Bk))(p:Nat×Bk):flushF F (O++[p])=(flushF F O).set p.1 p.2:=by simp[flushF]
theorem zM(F:List Bk)(O:List (Nat×Bk)):(flushF F O).length=F.length:=by
 induction O generalizing F with
 |nil=>rfl
 |cons p O ih=>simp only[flushF,List.foldl_cons]at ih⊢;rw[ih];simp
theorem Qf{O:List (Nat×Bk)}(h:∀p∈O,p.2.length=64){i:Nat}(hi:i<O.length){j:Nat}(hj:j<65):(SY O)[i*65+j]?=(wrC O[i].1 O[i].2)[j]?:=by
 induction O generalizing i with
 |nil=>simp at hi
 |cons x O ih=>
  have h1:=h x oe;cases i with
  |zero=>
   simp only[SY,qye,qXz,qXx,qys];rw[qyg (by simp[zm,h1];exact hj)]
  |succ i=>
   simp only[SY,qye,qyr];rw[qyh (by simp[zm,h1];omega)];have:=ih (fun y hy=>h y (by simp[hy])) (i:=i) ox;rw[<-this];simp only[qyz,zm,h1]
   congr 1
   omega
section
variable{w w' w2:World}{b:Nat}{vf vo vp v2:Value}{F F':List Bk}{O O':List (Nat×Bk)}{P P':List Int}
theorem DvAt.opRange(h:DvAt w b vf vo vp F O P){k:Nat}(hk:k<O.length):∃g off cap,vo=.slice (some ⟨g,off,none⟩) O.length cap/\g<w.heap.size/\O.length<=cap/\w.rangeAt g (off+k*65) (wrC O[k].1 O[k].2):=by
 obtain⟨hl,⟨_,h0⟩|⟨g,off,cap,cur,rfl,hg,hn,hm,hs,hc⟩⟩:=h.os
 .omega
 .refine ⟨g,off,cap,rfl,zd hg,hn,fun j v hj=>?_⟩;have ho:∀p∈O,p.2.length=64:=fun p hp=>(h.good.o64 p hp).1;have hj':=(qyl.1 hj).1;rw[wrC_len,ho _ (qyu hk)]at hj';rw[za hg,qXl];exact hc _ _ (by rw[Qf ho hk hj'];exact hj)
theorem DvAt.kv(h:DvAt w b vf vo vp F O P){k:Nat}(hk:k<F.length):∃g off cap,vf=.slice (some ⟨g,off,none⟩) F.length cap/\g<w.heap.size/\F.length<=cap/\w.rangeAt g (off+k*64) (bkC F[k])/\w.there g (off+k*64) 64:=by
 obtain⟨hl,⟨_,h0⟩|⟨g,off,cap,cur,rfl,hg,hn,hm,hs,hc⟩⟩:=h.fs
 .omega
 .have:=qXu 64 hn;exact⟨g,off,cap,rfl,zd hg,hn,sh h.good.f64 hg hc hk,sj hg hk oM⟩
theorem DvAt.setFirm{g off cap:Nat}(h:DvAt w b (.slice (some ⟨g,off,none⟩) F.length cap) vo vp F O P){s:Nat}(hs:s<F.length){x:Bk}(hx:x.length=64):
  DvAt (w.setCells g (off+s*64) (bkC x)) b (.slice (some ⟨g,off,none⟩) F.length cap) vo vp (F.set s x) O P:=by
 have hu:=zo w g (off+s*64) (bkC x);have hne:g≠b:=fun e=>h.fb oH;have hfs:=Sl.row_set h.good.f64 h.fs hs hx;rw[qze]at hfs;have hlen:(F.set s x).length=F.length:=qze;exact{h with
  str:=(hu.block b h.blt (fun e=>hne e.symm)).trans h.str
  fs:=by rw[hlen];exact hfs
  os:=h.os.keep hu (fun g' hg' e=>h.fo g' oH hg')
  ps:=h.ps.keep hu (fun g' hg' e=>h.fp g' oH hg')
  good:={h.good with f64:=h.good.f64.set s hx,o64:=by rw[hlen];exact h.good.o64,f1:=by rw[hlen];exact h.good.f1,fl:=by rw[hlen];exact h.good.fl}}
theorem DvAt.openNil(h:DvAt w b vf vo vp F O P):DvAt (w.setCell ⟨b,1,none⟩ (.slice none 0 0)) b vf (.slice none 0 0) vp F [] P:=
 {str:=zh h.str 1 _
  fs:=h.fs.ky (zi _ _ _ _) h.fb
  os:=Sl.nil _ _ _
  ps:=h.ps.ky (zi _ _ _ _) h.pb
  good:={h.good with o64:=oe,ol:=by simp}
  fb:=h.fb
  ob:=by simp[Value.ownBlock]
  pb:=h.pb
  fo:=(Dis.nil _ _ _).symm
  fp:=h.fp
  op:=Dis.nil _ _ _}
end
theorem tx{F:List Bk}{O:List (Nat×Bk)}{k:Nat}(hk:k<O.length):flushF F (O.take (k+1))=(flushF F (O.take k)).set O[k].1 O[k].2:=by
 rw[qXk hk,xD]
theorem Qg(s:Int)(x:Bk)(hx:x.length=64):(prog.info? 145).map (·.size)=some (wrC s x).length:=by
 obtain⟨i,z,hi,_,_,h1,_⟩:=xi;rw[hi,wrC_len,hx,Option.map_some,h1]
theorem zK{w:World}{g o b o':Nat}{v:Value}{vs:List Value}(h:w.cell? ⟨g,o,none⟩=some v)(hne:¬g=b):(w.setCells b o' vs).cell? ⟨g,o,none⟩=some v:=by
 rw[World.cell?_setCells_out b vs o' w _ (fun e _=>absurd e hne),h]
theorem Jf{S:Nat->Prop}{w:World}{b g0:Nat}{F:List Bk}{O:List (Nat×Bk)}{P:List Int}(h:Dv S w b F O P)(hn:∀j,w.heap.size<=j->S j)
  (c0:w.cell? ⟨g0,0,none⟩=some (.pointer (some ⟨b,0,none⟩))) (s0:¬S g0):
  Calls prog 83 #[.pointer (some ⟨g0,0,none⟩)] w fun e w'=>e=.returned (.tuple #[])/\Dv S w' b (flushF F O) [] P/\Upd S w w':=by
 obtain⟨vf,vo,vp,h,hS⟩:=h;obtain⟨-,d1,-⟩:=h.c;obtain⟨ao,co,rfl⟩:=h.os.rd.jU;have hol:=h.good.ol;have H:=Y5 h hS hn c0 s0;clear h hS hn;go_enter func83,ntmps83
 go_wp2
 go_loopw[8] (fun i wr=>∃k:Nat,k<=O.length/\i=.int .i64 k/\DvAt wr b vf (.slice ao O.length co) vp (flushF F (O.take k)) O P/\Upd (fun j=>vf.ownBlock=some j\/w.heap.size<=j) w wr)
  (fun i _=>O.length-(intOf i).toNat)
 case atStart=>exact⟨0,qXy _,rfl,H.o.1,uur _ _⟩
 case round=>
  obtain⟨k,hk,rfl,hd,hu⟩:=hrel;by_cases hlt:k<O.length
  .obtain ⟨h,hS,hn,c0,s0⟩:=H.o;obtain⟨gO,oO,cO,e1,hgO,hcO,rO⟩:=hd.opRange hlt;obtain⟨rfl,rfl⟩:ao=some ⟨gO,oO,none⟩/\co=cO:=by injection e1 with e1 _ e2;exact⟨e1,e2⟩
   clear e1;have hsx:=hd.good.o64 O[k] (qyu hlt);obtain⟨s,x,hO⟩:∃s x,O[k]=(s,x):=⟨_,_,rfl⟩
   rw[hO]at hsx rO;have HO:=qqh hO;clear hO;obtain⟨hx,hs⟩:=hsx;obtain⟨gF,oF,cF,e1,hgF,hcF,rF,tF⟩:=hd.kv hs;have hO1:0<=(k:Int)/\(k:Int)<O.length:=⟨oM,oM⟩
   have hwr:w.heap.size<=wr.heap.size:=hu.size;go_wp2_with (first
    |refine qYy rfl _ _ rfl _ _ rfl _ _ rO underlying145 rfl (Qg _ _ hx) ?_
    |(refine zk rfl _ _ _ rfl _ _ _ rfl rfl (by rw[Zi,wrC_len,hx]) (Qg _ _ hx) (vU _ _) ?_)
    |fail)
   rw[zM]at hs e1 hcF;subst e1;have hu1:Upd (fun _=>False) wr (wr.alloc (.cells (wrC (s:Int) x).toArray 145)):=(uur _ _).alloc _;have hd1:=hd.new hu1;have hU1:=hu.trans (hu1.mono fE);have q2:(wr.alloc (.cells (wrC (s:Int) x).toArray 145)).rangeAt wr.heap.size 0 (wrC (s:Int) x):=fun j v hv=>by
    rw[za (zc wr _ rfl)];simpa using hv
   have q1:=q2 0 _ rfl;have q3:(wr.alloc (.cells (wrC (s:Int) x).toArray 145)).rangeAt wr.heap.size 1 (bkC x):=fun j v hv=>by
    have:=q2 (1+j) v jj;rw[qXx]at this;exact this
   have q4:=qYm tF (.cells (wrC (s:Int) x).toArray 145);have hne0:¬g0=gF:=fun e=>s0 (hS g0 (.inr (.inl oH)));have q0:=hU1.jS c0 (by rintro(e|e);exact hne0 (by simpa[Value.ownBlock]using e.symm);have:=qYg w _ c0;simp at this;omega);obtain⟨q5,-,-⟩:=hd1.c;have hneb:¬b=gF:=fun e=>hd.fb oH;have hut:=underlying60;have hsi:=zq x hx;have hlx:(bkC x).length=64:=by rw[zm,hx]
   have h1x:=zu x;have hsb:0<=(s:Int)/\(s:Int)<F.length:=⟨oM,oM⟩
   have hnm:¬wr.heap.size=gF:=oM;rw[qXx]at q1;obtain⟨hsb1,hsb2⟩:=hsb;generalize wr.alloc (.cells (wrC (s:Int) x).toArray 145)=W1 at*;have HH:=Y5 hd1 hU1 hd hu hwr;clear hd1 hU1 hd hu hwr hu1 q2 hS hn h tF rF rO c0 s0 hgO hgF;generalize wr.heap.size=m at*
   go_region_held3 (fun W=>W.cell? ⟨g0,0,none⟩=some (.pointer (some ⟨b,0,none⟩))/\W.cell? ⟨b,0,none⟩=some (.slice (some ⟨gF,oF,none⟩) F.length cF)/\W.cell? ⟨m,0,none⟩=some (.int .i64 (s:Int))/\W.rangeAt m 1 (bkC x)/\W.there gF (oF+s*64) 64)
    ((go_split_ands;(simp only[qYj,World.there_drew,qYh]at*);((repeat' constructor)<;>first|assumption|(apply World.there_setCells;assumption)|(refine zK ?_ ?_<;>assumption)|(refine World.rangeAt_setCells_apart (by assumption) _ _ _ oM))))
    (fail)
   have hset:DvAt (W1.drew.setCells gF (oF+s*64) (bkC x)) b (.slice (some ⟨gF,oF,none⟩) F.length cF) (.slice (some ⟨gO,oO,none⟩) O.length co) vp (flushF F (O.take (k+1))) O P:=by
    obtain⟨hd1,hU1,hd,hu,hwr⟩:=HH.o;have h2:=hd1.new ((uur (fun _=>False) _).drew);rw[<-zM F (O.take k)]at h2;have:=h2.setFirm (s:=s) (x:=x) (by rw[zM];exact hs) hx;rw[zM]at this;rw[tx hlt,HO.o];exact this
   have hUs:Upd (fun j=>(Value.slice (some ⟨gF,oF,none⟩) F.length cF).ownBlock=some j\/w.heap.size<=j) w (W1.drew.setCells gF (oF+s*64) (bkC x)):=
    HH.o.2.1.drew.trans ((zo W1.drew gF (oF+s*64) (bkC x)).mono (fun j _ e=> .inl oH))
   have HS:=Y2 hset hUs;clear hset hUs;go_wp2
   go_roundw
   case rel=>exact⟨k+1,oM,by go_num,HS.o.1,HS.o.2⟩
   case measure=>simp[intOf];omega
  .obtain rfl:k=O.length:=oM;rw[List.take_length]at hd;obtain⟨h,hS,hn,c0,s0⟩:=H.o;have hUS:Upd S w wr:=hu.mono (fun j _ e=>e.elim (fun e=>hS j (.inr (.inl e))) (hn j));have q0:=hUS.jS c0 s0;have q1:=hd.fz 1;obtain⟨-,q2,-⟩:=hd.c;have HH:=Y4 hd hUS hS hn;clear hd hUS hu h hS hn c0 s0;go_wp2
   go_end0
   obtain⟨hd,hUS,hS,hn⟩:=HH.o;refine⟨rfl,⟨vf,_,vp,hd.openNil,?_⟩,hUS.trans (Upd.mono (zi _ _ _ _) (fun k _ hk=>hk▸hS _ (.inl rfl)))⟩;rintro j (rfl|h|h|h)
   .exact hS _ (.inl rfl)
   .exact hS _ (.inr (.inl h))
   .cases h
   .exact hS _ (.inr (.inr (.inr h)))
def UB(S:Nat->Prop)(w:World)(b:Nat)(F:List Bk)(O:List (Nat×Bk))(P:List Int)(e:Ending)(w':World):Prop:=
 (fate P=1/\e=.returned (.int .i64 21)/\Dv S w' b F O P.tail/\Upd S w w')\/
 (fate P=0/\e=.returned (.int .i64 0)/\Dv S w' b (flushF F O) [] P.tail/\Upd S w w')\/
 (fate P≠0/\fate P≠1/\e=.returned (.int .i64 0)/\Dv S w' b F O P.tail/\Upd S w w')
theorem AA{S:Nat->Prop}{w:World}{b:Nat}{F:List Bk}{O:List (Nat×Bk)}{P:List Int}(h:Dv S w b F O P)(hn:∀j,w.heap.size<=j->S j):
  Calls prog 54 #[.pointer (some ⟨b,0,none⟩)] w (UB S w b F O P):=by
 have hmf:=qqf;have H:=Y2 h hn;clear h hn;go_enter func54,ntmps54
 go_wp2_with fail
 have hu:Upd (fun _=>False) w (w.alloc (.cells #[.pointer (some ⟨b,0,none⟩)] 38)):=(uur _ w).alloc _;have c0:(w.alloc (.cells #[.pointer (some ⟨b,0,none⟩)] 38)).cell? ⟨w.heap.size,0,none⟩=some (.pointer (some ⟨b,0,none⟩)):=za (zc w _ rfl) 0;have hsz:(w.alloc (.cells #[.pointer (some ⟨b,0,none⟩)] 38)).heap.size=w.heap.size+1:=oe;generalize (w.alloc (.cells #[.pointer (some ⟨b,0,none⟩)] 38))=w3 at hu c0 hsz⊢;obtain⟨hd0,hn⟩:=H.o;have hbS:=hd0.sb;have hS':∀j,((S j/\j<w.heap.size)\/w.heap.size+1<=j)->S j:=by
  rintro j (⟨h,-⟩|h)
  .exact h
  .exact hn j oM
 have hd4:Dv (fun j=>(S j/\j<w.heap.size)\/w.heap.size+1<=j) w3 b F O P:=(hd0.ku (fun j hj hl=> .inl ⟨hj,hl⟩)).keep hu (fun _ _ h=>h);have HO:=Y3 hS' hu hbS;refine(Qb hd4 21 83 _ (fun W=>Dv (fun j=>(S j/\j<w.heap.size)\/w.heap.size+1<=j) W b (flushF F O) [] P.tail/\Upd (fun j=>(S j/\j<w.heap.size)\/w.heap.size+1<=j) w3 W) (fun _ _=>rfl) ?_).mono ?_
 .intro h0 w1 hd1 hu1;refine(Jf hd1 (fun j hj=> .inr (by have:=hu1.size;omega)) (hu1.jS c0 oM) oM).mono ?_;rintro e w' ⟨rfl,hD,hU⟩;exact⟨rfl,hD,(hu1.mono (fun j _ hj=>hj▸ .inl ⟨hbS.1,hbS.2⟩)).trans hU⟩
 .clear hd4 hd0 hn hu hsz hS' c0 hbS;rintro e w5 (⟨h1,rfl,hD,hU⟩|⟨h1,rfl,hD,hU⟩|⟨h1,h2,rfl,hD,hU⟩)
  .have D:=Y3 h1 hD hU;clear h1 hD hU;go_wp2
   go_ret
   exact .inl ⟨D.out.1,rfl,D.out.2.1.wide HO.o.1,(HO.o.2.1.mono fE).trans (D.out.2.2.mono (fun j _ hj=>hj▸HO.o.2.2.1))⟩
  .have D:=Y3 h1 hD hU;clear h1 hD hU;go_wp2
   go_ret
   exact .inr (.inl ⟨D.out.1,rfl,D.out.2.1.wide HO.o.1,(HO.o.2.1.mono fE).trans (D.out.2.2.mono (fun j _ hj=>HO.o.1 j hj))⟩)
  .have D:=Y4 h1 h2 hD hU;clear h1 h2 hD hU;go_wp2
   go_ret
   exact .inr (.inr ⟨D.out.1,D.out.2.1,rfl,D.out.2.2.1.wide HO.o.1,(HO.o.2.1.mono fE).trans (D.out.2.2.2.mono (fun j _ hj=>hj▸HO.o.2.2.1))⟩)
def curB(F:List Bk)(O:List (Nat×Bk))(s:Nat):Bk:=(flushF F O).getD s zB
theorem qk(F:List Bk)(O O':List (Nat×Bk)):flushF F (O++O')=flushF (flushF F O) O':=by simp[flushF]
theorem Yu{F:List Bk}{O:List (Nat×Bk)}{s:Nat}(h:∀p∈O,p.1≠s):(flushF F O)[s]?=F[s]?:=by
 induction O generalizing F with
 |nil=>rfl
 |cons p O ih=>
  have:=ih (F:=F.set p.1 p.2) (fun q hq=>h q (by simp[hq]));simp only[flushF,List.foldl_cons]at this⊢;rw[this,List.getElem?_set_ne (h p oe)]
theorem sr{F:List Bk}{O:List (Nat×Bk)}{s k:Nat}(h:∀p∈O.drop k,p.1≠s):curB F O s=curB F (O.take k) s:=by
 unfold curB;have:flushF F O=flushF (flushF F (O.take k)) (O.drop k):=by rw[<-qk,qXi]
 rw[this,qyf,Yu h,<-qyf]
theorem Qh{F:List Bk}{O:List (Nat×Bk)}{s k:Nat}(hk:k<O.length)(hs:s<F.length)(h0:O[k].1=s)(h:∀p∈O.drop (k+1),p.1≠s):curB F O s=O[k].2:=by
 rw[sr h];unfold curB;rw[tx hk,h0,qyf,List.getElem?_set_self (by rw[zM];exact hs)];rfl
theorem UC{F:List Bk}{O:List (Nat×Bk)}{s:Nat}(hs:s<F.length)(h:∀p∈O,p.1≠s):curB F O s=F[s]:=by
 rw[sr (k:=0) (by simpa using h)];simp[curB,flushF,hs]
theorem ql{F:List Bk}{O:List (Nat×Bk)}{P:List Int}(h:DvGood F O P)(s:Nat):(curB F O s).length=64:=by
 unfold curB;have:∀(O:List (Nat×Bk)) (F:List Bk),All64 F->(∀p∈O,p.2.length=64)->All64 (flushF F O):=by
  intro O
  induction O with
  |nil=>intro F h _;exact h
  |cons p O ih=>intro F hF hO;exact ih _ (hF.set p.1 (hO p oe)) (fun q hq=>hO q (by simp[hq]))
 have h2:=this O F h.f64 (fun p hp=>(h.o64 p hp).1);by_cases hs:s<(flushF F O).length
 .rw [qyf,qyj hs];exact h2 _ (qyu hs)
 .rw [qyf,qyk oM];exact zH
theorem AB(w:World):Calls prog 197 #[] w fun e w'=>e=.returned (.tuple #[])/\w'=w:=by
 go_enter func197,ntmps197
 go_wp2
 go_end0
 exact⟨rfl,rfl⟩
theorem zn(x:Bk)(hx:x.length=64):(bkC x).toArray.size=64:=by simp[zm,hx]
def Qi(S:Nat->Prop)(w:World)(b:Nat)(F:List Bk)(O:List (Nat×Bk))(P:List Int)(s:Int)(e:Ending)(w':World):Prop:=
 (hasC F.length s≠0/\e=.returned (.tuple #[bkV zB,.int .i64 (hasC F.length s)])/\Dv S w' b F O P/\Upd S w w')\/
 (hasC F.length s=0/\fate P=1/\e=.returned (.tuple #[bkV zB,.int .i64 19])/\Dv S w' b F O P.tail/\Upd S w w')\/
 (hasC F.length s=0/\fate P≠1/\e=.returned (.tuple #[bkV (curB F O s.toNat),.int .i64 0])/\Dv S w' b F O P.tail/\Upd S w w')
theorem zF:(prog.info? 60).map (·.size)=some 64:=zq zB zH
theorem zbX{S:Nat->Prop}{w:World}{b:Nat}{F:List Bk}{O:List (Nat×Bk)}{P:List Int}(h:Dv S w b F O P)(hn:∀j,w.heap.size<=j->S j)(s:Int):
  Calls prog 132 #[.pointer (some ⟨b,0,none⟩),.int .i64 s] w (Qi S w b F O P s):=by
 have H:=Y2 h hn;clear h hn;go_enter func132,ntmps132
 go_wp2
 go_step3
 go_wp2_with fail
 show Calls _ _ _ (w.alloc (.cells (bkC zB).toArray 60)) _;have hu1:Upd (fun _=>False) w (w.alloc (.cells (bkC zB).toArray 60)):=(uur _ w).alloc _;have hg1:(w.alloc (.cells (bkC zB).toArray 60)).heap[w.heap.size]?=some (.cells (bkC zB).toArray 60):=zc _ _ rfl;have hs1:(w.alloc (.cells (bkC zB).toArray 60)).heap.size=w.heap.size+1:=oe;generalize w.alloc (.cells (bkC zB).toArray 60)=w1 at*;obtain⟨hd0,hn⟩:=H.o;obtain⟨hSb,hlb⟩:=hd0.sb;have hd1:Dv (fun j=>(S j/\j<w.heap.size)\/w.heap.size+1<=j) w1 b F O P:=(hd0.ku (fun j hj hl=> .inl ⟨hj,hl⟩)).keep hu1 (fun _ _ h=>h);have hS':∀j,((S j/\j<w.heap.size)\/w.heap.size+1<=j)->S j:=by
  rintro j (⟨h,-⟩|h)
  .exact h
  .exact hn j oM
 have HX:=Y7 hd1 hu1 hg1 hs1 hS' hSb hlb;clear hd1 hu1 hg1 hs1 hS' hSb hlb hd0 hn;refine(zbV HX.o.1 s).mono ?_;rintro e w4 ⟨rfl,rfl⟩;by_cases hz:hasC F.length s=0
 .have HZ:=qqh hz;rw[hz];clear hz;go_wp2_with fail
  refine(Qb HX.o.1 19 197 #[] (fun W=>Dv (fun j=>(S j/\j<w.heap.size)\/w.heap.size+1<=j) W b F O P.tail/\Upd (fun j=>j=b) w4 W) (fun _ _=>rfl) ?_).mono ?_
  .intro h0 w1 hd1 hu1;refine(AB w1).mono ?_;rintro e w' ⟨rfl,rfl⟩;exact⟨rfl,hd1,hu1⟩
  .obtain ⟨hd1,hu1,hg1,hs1,hS',hSb,hlb⟩:=HX.o;rintro e w5 h5;have H5:Hid (Dv (fun j=>(S j/\j<w.heap.size)\/w.heap.size+1<=j) w5 b F O P.tail/\Upd (fun j=>j=b) w4 w5):=by
    rcases h5 with⟨-,-,a,b⟩|⟨-,-,a,b⟩|⟨-,-,-,a,b⟩<;>exact⟨a,b⟩
   have hth:w5.there w.heap.size 0 64:=fun j hj=>by
    have hg5:=(H5.o.2.block w.heap.size oM oM).trans hg1;rw[za hg5,zf hg5];exact⟨by rw[qXx,qxe (by simp[zm,zH];omega)];rfl,rfl⟩
   have hlow:Hid (Upd S w w5):=(hu1.mono fE).trans (H5.o.2.mono (fun j _ e=>e▸hSb));have hw5:=H5.o.2.size;clear hd1 hu1 hg1;have h6:(fate P=1/\e=.returned (.int .i64 19))\/(fate P≠1/\e=.returned (.int .i64 0)):=by
    rcases h5 with⟨h1,rfl,-,-⟩|⟨h0,rfl,-,-⟩|⟨h0,h1,rfl,-,-⟩
    .exact .inl ⟨h1,rfl⟩
    .exact .inr ⟨oM,rfl⟩
    .exact .inr ⟨h1,rfl⟩
   clear h5;rcases h6 with⟨h1,rfl⟩|⟨h1,rfl⟩
   .have H1:=qqh h1;clear h1 hs1 hS' hSb hlb hw5;go_wp2_with (first
     |(refine qZa rfl _ _ _ rfl _ _ (bkC zB).toArray rfl rfl (by rw[zn _ zH];exact hth) (by rw[zn _ zH];exact zF) (qYn (zu _)) ?_)
     |fail)
    rw[qxq];refine qYp (zp rfl _ _ w.heap.size 0 (bkC zB) _ rfl (qYk _ _ _ _ (by rw[zm,zH];exact hth)) underlying60 rfl (zq zB zH)) rfl (.inr (.inl ⟨HZ.o,H1.o,rfl,?_,?_⟩))
    .exact (H5.o.1.keep (zo _ _ _ _) (by rintro j (⟨-,h⟩|h) e<;>omega)).wide (by obtain⟨-,-,-,-,hS',-⟩:=HX.o;exact hS')
    .exact hlow.out.trans ((zo _ _ _ _).mono (fun j _ e=>e▸H.o.2 _ (qXo _)))
   .have H1:=qqh h1;clear h1;obtain⟨n,rfl⟩:∃n:Nat,s=n:=⟨s.toNat,(uM HZ.o).1.symm⟩
    have hsn:=(uM HZ.o).2;rw[qxt]at hsn;obtain⟨vf,vo,vp,hd5,hS5⟩:=H5.o.1;obtain⟨gF,oF,cF,rfl,hgF,hcF,rF,tF⟩:=hd5.kv hsn;obtain⟨ao,co,rfl⟩:=hd5.os.rd.jU;obtain⟨e0,e1,e2⟩:=hd5.c;have hfl:=hd5.good.fl;have hol:=hd5.good.ol;have hx:(F[n]).length=64:=hd5.good.f64 _ (qyu hsn);have hua:Upd (fun _=>False) w5 (w5.alloc (.cells (bkC F[n]).toArray 60)):=(uur _ _).alloc _;have hd6:=hd5.new hua;have hg6:=zc w5 (.cells (bkC F[n]).toArray 60) rfl;have hth6:=qYm hth (.cells (bkC F[n]).toArray 60);have e16:=hd6.c.2.1;have hb1:0<=(n:Int)/\(n:Int)<F.length:=⟨oM,oM⟩
    have hse:Hid ((bkC F[n]).length=64):=by show _=_;rw[zm,hx]
    have hse2:Hid (F[n].length=64):=hx;have HD:=Y10 hd6 hS5 hua hg6 hth6 hw5 hs1 hS' hSb hlb;clear hd5 hS5 hx tF hgF hcF hd6 hua hg6 hth6 hw5 hs1 hS' hSb hlb hth;obtain⟨hb1,hb2⟩:=hb1;go_wp2_with (first
     |(refine qYy rfl _ _ rfl _ _ rfl _ _ rF underlying60 rfl (zq _ hse2.out) ?_)
     |(refine zk rfl _ _ _ rfl _ _ _ rfl rfl hse.out.symm (zq _ hse2.out) (zu _) ?_)
     |fail)
    clear e0 e1 e2 rF;generalize w5.alloc (.cells (bkC F[n]).toArray 60)=w6 at*
    go_step3
    go_wp2
    go_loop [9] (fun i=>∃k:Nat,k<=O.length/\i=.int .i64 ((k:Int)-1)/\∀p∈O.drop k,p.1≠n) (fun i=>(intOf i+1).toNat)
    case atStart=>exact⟨O.length,qXo _,rfl,oe⟩
    case round=>
     obtain⟨k,hk,rfl,hno⟩:=hrel;have HN:Hid (∀p∈O.drop k,p.1≠n):=hno;clear hno;cases k with
     |zero=>
      obtain⟨hd6,hS5,hua,hg6,hth6,hw5,hs1,hS',hSb,hlb⟩:=HD.o;have r6:=zg hg6;have hzero:Hid (curB F O n=F[n]):=UC hsn (by have:=HN.o;simpa using this);have hst:w6.there w.heap.size 0 (bkC F[n]).toArray.size:=by rw[zn _ hse2.out];exact hth6
      have hsz2:(prog.info? 60).map (·.size)=some (bkC F[n]).toArray.size:=by rw[zn _ hse2.out];exact zF
      have HST:=Y2 hst hsz2;clear hd6 hS5 hua hg6 hs1 hS' hSb hlb hst hsz2;simp only[Int.natCast_zero];go_wp2_with (first
       |(refine qYy rfl _ _ rfl _ _ rfl _ _ r6 underlying60 rfl (zq _ hse2.out) ?_)
       |(refine qZa rfl _ _ _ rfl _ _ (bkC F[n]).toArray rfl rfl HST.o.1 HST.o.2 (qYn (zu _)) ?_)
       |fail)
      try rw[qxq]
      refine qYp (zp rfl _ _ w.heap.size 0 (bkC F[n]) _ rfl (qYk _ _ _ _ (by rw[hse.out];exact hth6)) underlying60 rfl (zq _ hse2.out)) rfl (.inr (.inr ⟨HZ.o,H1.o,by rw[qxt,hzero.out];rfl,?_,?_⟩))
      .obtain ⟨hd6,hS5,hua,hg6,hth6,hw5,hs1,hS',hSb,hlb⟩:=HD.o;exact(Dv.keep ⟨_,_,_,hd6,hS5⟩ (zo _ _ _ _) (by rintro j (⟨-,h⟩|h) e<;>omega)).wide hS'
      .obtain ⟨hd6,hS5,hua,hg6,hth6,hw5,hs1,hS',hSb,hlb⟩:=HD.o;exact(hlow.out.trans (hua.mono fE)).trans ((zo _ _ _ _).mono (fun j _ e=>e▸H.o.2 _ (qXo _)))
     |succ k=>
      have hlt:k<O.length:=oM;have ek:((k+1:Nat):Int)-1=(k:Int):=oM;rw[ek];clear ek;obtain⟨hd6,hS5,hua,hg6,hth6,hw5,hs1,hS',hSb,hlb⟩:=HD.o;obtain⟨gO,oO,cO,e2,hgO,hcO,rO⟩:=hd6.opRange hlt;obtain⟨rfl,rfl⟩:ao=some ⟨gO,oO,none⟩/\co=cO:=by injection e2 with e1 _ e2;exact⟨e1,e2⟩
      clear e2;obtain⟨s',x',hO⟩:∃s x,O[k]=(s,x):=⟨_,_,rfl⟩
      have hx':x'.length=64:=by have:=(hd6.good.o64 O[k] (qyu hlt)).1;rw[hO]at this;exact this
      rw[hO]at rO;have HO:=qqh hO;clear hO;have c0:=rO 0 _ rfl;have r1:w6.rangeAt gO (oO+k*65+1) (bkC x'):=fun j v hv=>by
       have:=rO (1+j) v jj;rw[<-qXl]at this;exact this
      rw[qXm]at c0;have hO1:0<=(k:Int)/\(k:Int)<O.length:=⟨oM,oM⟩
      clear hd6 hS5 hua hw5 hs1 hS' hSb hlb rO hgO hcO;by_cases heq:s'=n
      .subst heq;have hcur:Hid (curB F O s'=x'):=by
        have:=Qh hlt hsn (by rw[HO.o]) HN.o;rw[HO.o]at this;exact this
       obtain⟨gx,hgx⟩:∃g,g=w5.heap.size:=⟨_,rfl⟩
       have hst6:w6.there w5.heap.size 0 (bkC x').toArray.size:=by
        rw[zn _ hx'];intro j hj;rw[za hg6,zf hg6];exact⟨by rw[qXx,qxe (by rw[zn _ hse2.out];exact hj)];rfl,rfl⟩
       have hsz2:(prog.info? 60).map (·.size)=some (bkC x').toArray.size:=by rw[zn _ hx'];exact zF
       have h7:(w6.setCells w5.heap.size 0 (bkC x')).rangeAt w5.heap.size 0 (bkC x'):=qYk _ _ _ _ (by rw[zn _ hx']at hst6;rw[zm,hx'];exact hst6);have hth7:(w6.setCells w5.heap.size 0 (bkC x')).there w.heap.size 0 (bkC x').toArray.size:=by rw[zn _ hx'];exact World.there_setCells hth6 _ _ _
       have HST:=Y5 hst6 hsz2 h7 hth7 hx';clear hst6 hsz2 h7 hth7 hgx hx';go_wp2_with (first
        |(refine qYy rfl _ _ rfl _ _ rfl _ _ r1 underlying60 rfl (zq _ HST.o.2.2.2.2) ?_)
        |(refine qYy rfl _ _ rfl _ _ rfl _ _ HST.o.2.2.1 underlying60 rfl (zq _ HST.o.2.2.2.2) ?_)
        |(refine qZa rfl _ _ _ rfl _ _ (bkC x').toArray rfl rfl HST.o.1 HST.o.2.1 (qYn (zu _)) ?_)
        |(refine qZa rfl _ _ _ rfl _ _ (bkC x').toArray rfl rfl HST.o.2.2.2.1 HST.o.2.1 (qYn (zu _)) ?_)
        |fail)
       have hth8:(w6.setCells w5.heap.size 0 (bkC x')).there w.heap.size 0 (bkC x').length:=by rw[zm,HST.o.2.2.2.2];exact World.there_setCells hth6 _ _ _
       refine qYp (zp rfl _ _ w.heap.size 0 (bkC x') _ rfl (qYk _ _ _ _ hth8) underlying60 rfl (zq _ HST.o.2.2.2.2)) rfl (.inr (.inr ⟨HZ.o,H1.o,by rw[qxt,hcur.out];rfl,?_,?_⟩))
       .obtain ⟨hd6,hS5,hua,hg6,hth6,hw5,hs1,hS',hSb,hlb⟩:=HD.o;have hv:Dv (fun j=>((S j/\j<w.heap.size)\/w.heap.size+1<=j)/\j<w5.heap.size) w6 b F O P.tail:=(H5.o.1.ku (fun j hj hl=>⟨hj,hl⟩)).keep hua (fun _ _ h=>h);exact((hv.keep (zo _ _ _ _) (by rintro j ⟨-,h2⟩ e;omega)).keep (zo _ _ _ _) (by rintro j ⟨⟨-,h⟩|h,h2⟩ e<;>omega)).wide (fun j hj=>hS' j hj.1)
       .obtain ⟨hd6,hS5,hua,hg6,hth6,hw5,hs1,hS',hSb,hlb⟩:=HD.o;exact((hlow.out.trans (hua.mono fE)).trans ((zo _ _ _ _).mono (fun j _ e=>e▸H.o.2 _ oM))).trans ((zo _ _ _ _).mono (fun j _ e=>e▸H.o.2 _ (qXo _)))
      .have hq:((s':Int)==(n:Int))=false:=by simpa using(fun e:(s':Int)=n=>heq oM)
       have hHN:Hid (∀p∈O.drop k,p.1≠n):=by
        intro p hp;rw[qya hlt]at hp;rcases qzm.1 hp with rfl|hp
        .rw [HO.o];exact heq
        .exact HN.o p hp
       clear heq;go_wp2
       go_round
       case rel=>exact⟨k,oM,rfl,hHN.out⟩
       case measure=>simp[intOf]
 .have HZ:=qqh hz;have hz':(hasC F.length s==0)=false:=by simpa using hz
  have hz2:(hasC F.length s !=0)=true:=by simpa using hz
  obtain⟨hd1,hu1,hg1,hs1,hS',hSb,hlb⟩:=HX.o;have hth:w4.there w.heap.size 0 64:=fun j hj=>by
   rw[za hg1,zf hg1];exact⟨by rw[qXx,qxe (by simp[zm,zH];omega)];rfl,rfl⟩
  clear hd1 hu1 hg1 hs1 hS' hSb hlb hz;go_wp2_with (first
    |(refine qZa rfl _ _ _ rfl _ _ (bkC zB).toArray rfl rfl (by rw[zn _ zH];exact hth) (by rw[zn _ zH];exact zF) (qYn (zu _)) ?_)
    |fail)
  rw[qxq];refine qYp (zp rfl _ _ w.heap.size 0 (bkC zB) _ rfl (qYk _ _ _ _ (by rw[zm,zH];exact hth)) underlying60 rfl (zq zB zH)) rfl (.inl ⟨HZ.o,rfl,?_,?_⟩)
  .exact (HX.o.1.keep (zo _ _ _ _) (by rintro j (⟨-,h⟩|h) e<;>omega)).wide (by obtain⟨-,-,-,-,hS',-⟩:=HX.o;exact hS')
  .exact (HX.o.2.1.mono fE).trans ((zo _ _ _ _).mono (fun j _ e=>e▸H.o.2 _ (qXo _)))
structure DRes where
 F:List Bk
 O:List (Nat×Bk)
 P:List Int
 cd:Int
def SZ(S:Nat->Prop)(w:World)(b:Nat)(r:DRes)(e:Ending)(w':World):Prop:=e=.returned (.int .i64 r.cd)/\Dv S w' b r.F r.O r.P/\Upd S w w'
def flushR(F:List Bk)(O:List (Nat×Bk))(P:List Int):DRes:=
 if fate P=1 then⟨F,O,P.tail,21⟩else if fate P=0 then⟨flushF F O,[],P.tail,0⟩else ⟨F,O,P.tail,0⟩
def writeR(F:List Bk)(O:List (Nat×Bk))(P:List Int)(s:Nat)(y:Bk):DRes:=
 if fate P=1 then⟨F,O,P.tail,20⟩else if fate P=0 then⟨F,O++[(s,y)],P.tail,0⟩else ⟨F,O,P.tail,0⟩
theorem Vg{n s:Nat}(h:s<n):hasC n (s:Int)=0:=if_neg oM
theorem xE{S:Nat->Prop}{w:World}{b:Nat}{F:List Bk}{O:List (Nat×Bk)}{P:List Int}(h:Dv S w b F O P)(hn:∀j,w.heap.size<=j->S j):
  Calls prog 54 #[.pointer (some ⟨b,0,none⟩)] w (SZ S w b (flushR F O P)):=
 (AA h hn).mono fun e w' h=>by
  rcases h with⟨h1,rfl,hd,hu⟩|⟨h1,rfl,hd,hu⟩|⟨h1,h2,rfl,hd,hu⟩
  .rw [flushR,if_pos h1];exact⟨rfl,hd,hu⟩
  .rw [flushR,if_neg oM,if_pos h1];exact⟨rfl,hd,hu⟩
  .rw [flushR,if_neg h2,if_neg h1];exact⟨rfl,hd,hu⟩
theorem vl{S:Nat->Prop}{w:World}{b:Nat}{F:List Bk}{O:List (Nat×Bk)}{P:List Int}(h:Dv S w b F O P)(hn:∀j,w.heap.size<=j->S j)(s:Nat)(hs:s<F.length)(x:Bk)(hx:x.length=64)(hO:O.length<65536):
  Calls prog 49 #[.pointer (some ⟨b,0,none⟩),.int .i64 (s:Int),.agg (bkC x).toArray] w (SZ S w b (writeR F O P s x)):=
 (Az h hn s x hx hO).mono fun e w' h=>by
  have h0:=Vg hs;rcases h with⟨h1,-⟩|⟨-,h1,rfl,hd,hu⟩|⟨-,h1,rfl,hd,hu⟩|⟨-,h1,h2,rfl,hd,hu⟩
  .exact absurd h0 h1
  .rw [writeR,if_pos h1];exact⟨rfl,hd,hu⟩
  .rw [writeR,if_neg oM,if_pos h1];rw[qxt]at hd;exact⟨rfl,hd,hu⟩
  .rw [writeR,if_neg h2,if_neg h1];exact⟨rfl,hd,hu⟩
def Jh(S:Nat->Prop)(w:World)(b:Nat)(F:List Bk)(O:List (Nat×Bk))(P:List Int)(s:Nat)(e:Ending)(w':World):Prop:=
 ∃(y:Bk) (cd:Int),e=.returned (.tuple #[.agg (bkC y).toArray,.int .i64 cd])/\y=(if fate P=1 then zB else curB F O s)/\cd=(if fate P=1 then 19 else 0)/\y.length=64/\Dv S w' b F O P.tail/\Upd S w w'
theorem vM{S:Nat->Prop}{w:World}{b:Nat}{F:List Bk}{O:List (Nat×Bk)}{P:List Int}(h:Dv S w b F O P)(hn:∀j,w.heap.size<=j->S j)(s:Nat)(hs:s<F.length):
  Calls prog 132 #[.pointer (some ⟨b,0,none⟩),.int .i64 (s:Int)] w (Jh S w b F O P s):=
 (zbX h hn s).mono fun e w' h'=>by
  have h0:=Vg hs;rcases h' with⟨h1,-⟩|⟨-,h1,rfl,hd,hu⟩|⟨-,h1,rfl,hd,hu⟩
  .exact absurd h0 h1
  .exact ⟨zB,19,rfl,(if_pos h1).symm,(if_pos h1).symm,zH,hd,hu⟩
  .exact ⟨curB F O s,0,rfl,(if_neg h1).symm,(if_neg h1).symm,ql h.good s,hd,hu⟩
theorem Dv.but{S:Nat->Prop}{w:World}{b:Nat}{F:List Bk}{O:List (Nat×Bk)}{P:List Int}(h:Dv S w b F O P){q:Nat}(hq:w.heap.size<=q):Dv (fun j=>S j/\j≠q) w b F O P:=
 h.ku (fun j hj hl=>⟨hj,oM⟩)
def JrAt(w:World)(j:Nat)(d:Nat)(base n seq next:Int):Prop:=
 w.cell? ⟨j,0,none⟩=some (.pointer (some ⟨d,0,none⟩))/\w.cell? ⟨j,1,none⟩=some (.int .i64 base)/\w.cell? ⟨j,2,none⟩=some (.int .i64 n)/\
  w.cell? ⟨j,3,none⟩=some (.int .i64 seq)/\w.cell? ⟨j,4,none⟩=some (.int .i64 next)
theorem zbY(w:World)(j d:Nat)(base n seq next:Int)(h:JrAt w j d base n seq next):
  Calls prog 165 #[.pointer (some ⟨j,0,none⟩)] w fun e w'=>e=.returned (.int .i64 next)/\w=w':=by
 obtain⟨h0,h1,h2,h3,h4⟩:=h;go_enter func165,ntmps165
 go_wp2
 go_ret
 exact⟨rfl,rfl⟩
theorem Vh{S:Nat->Prop}{w:World}{b:Nat}{F:List Bk}{O:List (Nat×Bk)}{P:List Int}(h:Dv S w b F O P)(base n:Nat)(h1:1<=n)(h2:n<=1024)(h3:base+n<=F.length)(h4:F.length<=4096):
  Calls prog 200 #[.pointer (some ⟨b,0,none⟩),.int .i64 (base:Int),.int .i64 (n:Int)] w fun e w'=>e=.returned (.int .i64 0)/\w=w':=by
 have q1:decide ((base:Int)<0)=false:=oe;have q2:decide ((n:Int)<1)=false:=by simp;omega
 have q3:decide ((n:Int)>1024)=false:=by simp;omega
 have q3':decide (1024<(n:Int))=false:=by simp;omega
 have q4:decide ((base:Int)>F.length-n)=false:=by simp;omega
 have q4':decide ((F.length:Int)-n<(base:Int))=false:=by simp;omega
 go_enter func200,ntmps200
 go_wp2_with (first
  |(go_at_call 78;refine(tw h).mono ?_;rintro e w' ⟨rfl,rfl⟩)
  |fail)
 go_ret
 exact⟨rfl,rfl⟩
structure Nib(w:World):Prop where
 c:∀i,i<16->w.cell? ⟨0,i,none⟩=some (.int .i64 (nibC i))
theorem Nib.lt{w:World}(h:Nib w):0<w.heap.size:=(zJ (h.c 0 de)).2
theorem Nib.keep{w w':World}(h:Nib w){S:Nat->Prop}(hu:Upd S w w')(hs:¬S 0):Nib w':=⟨fun i hi=>(hu.cellAt h.lt hs).trans (h.c i hi)⟩
theorem Nib.below{w w':World}(h:Nib w)(hb:Below w.heap.size w w'):Nib w':=h.keep (uuo (S:=fun _=>False) hb) id
theorem Yv{w:World}{g:Nat}(s f:Nat)(hs:s<4294967296)(hf:f<256)(hN:Nib w)(hc:w.cell? ⟨g,0,none⟩=some (.int .i64 (s:Int)))(hz:w.frozen? ⟨g,0,none⟩=false):
  Calls prog 307 #[.int .i64 (f:Int),.pointer (some ⟨g,0,none⟩)] w fun e w'=>e=.returned (.int .i64 (stepC s f:Nat))/\
   w'.cell? ⟨g,0,none⟩=some (.int .i64 (stepC s f:Nat))/\w'.frozen? ⟨g,0,none⟩=false/\Upd (fun j=>j=g) w w':=by
 have hx:=wg s f oM oM;have hxl:s^^^f<4294967296:=Nat.xor_lt_two_pow (n:=32) oM oM;have ha:bits .and .i64 ((s^^^f:Nat):Int) 15=(((s^^^f)&&&15:Nat):Int):=vW (s^^^f) 15 oM oM;have hal:(s^^^f)&&&15<16:=Nat.and_lt_two_pow (n:=4) _ oM;have hcell:=hN.c _ hal;have hst:bits .xor .i64 ((s:Int)/16) ((nibC ((s^^^f)&&&15):Nat):Int)=((s/16^^^nibC ((s^^^f)&&&15):Nat):Int):=wg (s/16) (nibC ((s^^^f)&&&15)) oM (by have:=Ve ((s^^^f)&&&15);omega);have hfin:Hid (stepC s f=s/16^^^nibC ((s^^^f)&&&15)):=rfl;generalize (s^^^f)&&&15=m at*;clear hN;go_enter func307,ntmps307
 go_wp2
 go_region
 rw[<-hfin.out];have hU:Hid (Upd (fun j=>j=g) w (w.setCell ⟨g,0,none⟩ (.int .i64 (stepC s f:Nat))).drew):=(zi _ _ _ _).drew;have hcc:(w.setCell ⟨g,0,none⟩ (.int .i64 (stepC s f:Nat))).drew.cell? ⟨g,0,none⟩=some (.int .i64 (stepC s f:Nat)):=by
  rw[qYh,World.cell?_setCell_same _ _ _ hc]
 have hff:(w.setCell ⟨g,0,none⟩ (.int .i64 (stepC s f:Nat))).drew.frozen? ⟨g,0,none⟩=false:=by simpa using hz
 have HF:=Y2 hcc hff;clear hff hst hx ha;generalize (w.setCell ⟨g,0,none⟩ (.int .i64 (stepC s f:Nat))).drew=w2 at*;go_wp2
 go_ret
 exact⟨rfl,HF.o.1,HF.o.2,hU.out⟩
theorem Yw{w:World}(s:Nat):
  Calls prog 240 #[.int .i64 (s:Int)] w fun e w'=>e=.returned (.func (.func 307) #[] #[.pointer (some ⟨w.heap.size,0,none⟩)])/\w'=w.alloc (.cells #[.int .i64 (s:Int)] 3):=by
 have hmf:=qqf;go_enter func240,ntmps240
 go_wp2
 go_ret
 exact⟨rfl,rfl⟩
theorem vY{w:World}{gl g o n cl cp:Nat}(xs:List UInt8)(hN:Nib w)(hl:w.cell? ⟨gl,0,none⟩=some (.slice (some ⟨g,o,none⟩) n cp))(hx:w.rangeAt g o (bkC xs))(hxl:xs.length=n)(hn:1<=n)(hn2:n<=1000):
  Calls prog 174 #[.slice (some ⟨gl,0,none⟩) 1 cl] w fun e w'=>e=.returned (.int .i64 (crcC xs:Nat))/\Below w.heap.size w w':=by
 have hu:Upd (fun _=>False) w (w.alloc (.cells #[.int .i64 ((4294967295:Nat):Int)] 3)):=(uur _ w).alloc _;have hc:=za (zc w (.cells #[.int .i64 ((4294967295:Nat):Int)] 3) rfl) 0;have hz:=zf (zc w (.cells #[.int .i64 ((4294967295:Nat):Int)] 3) rfl) 0;have hg:g<w.heap.size:=by have:=qYg w _ (hx 0 _ oJ);exact this
 have hgl:gl<w.heap.size:=qYg w _ hl;have H:=Y9 hN hl hx hxl hu hc hz hg hgl;clear hN hl hx hxl hu hc hz hg hgl;go_enter func174,ntmps174
 go_wp2
 go_step3
 go_wp2_with fail
 refine(Yw 4294967295).mono ?_;rintro e w1 ⟨rfl,rfl⟩;go_wp2
 go_step3
 go_wp2
 generalize hw1:w.alloc (.cells #[.int .i64 ((4294967295:Nat):Int)] 3)=w1 at*;have HW:Hid (w1=w.alloc (.cells #[.int .i64 ((4294967295:Nat):Int)] 3)):=hw1.symm;clear hw1;go_loopw[3,13] (fun s3 s13 wr=>(s13=.int .i64 0/\s3=.int .i64 4294967295/\wr.cell? ⟨w.heap.size,0,none⟩=some (.int .i64 4294967295)/\wr.frozen? ⟨w.heap.size,0,none⟩=false/\Upd (fun j=>j=w.heap.size) w1 wr)\/
   (s13=.int .i64 1/\s3=.int .i64 (sumC xs:Nat)/\Upd (fun j=>j=w.heap.size) w1 wr)) (fun _ s13 _=>(1-intOf s13).toNat)
 case atStart=>obtain⟨hN,hl,hx,hxl,hu,hc,hz,hg,hgl⟩:=H.o;exact .inl ⟨rfl,rfl,hc,hz,uur _ _⟩
 case round=>
  obtain⟨wb,rfl⟩:∃wb:World,wb=wr:=⟨_,rfl⟩
  rcases hrel with⟨rfl,rfl,hc,hz,hu⟩|⟨rfl,rfl,hu⟩
  .obtain ⟨hN,hl,hx,hxl,hu0,-,-,hg,hgl⟩:=H.o;have hU:Upd (fun j=>j=w.heap.size) w wb:=(hu0.mono fE).trans hu;have hN':=hN.keep hU (by have:=hN.lt;omega);have hl':=hU.jS hl oM;have hx':=hU.range hx oM;have HH:=Y7 hN' hx' hu hxl hg hc hz;clear hN hl hx hxl hu0 hg hgl hU hN' hx' hu hc hz;have hn0:((n:Int)==0)=false:=by rw[qYo];omega
   go_wp2
   clear hn0;go_loopw[3,22] (fun s3 s22 wr=>∃k:Nat,k<=n/\s22=.int .i64 k/\s3=.int .i64 ((sumC (xs.take k):Nat):Int)/\wr.cell? ⟨w.heap.size,0,none⟩=some (.int .i64 ((sumC (xs.take k):Nat):Int))/\wr.frozen? ⟨w.heap.size,0,none⟩=false/\Upd (fun j=>j=w.heap.size) wb wr) (fun _ s22 _=>n-(intOf s22).toNat)
   case atStart=>exact⟨0,qXy _,rfl,rfl,HH.o.2.2.2.2.2.1,HH.o.2.2.2.2.2.2,uur _ _⟩
   case round=>
    obtain⟨k,hk,rfl,rfl,hc,hz,hu2⟩:=hrel;obtain⟨hN,hx,hu,hxl,hg,-,-⟩:=HH.o;have hbl:(bkC xs).length=n:=by rw[zm,hxl]
    by_cases hlt:k<n
    .have hkx:k<xs.length:=oM;have hck:wr.cell? ⟨g,o+k,none⟩=some (.int .u8 ((xs[k].toNat:Nat):Int)):=
      hu2.jS (hx k _ (by simp only[bkC,qym,qyj hkx,Option.map_some];rfl)) oM
     have hN2:=hN.keep hu2 (by have:=(H.o.1).lt;omega);have hbt:xs[k].toNat<256:=xs[k].toNat_lt;have ha:bits .and .i64 ((xs[k].toNat:Nat):Int) 15=((xs[k].toNat&&&15:Nat):Int):=vW xs[k].toNat 15 oM oM;have hal:xs[k].toNat&&&15<16:=Nat.and_lt_two_pow (n:=4) _ oM;have hsl:=Zj (xs.take k);have hts:Hid (sumC (xs.take (k+1))=stepC (stepC (sumC (xs.take k)) (xs[k].toNat&&&15)) (xs[k].toNat/16)):=by
      show _=_;rw[qXk hkx,UA];rfl
     have HX:=Y7 hN2 hu2 hc hz hal hsl hxl;clear hN hx hu hxl hg hc hz hu2 hN2 hbl;go_wp2_with fail
     generalize xs[k].toNat=by1 at*;refine(Yv (sumC (xs.take k)) (by1&&&15) hsl oM HX.o.1 HX.o.2.2.1 HX.o.2.2.2.1).mono ?_;rintro e w2 ⟨rfl,hc2,hz2,hu3⟩;have hN2:=HX.o.1.keep hu3 (by have:=(H.o.1).lt;omega);have hs2:stepC (sumC (xs.take k)) (by1&&&15)<4294967296:=qj hsl;have HY:=Y5 hN2 hu3 hc2 hz2 hs2;clear hN2 hu3 hc2 hz2 hs2;go_wp2_with fail
     rw[show((by1:Int)/16)=((by1/16:Nat):Int)from rfl];refine(Yv _ (by1/16) HY.o.2.2.2.2 oM HY.o.1 HY.o.2.2.1 HY.o.2.2.2.1).mono ?_;rintro e w3 ⟨rfl,hc3,hz3,hu4⟩;rw[<-hts.out];rw[<-hts.out]at hc3;have HZ:=Y3 hu4 hc3 hz3;clear hu4 hc3 hz3;go_wp2
     go_roundw
     case rel=>exact⟨k+1,oM,by go_num,rfl,HZ.o.2.1,HZ.o.2.2,(HX.o.2.1.trans HY.o.2.1).trans HZ.o.1⟩
     case measure=>simp[intOf];omega
    .obtain rfl:k=n:=oM;have HF:Hid (xs.take k=xs):=by show _=_;rw[qXj oM]
     have HG:=Y2 hu hu2;clear hu hu2 hN hx hxl hc hz hbl;go_wp2
     go_roundw
     case rel=>exact .inr ⟨rfl,by rw[HF.o],HG.o.1.trans HG.o.2⟩
     case measure=>simp[intOf]
  .have hfx:bits .xor .i64 ((sumC xs:Nat):Int) 4294967295=((crcC xs:Nat):Int):=wg (sumC xs) 4294967295 (by have:=Zj xs;omega) oM;go_wp2
   try rw[qxq]
   go_ret
   obtain⟨hN,hl,hx,hxl,hu0,-,-,hg,hgl⟩:=H.o;exact⟨rfl,zj (Upd.below hu0) hu (qXo _) (fun k e=>oM)⟩
def byV(n i:Nat):Value:=.int .u8 (((UInt8.ofNat (n/256^i)).toNat:Nat):Int)
theorem AC(n k:Nat):Value.int .u8 ((n:Int)/2^(8*k)%256)=byV n k:=by
 unfold byV;have h1:(UInt8.ofNat (n/256^k)).toNat=n/256^k%256:=oe;have h2:(256:Nat)^k=2^(8*k):=by rw[Nat.pow_mul]
 rw[h1,h2,Int.natCast_emod,Int.natCast_ediv,Int.natCast_pow];rfl
theorem Vi{w:World}(n size:Nat)(_hn:n<72057594037927936)(hs:size<=7)(fd:Nat)(caps:Array Value)(hent:∀args w,(callFunc fd args).run prog w=.ok (.enter fd args) w)
  (J:Nat->World->Prop) (h0:J 0 w) (hput:∀i,i<size->∀w,J i w->Calls prog fd (#[byV n i]++caps) w fun e w'=>e=.returned (.tuple #[])/\J (i+1) w'):
  Calls prog 192 #[.int .i64 (n:Int),.int .i64 (size:Int),.func (.func fd) #[] caps] w fun e w'=>e=.returned (.tuple #[])/\J size w':=by
 have H:=Y2 h0 hput;clear h0 hput;go_enter func192,ntmps192
 go_wp2
 go_step3
 go_wp2
 go_step3
 go_wp2
 go_loopw[6] (fun i wr=>∃k:Nat,k<=size/\i=.int .i64 k/\J k wr) (fun i _=>size-(intOf i).toNat)
 case atStart=>exact⟨0,qXy _,rfl,H.o.1⟩
 case round=>
  obtain⟨k,hk,rfl,hJ⟩:=hrel;have HJ:=qqh hJ;clear hJ;by_cases hlt:k<size
  .have hq:((k:Int)==(size:Int))=false:=by rw[qYo];omega
   go_wp2_with fail
   rw[AC];refine(H.o.2 k hlt wr HJ.o).mono ?_;rintro e w2 ⟨rfl,hJ2⟩;have HJ2:=qqh hJ2;clear hJ2;go_wp2
   go_roundw
   case rel=>exact⟨k+1,oM,by go_num,HJ2.o⟩
   case measure=>simp[intOf];omega
  .obtain rfl:k=size:=oM;go_wp2
   try rw[Exit.noGoto_normal]
   go_end0
   exact⟨rfl,HJ.o⟩
theorem Qj(n size left:Nat)(h1:1<=size)(h2:size<=7)(hn:n<256^size)(hl:size<=left)(_hl2:left<=60)(w:World):
  Calls prog 190 #[.int .i64 (n:Int),.int .i64 (size:Int),.int .i64 (left:Int)] w fun e w'=>e=.returned (.int .i64 0)/\w'=w:=by
 have hsh:Hid ((n:Int)/2^(8*size)=0):=by
  show _=_;have e:(256:Nat)^size=2^(8*size):=by rw[Nat.pow_mul]
  rw[e]at hn;have:((n/2^(8*size):Nat):Int)=0:=by rw[Nat.div_eq_of_lt hn];rfl
  rw[Int.natCast_ediv,Int.natCast_pow]at this;exact this
 have hn2:n<72057594037927936:=qXr hn (Nat.pow_le_pow_right (n:=256) oM h2);clear hn;have q1:decide ((size:Int)<1)=false:=by simp;omega
 have q2:decide ((7:Int)<(size:Int))=false:=by simp;omega
 have q3:decide ((n:Int)<0)=false:=oe;have q4:=hsh.out;go_enter func190,ntmps190
 go_wp2
 go_ret
 exact⟨rfl,rfl⟩
def padB(bs:List UInt8):Bk:=bs++List.replicate (64-bs.length) 0
theorem wG{bs:List UInt8}(h:bs.length<=64):(padB bs).length=64:=by simp[padB];omega
theorem UD{bs:List UInt8}(h:bs.length<64)(b:UInt8):padB (bs++[b])=(padB bs).set bs.length b:=by
 unfold padB;have e:64-bs.length=(64-(bs++[b]).length)+1:=by simp;omega
 rw[e,List.replicate_succ,qXe _ _ (qXo _)];simp
theorem sw(n i:Nat):lowB n (i+1)=lowB n i++[UInt8.ofNat (n/256^i)]:=by
 induction i generalizing n with
 |zero=>simp[lowB]
 |succ i ih=>
  have h1:=ih (n/256);show UInt8.ofNat n::lowB (n/256) (i+1)=(UInt8.ofNat n::lowB (n/256) i)++_;rw[h1,qxz,Nat.div_div_eq_div_mul,Nat.pow_succ,Nat.mul_comm]
theorem Vj(x:Bk)(i:Nat)(b:UInt8):bkC (x.set i b)=(bkC x).set i (Go.Extern.Stop.cell b):=by simp[bkC,List.map_set]
def WrAt(w:World)(g:Nat)(bs:List UInt8):Prop:=
 bs.length<=60/\w.heap[g]?=some (.cells (bkC (padB bs)++[Value.int .i64 (bs.length:Int),Value.int .i64 0]).toArray 289 (0,0))
section
variable{w w':World}{g:Nat}{bs:List UInt8}
theorem WrAt.lt(h:WrAt w g bs):g<w.heap.size:=zd h.2
theorem WrAt.keep(h:WrAt w g bs){S:Nat->Prop}(hu:Upd S w w')(hs:¬S g):WrAt w' g bs:=⟨h.1,(hu.block g h.lt hs).trans h.2⟩
theorem WrAt.len(h:WrAt w g bs):(bkC (padB bs)).length=64:=by rw[zm,wG (by have:=h.1;omega)]
theorem WrAt.c64(h:WrAt w g bs):w.cell? ⟨g,64,none⟩=some (.int .i64 (bs.length:Int)):=by
 rw[za h.2,qyq,qyh oN,h.len];rfl
theorem WrAt.c65(h:WrAt w g bs):w.cell? ⟨g,65,none⟩=some (.int .i64 0):=by
 rw[za h.2,qyq,qyh oN,h.len];rfl
theorem WrAt.fz(h:WrAt w g bs)(i:Nat):w.frozen? ⟨g,i,none⟩=false:=zf h.2 i
theorem WrAt.range(h:WrAt w g bs):w.rangeAt g 0 (bkC (padB bs)):=fun j v hv=>by
 have hj:=(qyl.1 hv).1;rw[za h.2,qXx,qyq,qyg hj];exact hv
theorem WrAt.some(h:WrAt w g bs){i:Nat}(hi:i<66):∃v,w.cell? ⟨g,i,none⟩=some v:=by
 rw[za h.2,qyq];exact⟨_,qyj (by rw[qyy,h.len];exact hi)⟩
theorem WrAt.push(h:WrAt w g bs)(hl:bs.length<60)(b:UInt8)(hw:Upd (fun _=>False) (w.setCell ⟨g,bs.length,none⟩ (Go.Extern.Stop.cell b)) w'):
  WrAt (w'.setCell ⟨g,64,none⟩ (.int .i64 ((bs++[b]).length:Int))) g (bs++[b]):=by
 refine⟨by simp;omega,?_⟩;have h1:=zh h.2 bs.length (Go.Extern.Stop.cell b);have h2:=(hw.block g (zd h1) id).trans h1;have h3:=zh h2 64 (.int .i64 ((bs++[b]).length:Int));rw[h3]
 congr 2
 rw[qXd,qXd,List.set_append_left _ _ oN,<-Vj,<-UD oM];have hl2:(bkC (padB (bs++[b]))).length=64:=by rw[zm,wG og]
 rw[qXe _ _ oM,hl2];rfl
end
theorem zbZ{w:World}{g g0:Nat}{bs:List UInt8}(h:WrAt w g bs)(hl:bs.length<60)(b:UInt8)(hc:w.cell? ⟨g0,0,none⟩=some (.pointer (some ⟨g,0,none⟩)))(hne:¬g=g0):
  Calls prog 191 #[.int .u8 ((b.toNat:Nat):Int),.pointer (some ⟨g0,0,none⟩)] w fun e w'=>e=.returned (.tuple #[])/\WrAt w' g (bs++[b])/\Upd (fun j=>j=g) w w':=by
 have c64:=h.c64;obtain⟨v0,cb⟩:=h.some (i:=bs.length) oM;have hfz:=h.fz bs.length;have hfz2:=h.fz 64;have hU:Upd (fun j=>j=g) w ((w.setCell ⟨g,bs.length,none⟩ (.int .u8 ((b.toNat:Nat):Int))).drew.setCell ⟨g,64,none⟩ (.int .i64 ((bs.length:Int)+1))):=((zi _ _ _ _).drew).trans (zi _ _ _ _);have hP:WrAt ((w.setCell ⟨g,bs.length,none⟩ (.int .u8 ((b.toNat:Nat):Int))).drew.setCell ⟨g,64,none⟩ (.int .i64 ((bs.length:Int)+1))) g (bs++[b]):=by
  have:=h.push hl b ((uur (fun _=>False) _).drew);rw[qyy]at this;exact this
 have HP:=Y2 hP hU;have hb1:0<=(bs.length:Int)/\(bs.length:Int)<60:=⟨oM,oM⟩
 obtain⟨hb1,hb2⟩:=hb1;clear h hP hU;go_enter func191,ntmps191
 go_wp2
 go_region
 go_wp2
 go_end0
 exact⟨rfl,HP.o.1,HP.o.2⟩
theorem WrAt.set65{w:World}{g:Nat}{bs:List UInt8}(h:WrAt w g bs):WrAt (w.setCell ⟨g,65,none⟩ (.int .i64 0)) g bs:=by
 refine⟨h.1,?_⟩;rw[zh h.2 65 (.int .i64 0)]
 congr 2
 rw[qXd,qXe _ _ oN,h.len];rfl
theorem rJ{w:World}{g o b o':Nat}{v u:Value}(h:w.cell? ⟨g,o,none⟩=some v)(hne:o'≠o):(w.setCell ⟨b,o',none⟩ u).cell? ⟨g,o,none⟩=some v:=by
 rw[World.cell?_setCell_other _ _ _ _ (fun e=>hne (congrArg Addr.off e)),h]
theorem AD(w:World):Calls prog 122 #[] w fun e w'=>∃g,e=.returned (.pointer (some ⟨g,0,none⟩))/\WrAt w' g []/\w.heap.size<=g/\Below w.heap.size w w':=by
 go_enter func122,ntmps122
 go_wp2
 go_ret
 refine⟨w.heap.size,rfl,⟨oe,zc w _ rfl⟩,qXo _,(qxl _ w).alloc (qXo _) _⟩
theorem zca{w:World}{g:Nat}{bs:List UInt8}(h:WrAt w g bs)(n size:Nat)(h1:1<=size)(h2:size<=7)(hn:n<256^size)(hl:bs.length+size<=60):
  Calls prog 123 #[.pointer (some ⟨g,0,none⟩),.int .i64 (n:Int),.int .i64 (size:Int)] w fun e w'=>e=.returned (.pointer (some ⟨g,0,none⟩))/\WrAt w' g (bs++lowB n size)/\Upd (fun j=>j=g) w w':=by
 have hmf:=qqf;have hua:Upd (fun _=>False) w (w.alloc (.cells #[.pointer (some ⟨g,0,none⟩)] 201)):=(uur _ _).alloc _;have h':=h.keep hua id;have c0:(w.alloc (.cells #[.pointer (some ⟨g,0,none⟩)] 201)).cell? ⟨w.heap.size,0,none⟩=some (.pointer (some ⟨g,0,none⟩)):=za (zc w _ rfl) 0;have c64:=h'.c64;have c65:=h'.c65;have z65:=h'.fz 65;have hgl:=h.lt;have hne:¬g=w.heap.size:=oM;have hne2:w.heap.size≠g:=oM;have H:=Y6 h' hua hn h2 hl h1;have hs1:(60:Int)-bs.length=((60-bs.length:Nat):Int):=oM;have hsw:IntKind.i64.wrap (60-(bs.length:Int))=((60-bs.length:Nat):Int):=by rw[hs1,qxu _ oM]
 clear h' hua hn h h1 hs1;go_enter func123,ntmps123
 go_wp2
 generalize (w.alloc (.cells #[.pointer (some ⟨g,0,none⟩)] 201))=w1 at*;generalize w.heap.size=m at*
 go_region_held3 (fun W=>W.cell? ⟨m,0,none⟩=some (.pointer (some ⟨g,0,none⟩))/\W.cell? ⟨g,64,none⟩=some (.int .i64 (bs.length:Int)))
  ((go_split_ands;(simp only[qYh]at*);((repeat' constructor)<;>first|assumption|(refine zt ?_ ?_<;>assumption)|(refine rJ ?_ de;assumption))))
  (first|(go_at_call 190;refine(Qj n size (60-bs.length) H.o.2.2.2.2.2 H.o.2.2.2.1 H.o.2.2.1 jD oM _).mono ?_;rintro e w' ⟨rfl,rfl⟩))
 have hW2:WrAt (w1.setCell ⟨g,65,none⟩ (.int .i64 0)).drew g bs:=(H.o.1.set65).keep ((uur (fun _=>False) _).drew) id;have hU2:Hid (Upd (fun j=>j=g) w (w1.setCell ⟨g,65,none⟩ (.int .i64 0)).drew):=(H.o.2.1.mono fE).trans ((zi _ _ _ _).drew);have c02:(w1.setCell ⟨g,65,none⟩ (.int .i64 0)).drew.cell? ⟨m,0,none⟩=some (.pointer (some ⟨g,0,none⟩)):=by
  rw[qYh];exact zt c0 hne
 rename_i hHeld
 clear hHeld;generalize (w1.setCell ⟨g,65,none⟩ (.int .i64 0)).drew=w2 at*;have c65':=hW2.c65;have HW:=Y2 hW2 c02;clear hW2 c0 c64 c65 z65;go_wp2_with fail
 refine(Vi (w:=w2) n size (qXr H.o.2.2.1 (Nat.pow_le_pow_right (n:=256) oM h2)) h2 191 #[.pointer (some ⟨m,0,none⟩)] (fun _ _=>rfl)
  (fun i W=>WrAt W g (bs++lowB n i)/\Upd (fun j=>j=g) w2 W) ⟨by simpa[lowB]using HW.o.1,uur _ _⟩ ?_).mono ?_
 .intro i hi W hJ;refine(zbZ hJ.1 (by rw[qyy,zY];omega) (UInt8.ofNat (n/256^i)) (hJ.2.jS HW.o.2 hne2) hne).mono ?_;rintro e w' ⟨rfl,h3,h4⟩;refine⟨rfl,?_,hJ.2.trans h4⟩;rw[sw,<-qxw];exact h3
 .rintro e w3 ⟨rfl,hW3,hU3⟩;have c03:=hU3.jS HW.o.2 hne2;have HZ:=Y2 hW3 hU3;clear hW3 hU3;go_wp2
  go_ret
  exact⟨rfl,HZ.o.1,hU2.out.trans HZ.o.2⟩
theorem zcb{w:World}{gb ga:Nat}{x:Bk}{i:Nat}(hg:w.heap[gb]?=some (.cells (bkC x).toArray 60 (0,0)))(hx:x.length=64)(hi:i<64)(b:UInt8)
  (ha:w.heap[ga]?=some (.cells #[.int .i64 (i:Int)] 3 (0,0))) (hne:¬gb=ga):
  Calls prog 267 #[.int .u8 ((b.toNat:Nat):Int),.pointer (some ⟨gb,0,none⟩),.pointer (some ⟨ga,0,none⟩)] w fun e w'=>e=.returned (.tuple #[])/\
   w'.heap[gb]?=some (.cells (bkC (x.set i b)).toArray 60 (0,0))/\w'.heap[ga]?=some (.cells #[.int .i64 ((i+1:Nat):Int)] 3 (0,0))/\Upd (fun j=>j=gb\/j=ga) w w':=by
 have c0:w.cell? ⟨ga,0,none⟩=some (.int .i64 (i:Int)):=za ha 0;have z0:=zf ha 0;have cb:∃v,w.cell? ⟨gb,i,none⟩=some v:=by
  rw[za hg];exact⟨_,qxe (by rw[zn _ hx];exact hi)⟩
 obtain⟨v0,cb⟩:=cb;have zb:=zf hg i;have hU:Upd (fun j=>j=gb\/j=ga) w ((w.setCell ⟨gb,i,none⟩ (.int .u8 ((b.toNat:Nat):Int))).setCell ⟨ga,0,none⟩ (.int .i64 ((i:Int)+1))):=
  ((zi w gb i _).mono (fun _ _ h=> .inl h)).trans ((zi _ _ _ _).mono (fun _ _ h=> .inr h))
 have h1:=zh hg i (.int .u8 ((b.toNat:Nat):Int));have h2:((w.setCell ⟨gb,i,none⟩ (.int .u8 ((b.toNat:Nat):Int))).setCell ⟨ga,0,none⟩ (.int .i64 ((i:Int)+1))).heap[gb]?=some (.cells (bkC (x.set i b)).toArray 60 (0,0)):=by
  rw[(zi _ ga 0 _).block gb (zd h1) hne,h1,qXd,Vj];rfl
 have h3:((w.setCell ⟨gb,i,none⟩ (.int .u8 ((b.toNat:Nat):Int))).setCell ⟨ga,0,none⟩ (.int .i64 ((i:Int)+1))).heap[ga]?=some (.cells #[.int .i64 ((i+1:Nat):Int)] 3 (0,0)):=
  zh (((zi w gb i (.int .u8 ((b.toNat:Nat):Int))).block ga (zd ha) (fun e=>hne e.symm)).trans ha) 0 _
 have hb1:0<=(i:Int)/\(i:Int)<64:=⟨oM,oM⟩
 obtain⟨hb1,hb2⟩:=hb1;have H:=Y3 h2 h3 hU;clear hU h1 h2 h3 hg ha;go_enter func267,ntmps267
 go_wp2
 go_end0
 exact⟨rfl,H.o.1,H.o.2.1,H.o.2.2⟩
def xK(b:Bk)(i:Nat):Bk:=b.take 60++lowB (crcC (b.take 60)) i++b.drop (60+i)
theorem XS{b:Bk}(h:b.length=64){i:Nat}(hi:i<=4):(xK b i).length=64:=by simp[xK,zY,h];omega
theorem Yx(b:Bk):xK b 0=b:=by simp[xK,lowB]
theorem Yy{b:Bk}(h:b.length=64):xK b 4=sealB b:=by
 unfold xK sealB;rw[List.drop_of_length_le oM,qxx]
theorem XT{b:Bk}(h:b.length=64){i:Nat}(hi:i<4):(xK b i).set (60+i) (UInt8.ofNat (crcC (b.take 60)/256^i))=xK b (i+1):=by
 unfold xK;have hl:(b.take 60++lowB (crcC (b.take 60)) i).length=60+i:=by simp[zY,h]
 rw[qXe _ _ (by rw[hl];exact qXo _),hl,Nat.sub_self,sw];have hd:b.drop (60+i)=b[60+i]'oM::b.drop (60+(i+1)):=qya oM;rw[hd,qXg];simp
theorem xw(w:World)(A B C D:Obj):let W:=(((w.alloc A).alloc B).alloc C).alloc D
  W.heap[w.heap.size]?=some A/\W.heap[w.heap.size+1]?=some B/\W.heap[w.heap.size+1+1]?=some C/\W.heap[w.heap.size+1+1+1]?=some D/\W.heap.size=w.heap.size+4/\Upd (fun _=>False) w W:=by
 refine⟨?_,?_,?_,zc _ _ oe,oe,((((uur _ w).alloc _).alloc _).alloc _).alloc _⟩
 .rw [qxk _ _ _ jN,qxk _ _ _ jN,qxk _ _ _ oe];exact zc w _ rfl
 .rw [qxk _ _ _ jN,qxk _ _ _ oe];exact zc _ _ oe
 .rw [qxk _ _ _ oe];exact zc _ _ oe
theorem qm{w:World}(b:Bk)(hb:b.length=64)(hN:Nib w):
  Calls prog 193 #[.agg (bkC b).toArray] w fun e w'=>e=.returned (.agg (bkC (sealB b)).toArray)/\Below w.heap.size w w':=by
 have hmf:=qqf;have HN:=qqh hN;have Hb:=qqh hb;clear hN hb;go_enter func193,ntmps193
 go_wp2_with fail
 show Calls _ _ _ ((((w.alloc (.cells (bkC b).toArray 60)).alloc (.cells (bkC zB).toArray 60)).alloc (.cells #[.int .i64 60] 3)).alloc (.cells #[.slice (some ⟨w.heap.size,0,none⟩) 60 64] 269)) _;obtain⟨hA,hB,hC,hD,hS,hU⟩:=xw w (.cells (bkC b).toArray 60) (.cells (bkC zB).toArray 60) (.cells #[.int .i64 60] 3) (.cells #[.slice (some ⟨w.heap.size,0,none⟩) 60 64] 269);generalize (((w.alloc (.cells (bkC b).toArray 60)).alloc (.cells (bkC zB).toArray 60)).alloc (.cells #[.int .i64 60] 3)).alloc (.cells #[.slice (some ⟨w.heap.size,0,none⟩) 60 64] 269)=w4 at*;have hr:=zg hA;have hrt:w4.rangeAt w.heap.size 0 (bkC (b.take 60)):=fun j v hv=>by
  refine hr j v ?_;have hj:=(qyl.1 hv).1;rw[zm,qzf]at hj;simp only[bkC,qym]at hv⊢;rw[qyp,if_pos oM]at hv;exact hv
 refine(vY (b.take 60) (HN.o.keep hU id) (za hD 0) hrt (by rw[qzf,Hb.out];rfl) oM oM).mono ?_;rintro e w5 ⟨rfl,hb5⟩;have hU5:=qqb hb5;have hA5:=(hb5.block _ (zd hA)).trans hA;have hB5:=(hb5.block _ (zd hB)).trans hB;have hC5:=(hb5.block _ (zd hC)).trans hC;have H5:=Y4 hA5 hB5 hC5 (hU.trans hU5);clear hA hB hC hD hS hU hr hrt hb5 hU5 hA5 hB5 hC5;have Hs:=qqh (vX (b.take 60));obtain⟨m,Hm⟩:∃m,Hid (m=w.heap.size):=⟨_,rfl⟩
 have hsum:Hid (∀i,UInt8.ofNat (crcC (b.take 60)/256^i)=UInt8.ofNat (crcC (b.take 60)/256^i)):=fun _=>rfl;go_wp2_with fail
 refine(Vi (w:=w5) (crcC (b.take 60)) 4 (by have:=Hs.out;omega) oM 267 #[.pointer (some ⟨w.heap.size,0,none⟩),.pointer (some ⟨w.heap.size+1+1,0,none⟩)] (fun _ _=>rfl)
  (fun i W=>W.heap[w.heap.size]?=some (.cells (bkC (xK b i)).toArray 60 (0,0))/\W.heap[w.heap.size+1+1]?=some (.cells #[.int .i64 ((60+i:Nat):Int)] 3 (0,0))/\Upd (fun j=>j=w.heap.size\/j=w.heap.size+1+1) w5 W) ⟨by rw[Yx];exact H5.o.1,H5.o.2.2.1,uur _ _⟩ ?_).mono ?_
 .intro i hi W hJ;refine(zcb hJ.1 (XS Hb.out oM) oM (UInt8.ofNat (crcC (b.take 60)/256^i)) hJ.2.1 oM).mono ?_;rintro e w' ⟨rfl,h1,h2,h3⟩;rw[XT Hb.out hi]at h1;exact⟨rfl,h1,h2,hJ.2.2.trans h3⟩
 .rintro e w6 ⟨rfl,h1,h2,h3⟩;rw[Yy Hb.out]at h1;have hsl:=vj Hb.out;have r6:=zg h1;have hg6:=(h3.block (w.heap.size+1) (zd H5.o.2.1) oM).trans H5.o.2.1;have hth:w6.there (w.heap.size+1) 0 64:=fun j hj=>by
   rw[za hg6,zf hg6];exact⟨by rw[qXx,qxe oR];rfl,rfl⟩
  have hst:w6.there (w.heap.size+1) 0 (bkC (sealB b)).toArray.size:=by rw[zn _ hsl];exact hth
  have hst2:w6.there (w.heap.size+1) 0 (bkC (sealB b)).length:=by rw[zm,hsl];exact hth
  have hsz2:(prog.info? 60).map (·.size)=some (bkC (sealB b)).toArray.size:=by rw[zn _ hsl];exact zF
  have HST:=Y5 hst hsz2 hst2 hsl h3;clear hst hsz2 hst2 hsl h3 h1 h2 hg6 hth;generalize hsb:sealB b=sb at*;have Hsb:=qqh hsb;clear hsb;go_wp2_with (first
   |(refine qYy rfl _ _ rfl _ _ rfl _ _ r6 underlying60 rfl (zq _ HST.o.2.2.2.1) ?_)
   |(refine qZa rfl _ _ _ rfl _ _ (bkC sb).toArray rfl rfl HST.o.1 HST.o.2.1 (qYn (zu _)) ?_)
   |fail)
  exact qYp (zv rfl _ _ (w.heap.size+1) 0 (bkC sb) _ rfl (qYk _ _ _ _ HST.o.2.2.1) underlying60 rfl (zq _ HST.o.2.2.2.1)) rfl
   ⟨by rw[Hsb.out],zj (zj (Upd.below H5.o.2.2.2) HST.o.2.2.2.2 (qXo _) (fun k e=>oM)) (zo w6 (w.heap.size+1) 0 _) (qXo _) (fun k e=>oM)⟩
theorem Ji(w:World):(sizeOf 5).run prog w=.ok 1 w:=by
 have hu:(prog.info? 5).map (·.size)=some 1:=kR;obtain⟨i,hi,hs⟩:=qYb.1 hu;simp[sizeOf,typeInfo,hi,hs]
theorem Vk(x y:Bk)(hx:x.length=64)(hy:y.length=64)(w:World):(Op.equalIn 10000 60 (.agg (bkC x).toArray) (.agg (bkC y).toArray)).run prog w=.ok (x==y) w:=
 run_equalIn_bytes (P:=prog) w 9998 60 5 64 underlying60 underlying5 Ji x y hx hy
theorem Below.range{W W':World}(hb:Below W.heap.size W W'){b o:Nat}{cs:List Value}(h:W.rangeAt b o cs):W'.rangeAt b o cs:=
 (uuo (S:=fun _=>False) hb).range h id
theorem yv{w w':World}(h:Below w.drew.heap.size w.drew w'):Below w.heap.size w w':=⟨h.os,h.tape,h.output,h.size,h.block⟩
def sealedC(b:Bk):Int:=if sealB b=b then 0 else 13
theorem qn{w:World}(b:Bk)(hb:b.length=64)(hN:Nib w):
  Calls prog 270 #[.agg (bkC b).toArray] w fun e w'=>e=.returned (.int .i64 (sealedC b))/\Below w.heap.size w w':=by
 have hua:Upd (fun _=>False) w (w.alloc (.cells (bkC b).toArray 60)):=(uur _ w).alloc _;have hr:=zg (zc w (.cells (bkC b).toArray 60) rfl);have hut:=underlying60;have hsi:=zq b hb;have hlx:(bkC b).length=64:=by rw[zm,hb]
 have hq:=Vk (sealB b) b (vj hb) hb;have HN:Hid (Nib (w.alloc (.cells (bkC b).toArray 60)).drew):=(hN.keep hua id).keep ((uur (fun _=>False) _).drew) id;have HU:=qqh hua;have Hb:=qqh hb;clear hN hua hb;by_cases hs:sealB b=b
 .have hsc:Hid (sealedC b=0):=if_pos hs;have hqq:(sealB b==b)=true:=by simpa using hs
  have hqn:(!(sealB b==b))=false:=by rw[hqq];rfl
  clear hs;go_enter func270,ntmps270
  go_wp2_with fail
  refine qZb (S:=fun W=>W.rangeAt w.heap.size 0 (bkC b)) kR oE (fun hHeld=>?_)
  refine' qYx (i:=0) rfl kR kR kR (fun _ _ _ h=>h) (qZd oy _ _ rfl _ _ rfl _ _ (fun w h=>h) hut rfl hsi) hHeld _
  simp only[Act.put,qXd]
  refine' qYx (i:=2) rfl kR kR kR (fun _ _ _ h=>h) (qZd oy _ _ rfl _ _ rfl _ _ (fun w h=>h) hut rfl hsi) hHeld _
  simp only[Act.put];refine Wl.r 1 (fun K hK=>?_);go_simp
  refine(qm b Hb.out HN.o).mono ?_;rintro e w2 ⟨rfl,hb2⟩;refine hK.o _ _ (Below.range hb2 hHeld) (fun hHeld2=>?_);clear hK K;refine Wl.r 3 (fun K hK=>?_);go_simp
  refine hK.o _ _ hHeld2 (fun _=>?_);clear hK K;refine Wl.d ?_;have HB:Hid (Below w.heap.size w w2):=(Upd.below HU.o).trans ((yv hb2).mono HU.o.size);clear hHeld hHeld2 hb2;go_wp2
  go_ret
  exact⟨by rw[hsc.out];rfl,HB.o⟩
 .have hsc:Hid (sealedC b=13):=if_neg hs;have hqq:(sealB b==b)=false:=by simpa using hs
  have hqn:(!(sealB b==b))=true:=by rw[hqq];rfl
  clear hs;go_enter func270,ntmps270
  go_wp2_with fail
  refine qZb (S:=fun W=>W.rangeAt w.heap.size 0 (bkC b)) kR oE (fun hHeld=>?_)
  refine' qYx (i:=0) rfl kR kR kR (fun _ _ _ h=>h) (qZd oy _ _ rfl _ _ rfl _ _ (fun w h=>h) hut rfl hsi) hHeld _
  simp only[Act.put,qXd]
  refine' qYx (i:=2) rfl kR kR kR (fun _ _ _ h=>h) (qZd oy _ _ rfl _ _ rfl _ _ (fun w h=>h) hut rfl hsi) hHeld _
  simp only[Act.put];refine Wl.r 1 (fun K hK=>?_);go_simp
  refine(qm b Hb.out HN.o).mono ?_;rintro e w2 ⟨rfl,hb2⟩;refine hK.o _ _ (Below.range hb2 hHeld) (fun hHeld2=>?_);clear hK K;refine Wl.r 3 (fun K hK=>?_);go_simp
  refine hK.o _ _ hHeld2 (fun _=>?_);clear hK K;refine Wl.d ?_;have HB:Hid (Below w.heap.size w w2):=(Upd.below HU.o).trans ((yv hb2).mono HU.o.size);clear hHeld hHeld2 hb2;go_wp2
  go_ret
  exact⟨by rw[hsc.out];rfl,HB.o⟩
theorem zcc{w:World}{g:Nat}{bs:List UInt8}(h:WrAt w g bs)(hN:Nib w):
  Calls prog 124 #[.pointer (some ⟨g,0,none⟩)] w fun e w'=>e=.returned (.tuple #[.agg (bkC (sealB (padB bs))).toArray,.int .i64 0])/\Below w.heap.size w w':=by
 have H:=Y2 h hN;have hlw:=h.lt;clear h hN;have hu:Upd (fun _=>False) w (w.alloc (.cells (bkC zB).toArray 60)):=(uur _ w).alloc _;have hg1:=zc w (.cells (bkC zB).toArray 60) rfl;have h1:=H.o.1.keep hu id;have c65:=H.o.1.c65;have rr:=H.o.1.range;have hpl:Hid ((padB bs).length=64):=wG (by have:=h1.1;omega);have HX:=Y3 h1 hu hg1;clear h1 hu hg1;go_enter func124,ntmps124
 go_wp2_with (first
  |(refine qYy rfl _ _ rfl _ _ rfl _ _ (qYi rr _) underlying60 rfl (zq _ hpl.out) ?_)
  |fail)
 show Calls _ _ _ (w.alloc (.cells (bkC zB).toArray 60)) _;generalize (w.alloc (.cells (bkC zB).toArray 60))=w1 at*;obtain⟨h1,hu,hg1⟩:=HX.o;refine(qm (padB bs) hpl.out (H.o.2.keep hu id)).mono ?_;rintro e w6 ⟨rfl,hb⟩;have hsl:=vj hpl.out;have hg6:=(hb.block w.heap.size (zd hg1)).trans hg1;have hth:w6.there w.heap.size 0 64:=fun j hj=>by
  rw[za hg6,zf hg6];exact⟨by rw[qXx,qxe oR];rfl,rfl⟩
 have hst:w6.there w.heap.size 0 (bkC (sealB (padB bs))).toArray.size:=by rw[zn _ hsl];exact hth
 have hst2:w6.there w.heap.size 0 (bkC (sealB (padB bs))).length:=by rw[zm,hsl];exact hth
 have hsz2:(prog.info? 60).map (·.size)=some (bkC (sealB (padB bs))).toArray.size:=by rw[zn _ hsl];exact zF
 have HST:=Y6 hst hsz2 hst2 hsl hb hu;clear hst hsz2 hst2 hsl hg6 hth h1 hu hg1 hb;generalize hsb:sealB (padB bs)=sb at*;have Hsb:=qqh hsb;clear hsb;go_wp2_with (first
  |(refine qZa rfl _ _ _ rfl _ _ (bkC sb).toArray rfl rfl HST.o.1 HST.o.2.1 (qYn (zu _)) ?_)
  |fail)
 exact qYp (zp rfl _ _ w.heap.size 0 (bkC sb) _ rfl (qYk _ _ _ _ HST.o.2.2.1) underlying60 rfl (zq _ HST.o.2.2.2.1)) rfl
   ⟨by rw[Hsb.out];rfl,zj ((Upd.below HST.o.2.2.2.2.2).trans (HST.o.2.2.2.2.1.mono HST.o.2.2.2.2.2.size)) (zo w6 w.heap.size 0 _) (qXo _) (fun k e=>oM)⟩
def yN(w:World)(g:Nat)(b:Bk)(at_:Nat):Prop:=
 b.length=64/\at_<=60/\w.heap[g]?=some (.cells (bkC b++[Value.int .i64 (at_:Int),Value.int .i64 0]).toArray 446 (0,0))
section
variable{w w':World}{g at_:Nat}{b:Bk}
theorem yN.lt(h:yN w g b at_):g<w.heap.size:=zd h.2.2
theorem yN.keep(h:yN w g b at_){S:Nat->Prop}(hu:Upd S w w')(hs:¬S g):yN w' g b at_:=⟨h.1,h.2.1,(hu.block g h.lt hs).trans h.2.2⟩
theorem yN.len(h:yN w g b at_):(bkC b).length=64:=by rw[zm,h.1]
theorem yN.c64(h:yN w g b at_):w.cell? ⟨g,64,none⟩=some (.int .i64 (at_:Int)):=by
 rw[za h.2.2,qyq,qyh oN,h.len];rfl
theorem yN.c65(h:yN w g b at_):w.cell? ⟨g,65,none⟩=some (.int .i64 0):=by
 rw[za h.2.2,qyq,qyh oN,h.len];rfl
theorem yN.fz(h:yN w g b at_)(i:Nat):w.frozen? ⟨g,i,none⟩=false:=zf h.2.2 i
theorem yN.byte(h:yN w g b at_){i:Nat}(hi:i<b.length):w.cell? ⟨g,i,none⟩=some (.int .u8 ((b[i].toNat:Nat):Int)):=by
 rw[za h.2.2,qyq,qyg (by rw[zm];exact hi)];simp only[bkC,qym,qyj hi,Option.map_some];rfl
theorem yN.set65(h:yN w g b at_):yN (w.setCell ⟨g,65,none⟩ (.int .i64 0)) g b at_:=by
 refine⟨h.1,h.2.1,?_⟩;rw[zh h.2.2 65 (.int .i64 0)]
 congr 2
 rw[qXd,qXe _ _ oN,h.len];rfl
theorem yN.set64(h:yN w g b at_){n:Nat}(hn:n<=60):yN (w.setCell ⟨g,64,none⟩ (.int .i64 (n:Int))) g b n:=by
 refine⟨h.1,hn,?_⟩;rw[zh h.2.2 64 (.int .i64 (n:Int))]
 congr 2
 rw[qXd,qXe _ _ oN,h.len];rfl
end
theorem UE(l:List UInt8)(b:UInt8):numB (l++[b])=numB l|||(b.toNat<<<(8*l.length))/\numB (l++[b])=numB l+b.toNat*2^(8*l.length)/\numB l<2^(8*l.length):=by
 have hlt:∀l:List UInt8,numB l<2^(8*l.length):=by
  intro l
  induction l with
  |nil=>simp[numB]
  |cons a l ih=>
   have ha:=a.toNat_lt;simp only[numB,qyz];rw[show 8*(l.length+1)=8*l.length+8 by omega,Nat.pow_add];omega
 have hadd:numB (l++[b])=numB l+b.toNat*2^(8*l.length):=by
  induction l with
  |nil=>simp[numB]
  |cons a l ih=>
   simp only[qxz,numB,qyz];rw[ih,show 8*(l.length+1)=8+8*l.length by omega,Nat.pow_add];rw[show(2:Nat)^8=256 from rfl];rw[Nat.mul_add,qXl,Nat.mul_left_comm]
 refine⟨?_,hadd,hlt l⟩;rw[hadd,Nat.shiftLeft_eq,Nat.add_comm,Nat.mul_comm,Nat.two_pow_add_eq_or_of_lt (hlt l),Nat.or_comm]
theorem XU(M:Nat)(h:M<4611686018427387904):wrap64 (M:Int)=M:=by unfold wrap64;omega
theorem AE(A c m:Nat)(hA:A<281474976710656)(hc:c<256)(hm:2^m<=281474976710656):bits .or .i64 (A:Int) (wrap64 ((c:Int)*2^m))=((A|||c<<<m:Nat):Int):=by
 have h1:c*2^m<=255*281474976710656:=Nat.mul_le_mul oM hm;have hcast:((c:Int)*2^m)=((c*2^m:Nat):Int):=by rw[Int.natCast_mul,Int.natCast_pow];rfl
 rw[hcast,<-Nat.shiftLeft_eq];rw[<-Nat.shiftLeft_eq]at h1;generalize c<<<m=M at*;rw[XU M oM];exact Ys _ _ oM oM
theorem Ah{w:World}{g at_:Nat}{b:Bk}(h:yN w g b at_)(size:Nat)(h1:1<=size)(h2:size<=7)(hl:at_+size<=60):
  Calls prog 272 #[.pointer (some ⟨g,0,none⟩),.int .i64 (size:Int)] w fun e w'=>e=.returned (.int .i64 ((numB ((b.drop at_).take size):Nat):Int))/\yN w' g b (at_+size)/\Upd (fun j=>j=g) w w':=by
 have c64:=h.c64;have c65:=h.c65;have z65:=h.fz 65;have H:=qqh h;have HL:=Y3 h1 h2 hl;have hat:=h.2.1;clear h;go_enter func272,ntmps272
 go_wp2_with fail
 rw[show(60:Int)-(at_:Int)=((60-at_:Nat):Int) by omega];refine(Qj 0 size (60-at_) h1 h2 (Nat.pow_pos oM) oM oM _).mono ?_;rintro e w' ⟨rfl,rfl⟩;go_wp2
 have h':=H.o.set65;have hU:Upd (fun j=>j=g) w' (w'.setCell ⟨g,65,none⟩ (.int .i64 0)):=zi _ _ _ _;generalize (w'.setCell ⟨g,65,none⟩ (.int .i64 0))=w1 at*;have H1:=Y2 h' hU;clear h' hU c64 c65 z65;go_loopw[5,32] (fun s5 s32 wr=>∃k:Nat,k<=size/\s32=.int .i64 k/\s5=.int .i64 ((numB ((b.drop at_).take k):Nat):Int)/\yN wr g b at_/\Upd (fun j=>j=g) w' wr) (fun _ s32 _=>size-(intOf s32).toNat)
 case atStart=>exact⟨0,qXy _,rfl,by simp[numB],H1.o.1,H1.o.2⟩
 case round=>
  obtain⟨k,hk,rfl,rfl,hr,hu⟩:=hrel;have c64:=hr.c64;by_cases hlt:k<size
  .have hbl:b.length=64:=hr.1;have hi:at_+k<b.length:=oM;have cb:=hr.byte hi;have e1:IntKind.i64.wrap ((at_:Int)+(k:Int))=(at_:Int)+(k:Int):=qxu _ oM;have e2:((at_:Int)+(k:Int)).toNat=at_+k:=oM;have e3:IntKind.i64.wrap (8*(k:Int))=8*(k:Int):=qxu _ oM;have b1:(0:Int)<=(at_:Int)+(k:Int)/\(at_:Int)+(k:Int)<64:=oM;obtain⟨b1,b2⟩:=b1;have hts:(b.drop at_).take (k+1)=(b.drop at_).take k++[b[at_+k]]:=by
    rw[qXk og];simp
   have hln:((b.drop at_).take k).length=k:=by simp;omega
   obtain⟨n1,n2,n3⟩:=UE ((b.drop at_).take k) b[at_+k];rw[hln]at n1 n2 n3;have hbt:b[at_+k].toNat<256:=b[at_+k].toNat_lt;have HH:=Y5 hr hu hts n1 n3;clear hr hu hts hln n1 n2 n3 hbl;generalize b[at_+k].toNat=by1 at*;go_wp2
   go_quiet(fail)
   clear e1 e2 e3 b1 b2;have hpw:(2:Nat)^(8*k)<=281474976710656:=qXq (Nat.pow_le_pow_right de (show 8*k<=48 by omega)) de;have hv:bits .or .i64 ((numB ((b.drop at_).take k):Nat):Int) (wrap64 ((by1:Int)*2^(8*k)))=((numB ((b.drop at_).take (k+1)):Nat):Int):=by
    obtain⟨-,-,hts,n1,n3⟩:=HH.o;rw[hts,n1];exact AE _ _ _ (qXr n3 hpw) oM hpw
   rw[hv];have hr2:=HH.o.1.keep ((uur (fun _=>False) wr).drewN nq) id;have hu2:Upd (fun j=>j=g) w' (wr.drewN nq):=HH.o.2.1.drewN nq;have HZ:=Y2 hr2 hu2;clear hr2 hu2 hv hpw;generalize wr.drewN nq=wz at*;go_wp2
   go_roundw
   case rel=>exact⟨k+1,oM,by go_num,rfl,HZ.o.1,HZ.o.2⟩
   case measure=>simp[intOf];omega
  .obtain rfl:k=size:=oM;have z64:=hr.fz 64;have h9:=hr.set64 (n:=at_+k) oM;rw[show((at_+k:Nat):Int)=(at_:Int)+(k:Int)from rfl]at h9;have HH:=Y2 h9 hu;clear hr hu h9;go_wp2
   go_ret
   exact⟨rfl,HH.o.1,HH.o.2.trans (zi _ _ _ _)⟩
theorem Vl:Tryz.zeroCells446.size=66:=kR
theorem Yz:Tryz.zeroCells446[64]?=some (.int .i64 0)/\Tryz.zeroCells446[65]?=some (.int .i64 0):=by constructor<;>kernel_rfl
theorem Qk(x:Bk)(hx:x.length=64):List.foldl (fun(cs:Array Value) (x:Value×Nat)=>cs.setIfInBounds x.2 x.1) Tryz.zeroCells446 (bkC x).zipIdx=(bkC x++[Value.int .i64 0,Value.int .i64 0]).toArray:=by
 have hb:(bkC x).length=64:=by rw[zm,hx]
 obtain⟨f1,f2⟩:=Go.Great.foldl_set 0 (bkC x) 0 Tryz.zeroCells446;simp only[qXx]at f2;apply qxd
 intro k;have e:(bkC x++[Value.int .i64 0,Value.int .i64 0]).toArray[k]?=(bkC x++[Value.int .i64 0,Value.int .i64 0])[k]?:=qyq;rw[f2 k,Vl,e];by_cases hk:k<64
 .rw [if_pos ⟨oM,oM,oM⟩,qyg oM];rfl
 .rw [if_neg oM,qyh oM,hb];by_cases h4:k=64
  .subst h4;exact Yz.1
  .by_cases h5:k=65
   .subst h5;exact Yz.2
   .rw [qxf (by rw[Vl];omega),qyk og]
theorem zcd{w:World}(b:Bk)(hb:b.length=64):
  Calls prog 271 #[.agg (bkC b).toArray] w fun e w'=>∃g,e=.returned (.pointer (some ⟨g,0,none⟩))/\yN w' g b 0/\w.heap.size<=g/\Below w.heap.size w w':=by
 have hr:=zg (zc w (.cells (bkC b).toArray 60) rfl);have Hb:=qqh hb;have hbu:=Qk b hb;have hlx:(bkC b).length=64:=by rw[zm,hb]
 clear hb;go_enter func271,ntmps271
 go_wp2_with (first
  |(refine qYy rfl _ _ rfl _ _ rfl _ _ hr underlying60 rfl (zq _ Hb.out) ?_)
  |fail)
 go_ret
 exact⟨w.heap.size+1,rfl,⟨Hb.out,oM,zc _ _ oe⟩,oM,((qxl _ w).alloc (qXo _) _).alloc oe _⟩
def endB(b:Bk)(at_:Nat):Bool:=((b.drop at_).take (60-at_)).all (·==0)
def endC(b:Bk)(at_:Nat):Int:=if endB b at_=true then 0 else 12
theorem zdL{w:World}{g at_:Nat}{b:Bk}(h:yN w g b at_):
  Calls prog 273 #[.pointer (some ⟨g,0,none⟩)] w fun e w'=>e=.returned (.int .i64 (endC b at_))/\Below w.heap.size w w':=by
 have c64:=h.c64;have c65:=h.c65;have hat:=h.2.1;have hbl:=qqh h.1;have H:=qqh h;clear h;have b1:(0:Int)<=(at_:Int)/\(at_:Int)<=60:=oM;obtain⟨b1,b2⟩:=b1;have e3:IntKind.i64.wrap (60-(at_:Int))=60-(at_:Int):=qxu _ oM;go_enter func273,ntmps273
 go_wp2
 go_quiet(fail)
 go_wp2
 have hr:=H.o.keep ((uur (fun _=>False) w).drewN nq) id;have HB:Hid (Below w.heap.size w (w.drewN nq)):=zQ (qxl _ w) nq;clear c64 c65 e3;generalize w.drewN nq=w1 at*
 go_loop [25] (fun s25=>∃k:Nat,k<=60-at_/\s25=.int .i64 k/\((b.drop at_).take k).all (·==0)=true) (fun s25=>60-at_-(intOf s25).toNat)
 case atStart=>exact⟨0,qXy _,rfl,oe⟩
 case round=>
  obtain⟨k,hk,rfl,ha⟩:=hrel;have HA:=qqh ha;clear ha;by_cases hlt:k<60-at_
  .have hi:at_+k<b.length:=by rw[hbl.out];omega
   have cb:=hr.byte hi;have hts:Hid ((b.drop at_).take (k+1)=(b.drop at_).take k++[b[at_+k]]):=by
    show _=_;rw[qXk (by simp;have:=hbl.out;omega)];simp
   have b3:(0:Int)<=(k:Int)/\(k:Int)<((60-at_:Nat):Int):=oM;have b4:(k:Int)<((64-at_:Nat):Int):=oM;obtain⟨b3,b3'⟩:=b3;by_cases hz:b[at_+k]=0
   .have hq:(((b[at_+k].toNat:Nat):Int)==0)=true:=by rw[hz];rfl
    have hq2:(((b[at_+k].toNat:Nat):Int) !=0)=false:=by rw[hz];rfl
    have HZ:=qqh hz;clear hz;generalize b[at_+k].toNat=by1 at*;go_wp2
    go_round
    case rel=>exact⟨k+1,oM,by go_num,by rw[hts.out,List.all_append,HA.o,HZ.o];rfl⟩
    case measure=>simp[intOf];omega
   .have hq:(((b[at_+k].toNat:Nat):Int)==0)=false:=by
     rw[qYo];intro e;exact hz (UInt8.toNat_inj.1 (by have:(0:UInt8).toNat=0:=rfl;omega))
    have hq2:(((b[at_+k].toNat:Nat):Int) !=0)=true:=by simp[bne,hq]
    have hend:Hid (endC b at_=12):=by
     show _=_;unfold endC;rw[if_neg];intro e;unfold endB at e;rw[qxv]at e;have hm:b[at_+k]∈(b.drop at_).take (60-at_):=by
      have h1:b[at_+k]∈(b.drop at_).take (k+1):=by rw[hts.out];simp
      exact(List.take_subset_take_left _ oM) h1
     exact hz (by simpa using e _ hm)
    clear hz;generalize b[at_+k].toNat=by1 at*;go_wp2
    go_ret
    exact⟨by rw[hend.out];rfl,HB.o⟩
  .obtain rfl:k=60-at_:=oM;have hend:Hid (endC b at_=0):=if_pos HA.o;go_wp2
   go_ret
   exact⟨by rw[hend.out];rfl,HB.o⟩
end Go.Proofs.YtpejdgiccaijfaaGreatDoor
