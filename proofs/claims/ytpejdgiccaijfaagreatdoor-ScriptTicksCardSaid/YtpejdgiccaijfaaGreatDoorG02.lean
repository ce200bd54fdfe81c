/- A device: Flus -/
import Derived.Test.YtpejdgiccaijfaaGreatDoorG01
set_option maxRecDepth 100000
set_option maxHeartbeats 1000000
namespace Go.Proofs.YtpejdgiccaijfaaGreatDoor
open Go Go.RowKit Tryz
variable{w w':World}{O:List (Nat×Bk)}{F:List Bk}{g b i s k o n:Nat}{S:Nat->Prop}{P:List Int}
def flushF(F:List Bk)(O:List (Nat×Bk)):List Bk:=O.foldl (fun F p=>F.set p.1 p.2) F
theorem xS(F:List Bk)(O:List (Nat×Bk))(p:Nat×Bk):flushF F (O++[p])=(flushF F O).set p.1 p.2:=by simp[flushF]
theorem zI(F:List Bk)(O:List (Nat×Bk)):(flushF F O).length=F.length:=by
 induction O generalizing F with
 |nil=>rfl
 |cons h O a=>simp only[flushF,List.foldl_cons]at a⊢;rw[a];simp
theorem RY(h:∀a∈O,a.2.length=64)(hi:i<O.length){j:Nat}(p:j<65):(Al O)[i*65+j]?=(wrC O[i].1 O[i].2)[j]?:=by
 induction O generalizing i with
 |nil=>simp at hi
 |cons x O q=>
  have h1:=h x oe;cases i with
  |zero=>
   simp only[Al,qyf,qYa,qXy,qyt];rw[qyh (by simp[zm,h1];exact p)]
  |succ i=>
   simp only[Al,qyf,qys];rw[qyi (by simp[zm,h1];omega)];have:=q (fun y hy=>h y (by simp[hy])) (i:=i) oz;rw[<-this];simp only[qza,zm,h1]
   congr 1
   omega
section
variable{w w' w2:World}{b:Nat}{vf vo vp v2:Value}{F F':List Bk}{O O':List (Nat×Bk)}{P P':List Int}
theorem DvAt.opRange(p:DvAt w b vf vo vp F O P)(q:k<O.length):∃g a h,vo=.slice (some ⟨g,a,none⟩) O.length h/\g<w.heap.size/\O.length<=h/\w.rangeAt g (a+k*65) (wrC O[k].1 O[k].2):=by
 obtain⟨L,⟨_,M⟩|⟨g,a,h,N,rfl,v,G,Q,T,H⟩⟩:=p.os
 .omega
 .refine ⟨g,a,h,rfl,zd v,G,fun U V A=>?_⟩;have D:∀j∈O,j.2.length=64:=fun j J=>(p.good.o64 j J).1;have E:=(qym.1 A).1;rw[wrC_len,D _ (qyv q)]at E;rw[za v,qXm];exact H _ _ (by rw[RY D q E];exact A)
theorem DvAt.kJ(h:DvAt w b vf vo vp F O P)(q:k<F.length):∃g a j,vf=.slice (some ⟨g,a,none⟩) F.length j/\g<w.heap.size/\F.length<=j/\w.rangeAt g (a+k*64) (bkC F[k])/\w.there g (a+k*64) 64:=by
 obtain⟨D,⟨_,E⟩|⟨g,a,j,G,rfl,p,v,H,J,A⟩⟩:=h.fs
 .omega
 .have:=qXv 64 v;exact⟨g,a,j,rfl,zd p,v,Zt h.good.f64 p A q,Qa p q oM⟩
theorem DvAt.setFirm{off cap:Nat}(h:DvAt w b (.slice (some ⟨g,off,none⟩) F.length cap) vo vp F O P)(A:s<F.length){x:Bk}(hx:x.length=64):
  DvAt (w.setCells g (off+s*64) (bkC x)) b (.slice (some ⟨g,off,none⟩) F.length cap) vo vp (F.set s x) O P:=by
 have j:=zn w g (off+s*64) (bkC x);have D:g≠b:=fun e=>h.fb oQ;have v:=Sl.row_set h.good.f64 h.fs A hx;rw[qzf]at v;have a:(F.set s x).length=F.length:=qzf;exact{h with
  str:=(j.block b h.blt (fun e=>D e.symm)).trans h.str
  fs:=by rw[a];exact v
  os:=h.os.keep j (fun p q e=>h.fo p oQ q)
  ps:=h.ps.keep j (fun p q e=>h.fp p oQ q)
  good:={h.good with f64:=h.good.f64.set s hx,o64:=by rw[a];exact h.good.o64,f1:=by rw[a];exact h.good.f1,fl:=by rw[a];exact h.good.fl}}
theorem DvAt.openNil(h:DvAt w b vf vo vp F O P):DvAt (w.setCell ⟨b,1,none⟩ (.slice none 0 0)) b vf (.slice none 0 0) vp F [] P:=
 {str:=zh h.str 1 _
  fs:=h.fs.kM (zi _ _ _ _) h.fb
  os:=Sl.nil _ _ _
  ps:=h.ps.kM (zi _ _ _ _) h.pb
  good:={h.good with o64:=oe,ol:=by simp}
  fb:=h.fb
  ob:=by simp[Value.ownBlock]
  pb:=h.pb
  fo:=(Dis.nil _ _ _).symm
  fp:=h.fp
  op:=Dis.nil _ _ _}
end
theorem qo(a:k<O.length):flushF F (O.take (k+1))=(flushF F (O.take k)).set O[k].1 O[k].2:=by
 rw[qXl a,xS]
theorem RZ(s:Int)(x:Bk)(hx:x.length=64):(prog.info? 145).map (·.size)=some (wrC s x).length:=by
 obtain⟨i,z,a,_,_,h1,_⟩:=xA;rw[a,wrC_len,hx,Option.map_some,h1]
theorem zN{a:Nat}{v:Value}{h:List Value}(j:w.cell? ⟨g,o,none⟩=some v)(p:¬g=b):(w.setCells b a h).cell? ⟨g,o,none⟩=some v:=by
 rw[World.cell?_setCells_out b h a w _ (fun e _=>absurd e p),j]
theorem Au{H:Nat}(h:Dv S w b F O P)(v:∀a,w.heap.size<=a->S a)
  (A:w.cell? ⟨H,0,none⟩=some (.pointer (some ⟨b,0,none⟩))) (s0:¬S H):
  Calls prog 83 #[.pointer (some ⟨H,0,none⟩)] w fun e w'=>e=.returned (.tuple #[])/\Dv S w' b (flushF F O) [] P/\Upd S w w':=by
 obtain⟨vf,vo,vp,h,p⟩:=h;obtain⟨-,ax,-⟩:=h.c;obtain⟨a8,T,rfl⟩:=h.os.rd.j6;have ay:=h.good.ol;have U:=Y5 h p v A s0;clear h p v;go_enter func83,ntmps83
 go_wp2
 go_loopw[8] (fun i wr=>∃k:Nat,k<=O.length/\i=.int .i64 k/\DvAt wr b vf (.slice a8 O.length T) vp (flushF F (O.take k)) O P/\Upd (fun a=>vf.ownBlock=some a\/w.heap.size<=a) w wr)
  (fun i _=>O.length-(intOf i).toNat)
 case atStart=>exact⟨0,qXz _,rfl,U.o.1,uur _ _⟩
 case round=>
  obtain⟨k,aa,rfl,j,D⟩:=hrel;by_cases hlt:k<O.length
  .obtain ⟨h,p,v,A,s0⟩:=U.o;obtain⟨ab,ad,ak,E,am,az,V⟩:=j.opRange hlt;obtain⟨rfl,rfl⟩:a8=some ⟨ab,ad,none⟩/\T=ak:=by injection E with E _ an;exact⟨E,an⟩
   clear E;have ae:=j.good.o64 O[k] (qyv hlt);obtain⟨s,x,W⟩:∃s x,O[k]=(s,x):=⟨_,_,rfl⟩
   rw[W]at ae V;have ao:=qqh W;clear W;obtain⟨hx,X⟩:=ae;obtain⟨q,G,Y,E,ap,aq,ar,af⟩:=j.kJ X;have aA:0<=(k:Int)/\(k:Int)<O.length:=⟨oM,oM⟩
   have Z:w.heap.size<=wr.heap.size:=D.size;go_wp2_with (first
    |refine qYz rfl _ _ rfl _ _ rfl _ _ V underlying145 rfl (RZ _ _ hx) ?_
    |(refine zk rfl _ _ _ rfl _ _ _ rfl rfl (by rw[Ye,wrC_len,hx]) (RZ _ _ hx) (uM _ _) ?_)
    |fail)
   rw[zI]at X E aq;subst E;have a6:Upd (fun _=>False) wr (wr.alloc (.cells (wrC (s:Int) x).toArray 145)):=(uur _ _).alloc _;have J:=j.new a6;have N:=D.trans (a6.mono fE);have q2:(wr.alloc (.cells (wrC (s:Int) x).toArray 145)).rangeAt wr.heap.size 0 (wrC (s:Int) x):=fun a ag hv=>by
    rw[za (zc wr _ rfl)];simpa using hv
   have q1:=q2 0 _ rfl;have aB:(wr.alloc (.cells (wrC (s:Int) x).toArray 145)).rangeAt wr.heap.size 1 (bkC x):=fun a ag hv=>by
    have:=q2 (1+a) ag jv;rw[qXy]at this;exact this
   have aC:=qYn af (.cells (wrC (s:Int) x).toArray 145);have au:¬H=q:=fun e=>s0 (p H (.inr (.inl oQ)));have av:=N.j3 A (by rintro(e|e);exact au (by simpa[Value.ownBlock]using e.symm);have:=qYh w _ A;simp at this;omega);obtain⟨aD,-,-⟩:=J.c;have aE:¬b=q:=fun e=>j.fb oQ;have aF:=underlying60;have aG:=zu x hx;have aH:(bkC x).length=64:=by rw[zm,hx]
   have aI:=zx x;have aw:0<=(s:Int)/\(s:Int)<F.length:=⟨oM,oM⟩
   have aJ:¬wr.heap.size=q:=oM;rw[qXy]at q1;obtain⟨aK,aL⟩:=aw;generalize wr.alloc (.cells (wrC (s:Int) x).toArray 145)=a7 at*;have Q:=Y5 J N j D Z;clear J N j D Z a6 q2 p v h af ar V A s0 am ap;generalize wr.heap.size=m at*
   go_region_held3 (fun L=>L.cell? ⟨H,0,none⟩=some (.pointer (some ⟨b,0,none⟩))/\L.cell? ⟨b,0,none⟩=some (.slice (some ⟨q,G,none⟩) F.length Y)/\L.cell? ⟨m,0,none⟩=some (.int .i64 (s:Int))/\L.rangeAt m 1 (bkC x)/\L.there q (G+s*64) 64)
    ((go_split_ands;(simp only[qYk,World.there_drew,qYi]at*);((repeat' constructor)<;>first|assumption|(apply World.there_setCells;assumption)|(refine zN ?_ ?_<;>assumption)|(refine World.rangeAt_setCells_apart (by assumption) _ _ _ oM))))
    (fail)
   have ah:DvAt (a7.drew.setCells q (G+s*64) (bkC x)) b (.slice (some ⟨q,G,none⟩) F.length Y) (.slice (some ⟨ab,ad,none⟩) O.length T) vp (flushF F (O.take (k+1))) O P:=by
    obtain⟨J,N,j,D,Z⟩:=Q.o;have h2:=J.new ((uur (fun _=>False) _).drew);rw[<-zI F (O.take k)]at h2;have:=h2.setFirm (s:=s) (x:=x) (by rw[zI];exact X) hx;rw[zI]at this;rw[qo hlt,ao.o];exact this
   have ai:Upd (fun a=>(Value.slice (some ⟨q,G,none⟩) F.length Y).ownBlock=some a\/w.heap.size<=a) w (a7.drew.setCells q (G+s*64) (bkC x)):=
    Q.o.2.1.drew.trans ((zn a7.drew q (G+s*64) (bkC x)).mono (fun a _ e=> .inl oQ))
   have aj:=Y2 ah ai;clear ah ai;go_wp2
   go_roundw
   case rel=>exact⟨k+1,oM,by go_num,aj.o.1,aj.o.2⟩
   case measure=>simp[intOf];omega
  .obtain rfl:k=O.length:=oM;rw[List.take_length]at j;obtain⟨h,p,v,A,s0⟩:=U.o;have M:Upd S w wr:=D.mono (fun a _ e=>e.elim (fun e=>p a (.inr (.inl e))) (v a));have av:=M.j3 A s0;have q1:=j.fz 1;obtain⟨-,q2,-⟩:=j.c;have Q:=Y4 j M p v;clear j M D h p v A s0;go_wp2
   go_end0
   obtain⟨j,M,p,v⟩:=Q.o;refine⟨rfl,⟨vf,_,vp,j.openNil,?_⟩,M.trans (Upd.mono (zi _ _ _ _) (fun k _ aa=>aa▸p _ (.inl rfl)))⟩;rintro a (rfl|h|h|h)
   .exact p _ (.inl rfl)
   .exact p _ (.inr (.inl h))
   .cases h
   .exact p _ (.inr (.inr (.inr h)))
def Qf(S:Nat->Prop)(w:World)(b:Nat)(F:List Bk)(O:List (Nat×Bk))(P:List Int)(e:Ending)(w':World):Prop:=
 (fate P=1/\e=.returned (.int .i64 21)/\Dv S w' b F O P.tail/\Upd S w w')\/
 (fate P=0/\e=.returned (.int .i64 0)/\Dv S w' b (flushF F O) [] P.tail/\Upd S w w')\/
 (fate P≠0/\fate P≠1/\e=.returned (.int .i64 0)/\Dv S w' b F O P.tail/\Upd S w w')
theorem zbV(h:Dv S w b F O P)(D:∀a,w.heap.size<=a->S a):
  Calls prog 54 #[.pointer (some ⟨b,0,none⟩)] w (Qf S w b F O P):=by
 have Y:=qqf;have V:=Y2 h D;clear h D;go_enter func54,ntmps54
 go_wp2_with fail
 have E:Upd (fun _=>False) w (w.alloc (.cells #[.pointer (some ⟨b,0,none⟩)] 38)):=(uur _ w).alloc _;have H:(w.alloc (.cells #[.pointer (some ⟨b,0,none⟩)] 38)).cell? ⟨w.heap.size,0,none⟩=some (.pointer (some ⟨b,0,none⟩)):=za (zc w _ rfl) 0;have M:(w.alloc (.cells #[.pointer (some ⟨b,0,none⟩)] 38)).heap.size=w.heap.size+1:=oe;generalize (w.alloc (.cells #[.pointer (some ⟨b,0,none⟩)] 38))=N at E H M⊢;obtain⟨J,D⟩:=V.o;have G:=J.sb;have Q:∀a,((S a/\a<w.heap.size)\/w.heap.size+1<=a)->S a:=by
  rintro a (⟨h,-⟩|h)
  .exact h
  .exact D a oM
 have T:Dv (fun a=>(S a/\a<w.heap.size)\/w.heap.size+1<=a) N b F O P:=(J.kI (fun a p W=> .inl ⟨p,W⟩)).keep E (fun _ _ h=>h);have A:=Y3 Q E G;refine(RU T 21 83 _ (fun U=>Dv (fun a=>(S a/\a<w.heap.size)\/w.heap.size+1<=a) U b (flushF F O) [] P.tail/\Upd (fun a=>(S a/\a<w.heap.size)\/w.heap.size+1<=a) N U) (fun _ _=>rfl) ?_).mono ?_
 .intro Z w1 X L;refine(Au X (fun a p=> .inr (by have:=L.size;omega)) (L.j3 H oM) oM).mono ?_;rintro e w' ⟨rfl,q,v⟩;exact⟨rfl,q,(L.mono (fun a _ p=>p▸ .inl ⟨G.1,G.2⟩)).trans v⟩
 .clear T J D E M Q H G;rintro e a6 (⟨h1,rfl,q,v⟩|⟨h1,rfl,q,v⟩|⟨h1,h2,rfl,q,v⟩)
  .have j:=Y3 h1 q v;clear h1 q v;go_wp2
   go_ret
   exact .inl ⟨j.out.1,rfl,j.out.2.1.wide A.o.1,(A.o.2.1.mono fE).trans (j.out.2.2.mono (fun a _ p=>p▸A.o.2.2.1))⟩
  .have j:=Y3 h1 q v;clear h1 q v;go_wp2
   go_ret
   exact .inr (.inl ⟨j.out.1,rfl,j.out.2.1.wide A.o.1,(A.o.2.1.mono fE).trans (j.out.2.2.mono (fun a _ p=>A.o.1 a p))⟩)
  .have j:=Y4 h1 h2 q v;clear h1 h2 q v;go_wp2
   go_ret
   exact .inr (.inr ⟨j.out.1,j.out.2.1,rfl,j.out.2.2.1.wide A.o.1,(A.o.2.1.mono fE).trans (j.out.2.2.2.mono (fun a _ p=>p▸A.o.2.2.1))⟩)
def curB(F:List Bk)(O:List (Nat×Bk))(s:Nat):Bk:=(flushF F O).getD s zB
theorem rm(F:List Bk)(O O':List (Nat×Bk)):flushF F (O++O')=flushF (flushF F O) O':=by simp[flushF]
theorem Xt(h:∀a∈O,a.1≠s):(flushF F O)[s]?=F[s]?:=by
 induction O generalizing F with
 |nil=>rfl
 |cons a O j=>
  have:=j (F:=F.set a.1 a.2) (fun p q=>h p (by simp[q]));simp only[flushF,List.foldl_cons]at this⊢;rw[this,List.getElem?_set_ne (h a oe)]
theorem Zv(h:∀p∈O.drop k,p.1≠s):curB F O s=curB F (O.take k) s:=by
 unfold curB;have:flushF F O=flushF (flushF F (O.take k)) (O.drop k):=by rw[<-rm,qXj]
 rw[this,qyg,Xt h,<-qyg]
theorem Sa(a:k<O.length)(h:s<F.length)(j:O[k].1=s)(p:∀q∈O.drop (k+1),q.1≠s):curB F O s=O[k].2:=by
 rw[Zv p];unfold curB;rw[qo a,j,qyg,List.getElem?_set_self (by rw[zI];exact h)];rfl
theorem Qg(a:s<F.length)(h:∀j∈O,j.1≠s):curB F O s=F[s]:=by
 rw[Zv (k:=0) (by simpa using h)];simp[curB,flushF,a]
theorem rn(h:DvGood F O P)(s:Nat):(curB F O s).length=64:=by
 unfold curB;have:∀(O:List (Nat×Bk)) (F:List Bk),All64 F->(∀a∈O,a.2.length=64)->All64 (flushF F O):=by
  intro O
  induction O with
  |nil=>intro F h _;exact h
  |cons a O q=>intro F v j;exact q _ (v.set a.1 (j a oe)) (fun A D=>j A (by simp[D]))
 have h2:=this O F h.f64 (fun a E=>(h.o64 a E).1);by_cases p:s<(flushF F O).length
 .rw [qyg,qyk p];exact h2 _ (qyv p)
 .rw [qyg,qyl oM];exact zH
theorem zbW(w:World):Calls prog 197 #[] w fun e w'=>e=.returned (.tuple #[])/\w'=w:=by
 go_enter func197,ntmps197
 go_wp2
 go_end0
 exact⟨rfl,rfl⟩
theorem zo(x:Bk)(hx:x.length=64):(bkC x).toArray.size=64:=by simp[zm,hx]
def Sb(S:Nat->Prop)(w:World)(b:Nat)(F:List Bk)(O:List (Nat×Bk))(P:List Int)(s:Int)(e:Ending)(w':World):Prop:=
 (hasC F.length s≠0/\e=.returned (.tuple #[bkV zB,.int .i64 (hasC F.length s)])/\Dv S w' b F O P/\Upd S w w')\/
 (hasC F.length s=0/\fate P=1/\e=.returned (.tuple #[bkV zB,.int .i64 19])/\Dv S w' b F O P.tail/\Upd S w w')\/
 (hasC F.length s=0/\fate P≠1/\e=.returned (.tuple #[bkV (curB F O s.toNat),.int .i64 0])/\Dv S w' b F O P.tail/\Upd S w w')
theorem zM:(prog.info? 60).map (·.size)=some 64:=zu zB zH
theorem zex(h:Dv S w b F O P)(ah:∀a,w.heap.size<=a->S a)(s:Int):
  Calls prog 132 #[.pointer (some ⟨b,0,none⟩),.int .i64 s] w (Sb S w b F O P s):=by
 have ad:=Y2 h ah;clear h ah;go_enter func132,ntmps132
 go_wp2
 go_step3
 go_wp2_with fail
 show Calls _ _ _ (w.alloc (.cells (bkC zB).toArray 60)) _;have N:Upd (fun _=>False) w (w.alloc (.cells (bkC zB).toArray 60)):=(uur _ w).alloc _;have T:(w.alloc (.cells (bkC zB).toArray 60)).heap[w.heap.size]?=some (.cells (bkC zB).toArray 60):=zc _ _ rfl;have q:(w.alloc (.cells (bkC zB).toArray 60)).heap.size=w.heap.size+1:=oe;generalize w.alloc (.cells (bkC zB).toArray 60)=w1 at*;obtain⟨au,ah⟩:=ad.o;obtain⟨p,v⟩:=au.sb;have V:Dv (fun a=>(S a/\a<w.heap.size)\/w.heap.size+1<=a) w1 b F O P:=(au.kI (fun a U av=> .inl ⟨U,av⟩)).keep N (fun _ _ h=>h);have j:∀a,((S a/\a<w.heap.size)\/w.heap.size+1<=a)->S a:=by
  rintro a (⟨h,-⟩|h)
  .exact h
  .exact ah a oM
 have W:=Y7 V N T q j p v;clear V N T q j p v au ah;refine(zev W.o.1 s).mono ?_;rintro e aw ⟨rfl,rfl⟩;by_cases Y:hasC F.length s=0
 .have Z:=qqh Y;rw[Y];clear Y;go_wp2_with fail
  refine(RU W.o.1 19 197 #[] (fun aD=>Dv (fun a=>(S a/\a<w.heap.size)\/w.heap.size+1<=a) aD b F O P.tail/\Upd (fun a=>a=b) aw aD) (fun _ _=>rfl) ?_).mono ?_
  .intro aE w1 V N;refine(zbW w1).mono ?_;rintro e w' ⟨rfl,rfl⟩;exact⟨rfl,V,N⟩
  .obtain ⟨V,N,T,q,j,p,v⟩:=W.o;rintro e A ax;have ae:Hid (Dv (fun a=>(S a/\a<w.heap.size)\/w.heap.size+1<=a) A b F O P.tail/\Upd (fun a=>a=b) aw A):=by
    rcases ax with⟨-,-,ay,b⟩|⟨-,-,ay,b⟩|⟨-,-,-,ay,b⟩<;>exact⟨ay,b⟩
   have a6:A.there w.heap.size 0 64:=fun a U=>by
    have aF:=(ae.o.2.block w.heap.size oM oM).trans T;rw[za aF,zf aF];exact⟨by rw[qXy,qxe (by simp[zm,zH];omega)];rfl,rfl⟩
   have az:Hid (Upd S w A):=(N.mono fE).trans (ae.o.2.mono (fun a _ e=>e▸p));have Q:=ae.o.2.size;clear V N T;have aQ:(fate P=1/\e=.returned (.int .i64 19))\/(fate P≠1/\e=.returned (.int .i64 0)):=by
    rcases ax with⟨h1,rfl,-,-⟩|⟨aE,rfl,-,-⟩|⟨aE,h1,rfl,-,-⟩
    .exact .inl ⟨h1,rfl⟩
    .exact .inr ⟨oM,rfl⟩
    .exact .inr ⟨h1,rfl⟩
   clear ax;rcases aQ with⟨h1,rfl⟩|⟨h1,rfl⟩
   .have ak:=qqh h1;clear h1 q j p v Q;go_wp2_with (first
     |(refine qZb rfl _ _ _ rfl _ _ (bkC zB).toArray rfl rfl (by rw[zo _ zH];exact a6) (by rw[zo _ zH];exact zM) (qYo (zx _)) ?_)
     |fail)
    rw[qxr];refine qYq (zp rfl _ _ w.heap.size 0 (bkC zB) _ rfl (qYl _ _ _ _ (by rw[zm,zH];exact a6)) underlying60 rfl (zu zB zH)) rfl (.inr (.inl ⟨Z.o,ak.o,rfl,?_,?_⟩))
    .exact (ae.o.1.keep (zn _ _ _ _) (by rintro a (⟨-,h⟩|h) e<;>omega)).wide (by obtain⟨-,-,-,-,j,-⟩:=W.o;exact j)
    .exact az.out.trans ((zn _ _ _ _).mono (fun a _ e=>e▸ad.o.2 _ (qXp _)))
   .have ak:=qqh h1;clear h1;obtain⟨n,rfl⟩:∃n:Nat,s=n:=⟨s.toNat,(tO Z.o).1.symm⟩
    have ai:=(tO Z.o).2;rw[qxt]at ai;obtain⟨vf,vo,vp,X,M⟩:=ae.o.1;obtain⟨b9,ba,bb,rfl,aR,aS,aG,aT⟩:=X.kJ ai;obtain⟨aU,aV,rfl⟩:=X.os.rd.j6;obtain⟨aW,aA,af⟩:=X.c;have bc:=X.good.fl;have bd:=X.good.ol;have hx:(F[n]).length=64:=X.good.f64 _ (qyv ai);have D:Upd (fun _=>False) A (A.alloc (.cells (bkC F[n]).toArray 60)):=(uur _ _).alloc _;have E:=X.new D;have H:=zc A (.cells (bkC F[n]).toArray 60) rfl;have J:=qYn a6 (.cells (bkC F[n]).toArray 60);have be:=E.c.2.1;have aH:0<=(n:Int)/\(n:Int)<F.length:=⟨oM,oM⟩
    have aI:Hid ((bkC F[n]).length=64):=by show _=_;rw[zm,hx]
    have a7:Hid (F[n].length=64):=hx;have ag:=Y10 E M D H J Q q j p v;clear X M hx aT aR aS E D H J Q q j p v a6;obtain⟨aH,bf⟩:=aH;go_wp2_with (first
     |(refine qYz rfl _ _ rfl _ _ rfl _ _ aG underlying60 rfl (zu _ a7.out) ?_)
     |(refine zk rfl _ _ _ rfl _ _ _ rfl rfl aI.out.symm (zu _ a7.out) (zx _) ?_)
     |fail)
    clear aW aA af aG;generalize A.alloc (.cells (bkC F[n]).toArray 60)=a8 at*
    go_step3
    go_wp2
    go_loop [9] (fun i=>∃k:Nat,k<=O.length/\i=.int .i64 ((k:Int)-1)/\∀aa∈O.drop k,aa.1≠n) (fun i=>(intOf i+1).toNat)
    case atStart=>exact⟨O.length,qXp _,rfl,oe⟩
    case round=>
     obtain⟨k,bg,rfl,aJ⟩:=hrel;have aB:Hid (∀aa∈O.drop k,aa.1≠n):=aJ;clear aJ;cases k with
     |zero=>
      obtain⟨E,M,D,H,J,Q,q,j,p,v⟩:=ag.o;have aX:=zg H;have aY:Hid (curB F O n=F[n]):=Qg ai (by have:=aB.o;simpa using this);have aK:a8.there w.heap.size 0 (bkC F[n]).toArray.size:=by rw[zo _ a7.out];exact J
      have aj:(prog.info? 60).map (·.size)=some (bkC F[n]).toArray.size:=by rw[zo _ a7.out];exact zM
      have L:=Y2 aK aj;clear E M D H q j p v aK aj;simp only[Int.natCast_zero];go_wp2_with (first
       |(refine qYz rfl _ _ rfl _ _ rfl _ _ aX underlying60 rfl (zu _ a7.out) ?_)
       |(refine qZb rfl _ _ _ rfl _ _ (bkC F[n]).toArray rfl rfl L.o.1 L.o.2 (qYo (zx _)) ?_)
       |fail)
      try rw[qxr]
      refine qYq (zp rfl _ _ w.heap.size 0 (bkC F[n]) _ rfl (qYl _ _ _ _ (by rw[aI.out];exact J)) underlying60 rfl (zu _ a7.out)) rfl (.inr (.inr ⟨Z.o,ak.o,by rw[qxt,aY.out];rfl,?_,?_⟩))
      .obtain ⟨E,M,D,H,J,Q,q,j,p,v⟩:=ag.o;exact(Dv.keep ⟨_,_,_,E,M⟩ (zn _ _ _ _) (by rintro a (⟨-,h⟩|h) e<;>omega)).wide j
      .obtain ⟨E,M,D,H,J,Q,q,j,p,v⟩:=ag.o;exact(az.out.trans (D.mono fE)).trans ((zn _ _ _ _).mono (fun a _ e=>e▸ad.o.2 _ (qXp _)))
     |succ k=>
      have hlt:k<O.length:=oM;have aL:((k+1:Nat):Int)-1=(k:Int):=oM;rw[aL];clear aL;obtain⟨E,M,D,H,J,Q,q,j,p,v⟩:=ag.o;obtain⟨aM,aN,aZ,af,b0,b1,am⟩:=E.opRange hlt;obtain⟨rfl,rfl⟩:aU=some ⟨aM,aN,none⟩/\aV=aZ:=by injection af with aA _ af;exact⟨aA,af⟩
      clear af;obtain⟨an,G,ao⟩:∃s x,O[k]=(s,x):=⟨_,_,rfl⟩
      have ab:G.length=64:=by have:=(E.good.o64 O[k] (qyv hlt)).1;rw[ao]at this;exact this
      rw[ao]at am;have aC:=qqh ao;clear ao;have b2:=am 0 _ rfl;have b3:a8.rangeAt aM (aN+k*65+1) (bkC G):=fun a b4 hv=>by
       have:=am (1+a) b4 jv;rw[<-qXm]at this;exact this
      rw[qXn]at b2;have bh:0<=(k:Int)/\(k:Int)<O.length:=⟨oM,oM⟩
      clear E M D Q q j p v am b0 b1;by_cases ap:an=n
      .subst ap;have b5:Hid (curB F O an=G):=by
        have:=Sa hlt ai (by rw[aC.o]) aB.o;rw[aC.o]at this;exact this
       obtain⟨bi,b6⟩:∃g,g=A.heap.size:=⟨_,rfl⟩
       have aq:a8.there A.heap.size 0 (bkC G).toArray.size:=by
        rw[zo _ ab];intro a U;rw[za H,zf H];exact⟨by rw[qXy,qxe (by rw[zo _ a7.out];exact U)];rfl,rfl⟩
       have aj:(prog.info? 60).map (·.size)=some (bkC G).toArray.size:=by rw[zo _ ab];exact zM
       have aO:(a8.setCells A.heap.size 0 (bkC G)).rangeAt A.heap.size 0 (bkC G):=qYl _ _ _ _ (by rw[zo _ ab]at aq;rw[zm,ab];exact aq);have aP:(a8.setCells A.heap.size 0 (bkC G)).there w.heap.size 0 (bkC G).toArray.size:=by rw[zo _ ab];exact World.there_setCells J _ _ _
       have L:=Y5 aq aj aO aP ab;clear aq aj aO aP b6 ab;go_wp2_with (first
        |(refine qYz rfl _ _ rfl _ _ rfl _ _ b3 underlying60 rfl (zu _ L.o.2.2.2.2) ?_)
        |(refine qYz rfl _ _ rfl _ _ rfl _ _ L.o.2.2.1 underlying60 rfl (zu _ L.o.2.2.2.2) ?_)
        |(refine qZb rfl _ _ _ rfl _ _ (bkC G).toArray rfl rfl L.o.1 L.o.2.1 (qYo (zx _)) ?_)
        |(refine qZb rfl _ _ _ rfl _ _ (bkC G).toArray rfl rfl L.o.2.2.2.1 L.o.2.1 (qYo (zx _)) ?_)
        |fail)
       have b7:(a8.setCells A.heap.size 0 (bkC G)).there w.heap.size 0 (bkC G).length:=by rw[zm,L.o.2.2.2.2];exact World.there_setCells J _ _ _
       refine qYq (zp rfl _ _ w.heap.size 0 (bkC G) _ rfl (qYl _ _ _ _ b7) underlying60 rfl (zu _ L.o.2.2.2.2)) rfl (.inr (.inr ⟨Z.o,ak.o,by rw[qxt,b5.out];rfl,?_,?_⟩))
       .obtain ⟨E,M,D,H,J,Q,q,j,p,v⟩:=ag.o;have hv:Dv (fun a=>((S a/\a<w.heap.size)\/w.heap.size+1<=a)/\a<A.heap.size) a8 b F O P.tail:=(ae.o.1.kI (fun a U av=>⟨U,av⟩)).keep D (fun _ _ h=>h);exact((hv.keep (zn _ _ _ _) (by rintro a ⟨-,h2⟩ e;omega)).keep (zn _ _ _ _) (by rintro a ⟨⟨-,h⟩|h,h2⟩ e<;>omega)).wide (fun a U=>j a U.1)
       .obtain ⟨E,M,D,H,J,Q,q,j,p,v⟩:=ag.o;exact((az.out.trans (D.mono fE)).trans ((zn _ _ _ _).mono (fun a _ e=>e▸ad.o.2 _ oM))).trans ((zn _ _ _ _).mono (fun a _ e=>e▸ad.o.2 _ (qXp _)))
      .have bj:((an:Int)==(n:Int))=false:=by simpa using(fun e:(an:Int)=n=>ap oM)
       have b8:Hid (∀aa∈O.drop k,aa.1≠n):=by
        intro aa ar;rw[qya hlt]at ar;rcases qzn.1 ar with rfl|ar
        .rw [aC.o];exact ap
        .exact aB.o aa ar
       clear ap;go_wp2
       go_round
       case rel=>exact⟨k,oM,rfl,b8.out⟩
       case measure=>simp[intOf]
 .have Z:=qqh Y;have hz':(hasC F.length s==0)=false:=by simpa using Y
  have bn:(hasC F.length s !=0)=true:=by simpa using Y
  obtain⟨V,N,T,q,j,p,v⟩:=W.o;have a6:aw.there w.heap.size 0 64:=fun a U=>by
   rw[za T,zf T];exact⟨by rw[qXy,qxe (by simp[zm,zH];omega)];rfl,rfl⟩
  clear V N T q j p v Y;go_wp2_with (first
    |(refine qZb rfl _ _ _ rfl _ _ (bkC zB).toArray rfl rfl (by rw[zo _ zH];exact a6) (by rw[zo _ zH];exact zM) (qYo (zx _)) ?_)
    |fail)
  rw[qxr];refine qYq (zp rfl _ _ w.heap.size 0 (bkC zB) _ rfl (qYl _ _ _ _ (by rw[zm,zH];exact a6)) underlying60 rfl (zu zB zH)) rfl (.inl ⟨Z.o,rfl,?_,?_⟩)
  .exact (W.o.1.keep (zn _ _ _ _) (by rintro a (⟨-,h⟩|h) e<;>omega)).wide (by obtain⟨-,-,-,-,j,-⟩:=W.o;exact j)
  .exact (W.o.2.1.mono fE).trans ((zn _ _ _ _).mono (fun a _ e=>e▸ad.o.2 _ (qXp _)))
structure DRes where
 F:List Bk
 O:List (Nat×Bk)
 P:List Int
 cd:Int
def Am(S:Nat->Prop)(w:World)(b:Nat)(r:DRes)(e:Ending)(w':World):Prop:=e=.returned (.int .i64 r.cd)/\Dv S w' b r.F r.O r.P/\Upd S w w'
def flushR(F:List Bk)(O:List (Nat×Bk))(P:List Int):DRes:=
 if fate P=1 then⟨F,O,P.tail,21⟩else if fate P=0 then⟨flushF F O,[],P.tail,0⟩else ⟨F,O,P.tail,0⟩
def writeR(F:List Bk)(O:List (Nat×Bk))(P:List Int)(s:Nat)(y:Bk):DRes:=
 if fate P=1 then⟨F,O,P.tail,20⟩else if fate P=0 then⟨F,O++[(s,y)],P.tail,0⟩else ⟨F,O,P.tail,0⟩
theorem UE(h:s<n):hasC n (s:Int)=0:=if_neg oM
theorem xT(h:Dv S w b F O P)(q:∀p,w.heap.size<=p->S p):
  Calls prog 54 #[.pointer (some ⟨b,0,none⟩)] w (Am S w b (flushR F O P)):=
 (zbV h q).mono fun e w' h=>by
  rcases h with⟨h1,rfl,a,j⟩|⟨h1,rfl,a,j⟩|⟨h1,h2,rfl,a,j⟩
  .rw [flushR,if_pos h1];exact⟨rfl,a,j⟩
  .rw [flushR,if_neg oM,if_pos h1];exact⟨rfl,a,j⟩
  .rw [flushR,if_neg h2,if_neg h1];exact⟨rfl,a,j⟩
theorem vO(h:Dv S w b F O P)(q:∀p,w.heap.size<=p->S p)(s:Nat)(v:s<F.length)(x:Bk)(hx:x.length=64)(A:O.length<65536):
  Calls prog 49 #[.pointer (some ⟨b,0,none⟩),.int .i64 (s:Int),.agg (bkC x).toArray] w (Am S w b (writeR F O P s x)):=
 (zbU h q s x hx A).mono fun e w' h=>by
  have D:=UE v;rcases h with⟨h1,-⟩|⟨-,h1,rfl,a,j⟩|⟨-,h1,rfl,a,j⟩|⟨-,h1,h2,rfl,a,j⟩
  .exact absurd D h1
  .rw [writeR,if_pos h1];exact⟨rfl,a,j⟩
  .rw [writeR,if_neg oM,if_pos h1];rw[qxt]at a;exact⟨rfl,a,j⟩
  .rw [writeR,if_neg h2,if_neg h1];exact⟨rfl,a,j⟩
def Av(S:Nat->Prop)(w:World)(b:Nat)(F:List Bk)(O:List (Nat×Bk))(P:List Int)(s:Nat)(e:Ending)(w':World):Prop:=
 ∃(y:Bk) (cd:Int),e=.returned (.tuple #[.agg (bkC y).toArray,.int .i64 cd])/\y=(if fate P=1 then zB else curB F O s)/\cd=(if fate P=1 then 19 else 0)/\y.length=64/\Dv S w' b F O P.tail/\Upd S w w'
theorem ux(j:Dv S w b F O P)(q:∀p,w.heap.size<=p->S p)(s:Nat)(v:s<F.length):
  Calls prog 132 #[.pointer (some ⟨b,0,none⟩),.int .i64 (s:Int)] w (Av S w b F O P s):=
 (zex j q s).mono fun e w' A=>by
  have D:=UE v;rcases A with⟨h1,-⟩|⟨-,h1,rfl,a,h⟩|⟨-,h1,rfl,a,h⟩
  .exact absurd D h1
  .exact ⟨zB,19,rfl,(if_pos h1).symm,(if_pos h1).symm,zH,a,h⟩
  .exact ⟨curB F O s,0,rfl,(if_neg h1).symm,(if_neg h1).symm,rn j.good s,a,h⟩
theorem Dv.but(h:Dv S w b F O P){q:Nat}(p:w.heap.size<=q):Dv (fun a=>S a/\a≠q) w b F O P:=
 h.kI (fun a j v=>⟨j,oM⟩)
structure Nib(w:World):Prop where
 c:∀i,i<16->w.cell? ⟨0,i,none⟩=some (.int .i64 (nibC i))
theorem Nib.lt(h:Nib w):0<w.heap.size:=(zE (h.c 0 de)).2
theorem Nib.keep(a:Nib w)(hu:Upd S w w')(h:¬S 0):Nib w':=⟨fun i j=>(hu.cellAt a.lt h).trans (a.c i j)⟩
theorem Nib.below(a:Nib w)(h:Below w.heap.size w w'):Nib w':=a.keep (uuo (S:=fun _=>False) h) id
theorem Xu(s f:Nat)(M:s<4294967296)(N:f<256)(j:Nib w)(v:w.cell? ⟨g,0,none⟩=some (.int .i64 (s:Int)))(A:w.frozen? ⟨g,0,none⟩=false):
  Calls prog 307 #[.int .i64 (f:Int),.pointer (some ⟨g,0,none⟩)] w fun e w'=>e=.returned (.int .i64 (stepC s f:Nat))/\
   w'.cell? ⟨g,0,none⟩=some (.int .i64 (stepC s f:Nat))/\w'.frozen? ⟨g,0,none⟩=false/\Upd (fun a=>a=g) w w':=by
 have hx:=wK s f oM oM;have Q:s^^^f<4294967296:=Nat.xor_lt_two_pow (n:=32) oM oM;have D:bits .and .i64 ((s^^^f:Nat):Int) 15=(((s^^^f)&&&15:Nat):Int):=uO (s^^^f) 15 oM oM;have E:(s^^^f)&&&15<16:=Nat.and_lt_two_pow (n:=4) _ oM;have T:=j.c _ E;have G:bits .xor .i64 ((s:Int)/16) ((nibC ((s^^^f)&&&15):Nat):Int)=((s/16^^^nibC ((s^^^f)&&&15):Nat):Int):=wK (s/16) (nibC ((s^^^f)&&&15)) oM (by have:=UC ((s^^^f)&&&15);omega);have H:Hid (stepC s f=s/16^^^nibC ((s^^^f)&&&15)):=rfl;generalize (s^^^f)&&&15=m at*;clear j;go_enter func307,ntmps307
 go_wp2
 go_region
 rw[<-H.out];have J:Hid (Upd (fun a=>a=g) w (w.setCell ⟨g,0,none⟩ (.int .i64 (stepC s f:Nat))).drew):=(zi _ _ _ _).drew;have L:(w.setCell ⟨g,0,none⟩ (.int .i64 (stepC s f:Nat))).drew.cell? ⟨g,0,none⟩=some (.int .i64 (stepC s f:Nat)):=by
  rw[qYi,World.cell?_setCell_same _ _ _ v]
 have p:(w.setCell ⟨g,0,none⟩ (.int .i64 (stepC s f:Nat))).drew.frozen? ⟨g,0,none⟩=false:=by simpa using A
 have q:=Y2 L p;clear p G hx D;generalize (w.setCell ⟨g,0,none⟩ (.int .i64 (stepC s f:Nat))).drew=w2 at*;go_wp2
 go_ret
 exact⟨rfl,q.o.1,q.o.2,J.out⟩
theorem Xv(s:Nat):
  Calls prog 240 #[.int .i64 (s:Int)] w fun e w'=>e=.returned (.func (.func 307) #[] #[.pointer (some ⟨w.heap.size,0,none⟩)])/\w'=w.alloc (.cells #[.int .i64 (s:Int)] 3):=by
 have a:=qqf;go_enter func240,ntmps240
 go_wp2
 go_ret
 exact⟨rfl,rfl⟩
theorem uQ{gl cl ao:Nat}(xs:List UInt8)(j:Nib w)(D:w.cell? ⟨gl,0,none⟩=some (.slice (some ⟨g,o,none⟩) n ao))(hx:w.rangeAt g o (bkC xs))(p:xs.length=n)(au:1<=n)(av:n<=1000):
  Calls prog 174 #[.slice (some ⟨gl,0,none⟩) 1 cl] w fun e w'=>e=.returned (.int .i64 (crcC xs:Nat))/\Below w.heap.size w w':=by
 have a:Upd (fun _=>False) w (w.alloc (.cells #[.int .i64 ((4294967295:Nat):Int)] 3)):=(uur _ w).alloc _;have q:=za (zc w (.cells #[.int .i64 ((4294967295:Nat):Int)] 3) rfl) 0;have v:=zf (zc w (.cells #[.int .i64 ((4294967295:Nat):Int)] 3) rfl) 0;have A:g<w.heap.size:=by have:=qYh w _ (hx 0 _ oS);exact this
 have G:gl<w.heap.size:=qYh w _ D;have J:=Y9 j D hx p a q v A G;clear j D hx p a q v A G;go_enter func174,ntmps174
 go_wp2
 go_step3
 go_wp2_with fail
 refine(Xv 4294967295).mono ?_;rintro e w1 ⟨rfl,rfl⟩;go_wp2
 go_step3
 go_wp2
 generalize aa:w.alloc (.cells #[.int .i64 ((4294967295:Nat):Int)] 3)=w1 at*;have aw:Hid (w1=w.alloc (.cells #[.int .i64 ((4294967295:Nat):Int)] 3)):=aa.symm;clear aa;go_loopw[3,13] (fun T U wr=>(U=.int .i64 0/\T=.int .i64 4294967295/\wr.cell? ⟨w.heap.size,0,none⟩=some (.int .i64 4294967295)/\wr.frozen? ⟨w.heap.size,0,none⟩=false/\Upd (fun E=>E=w.heap.size) w1 wr)\/
   (U=.int .i64 1/\T=.int .i64 (sumC xs:Nat)/\Upd (fun E=>E=w.heap.size) w1 wr)) (fun _ U _=>(1-intOf U).toNat)
 case atStart=>obtain⟨j,D,hx,p,a,q,v,A,G⟩:=J.o;exact .inl ⟨rfl,rfl,q,v,uur _ _⟩
 case round=>
  obtain⟨V,rfl⟩:∃V:World,V=wr:=⟨_,rfl⟩
  rcases hrel with⟨rfl,rfl,q,v,a⟩|⟨rfl,rfl,a⟩
  .obtain ⟨j,D,hx,p,W,-,-,A,G⟩:=J.o;have X:Upd (fun E=>E=w.heap.size) w V:=(W.mono fE).trans a;have ab:=j.keep X (by have:=j.lt;omega);have ax:=X.j3 D oM;have ad:=X.range hx oM;have Y:=Y7 ab ad a p A q v;clear j D hx p W A G X ab ad a q v;have ap:((n:Int)==0)=false:=by rw[qYp];omega
   go_wp2
   clear ap;go_loopw[3,22] (fun T Z wr=>∃k:Nat,k<=n/\Z=.int .i64 k/\T=.int .i64 ((sumC (xs.take k):Nat):Int)/\wr.cell? ⟨w.heap.size,0,none⟩=some (.int .i64 ((sumC (xs.take k):Nat):Int))/\wr.frozen? ⟨w.heap.size,0,none⟩=false/\Upd (fun E=>E=w.heap.size) V wr) (fun _ Z _=>n-(intOf Z).toNat)
   case atStart=>exact⟨0,qXz _,rfl,rfl,Y.o.2.2.2.2.2.1,Y.o.2.2.2.2.2.2,uur _ _⟩
   case round=>
    obtain⟨k,ay,rfl,rfl,q,v,H⟩:=hrel;obtain⟨j,hx,a,p,A,-,-⟩:=Y.o;have ae:(bkC xs).length=n:=by rw[zm,p]
    by_cases hlt:k<n
    .have af:k<xs.length:=oM;have az:wr.cell? ⟨g,o+k,none⟩=some (.int .u8 ((xs[k].toNat:Nat):Int)):=
      H.j3 (hx k _ (by simp only[bkC,qyn,qyk af,Option.map_some];rfl)) oM
     have L:=j.keep H (by have:=(J.o.1).lt;omega);have aA:xs[k].toNat<256:=xs[k].toNat_lt;have aB:bits .and .i64 ((xs[k].toNat:Nat):Int) 15=((xs[k].toNat&&&15:Nat):Int):=uO xs[k].toNat 15 oM oM;have aq:xs[k].toNat&&&15<16:=Nat.and_lt_two_pow (n:=4) _ oM;have hsl:=Yf (xs.take k);have ag:Hid (sumC (xs.take (k+1))=stepC (stepC (sumC (xs.take k)) (xs[k].toNat&&&15)) (xs[k].toNat/16)):=by
      show _=_;rw[qXl af,Qe];rfl
     have M:=Y7 L H q v aq hsl p;clear j hx a p A q v H L ae;go_wp2_with fail
     generalize xs[k].toNat=N at*;refine(Xu (sumC (xs.take k)) (N&&&15) hsl oM M.o.1 M.o.2.2.1 M.o.2.2.2.1).mono ?_;rintro e w2 ⟨rfl,ah,ai,a6⟩;have L:=M.o.1.keep a6 (by have:=(J.o.1).lt;omega);have aj:stepC (sumC (xs.take k)) (N&&&15)<4294967296:=rk hsl;have Q:=Y5 L a6 ah ai aj;clear L a6 ah ai aj;go_wp2_with fail
     rw[show((N:Int)/16)=((N/16:Nat):Int)from rfl];refine(Xu _ (N/16) Q.o.2.2.2.2 oM Q.o.1 Q.o.2.2.1 Q.o.2.2.2.1).mono ?_;rintro e aC ⟨rfl,a7,ak,am⟩;rw[<-ag.out];rw[<-ag.out]at a7;have a8:=Y3 am a7 ak;clear am a7 ak;go_wp2
     go_roundw
     case rel=>exact⟨k+1,oM,by go_num,rfl,a8.o.2.1,a8.o.2.2,(M.o.2.1.trans Q.o.2.1).trans a8.o.1⟩
     case measure=>simp[intOf];omega
    .obtain rfl:k=n:=oM;have ar:Hid (xs.take k=xs):=by show _=_;rw[qXk oM]
     have an:=Y2 a H;clear a H j hx p q v ae;go_wp2
     go_roundw
     case rel=>exact .inr ⟨rfl,by rw[ar.o],an.o.1.trans an.o.2⟩
     case measure=>simp[intOf]
  .have aD:bits .xor .i64 ((sumC xs:Nat):Int) 4294967295=((crcC xs:Nat):Int):=wK (sumC xs) 4294967295 (by have:=Yf xs;omega) oM;go_wp2
   try rw[qxr]
   go_ret
   obtain⟨j,D,hx,p,W,-,-,A,G⟩:=J.o;exact⟨rfl,zj (Upd.below W) a (qXp _) (fun k e=>oM)⟩
def byV(n i:Nat):Value:=.int .u8 (((UInt8.ofNat (n/256^i)).toNat:Nat):Int)
theorem zbX(n k:Nat):Value.int .u8 ((n:Int)/2^(8*k)%256)=byV n k:=by
 unfold byV;have h1:(UInt8.ofNat (n/256^k)).toNat=n/256^k%256:=oe;have h2:(256:Nat)^k=2^(8*k):=by rw[Nat.pow_mul]
 rw[h1,h2,Int.natCast_emod,Int.natCast_ediv,Int.natCast_pow];rfl
theorem UF(n size:Nat)(_hn:n<72057594037927936)(J:size<=7)(fd:Nat)(j:Array Value)(L:∀p w,(callFunc fd p).run prog w=.ok (.enter fd p) w)
  (a:Nat->World->Prop) (q:a 0 w) (v:∀i,i<size->∀w,a i w->Calls prog fd (#[byV n i]++j) w fun e w'=>e=.returned (.tuple #[])/\a (i+1) w'):
  Calls prog 192 #[.int .i64 (n:Int),.int .i64 (size:Int),.func (.func fd) #[] j] w fun e w'=>e=.returned (.tuple #[])/\a size w':=by
 have A:=Y2 q v;clear q v;go_enter func192,ntmps192
 go_wp2
 go_step3
 go_wp2
 go_step3
 go_wp2
 go_loopw[6] (fun i wr=>∃k:Nat,k<=size/\i=.int .i64 k/\a k wr) (fun i _=>size-(intOf i).toNat)
 case atStart=>exact⟨0,qXz _,rfl,A.o.1⟩
 case round=>
  obtain⟨k,M,rfl,D⟩:=hrel;have E:=qqh D;clear D;by_cases hlt:k<size
  .have N:((k:Int)==(size:Int))=false:=by rw[qYp];omega
   go_wp2_with fail
   rw[zbX];refine(A.o.2 k hlt wr E.o).mono ?_;rintro e w2 ⟨rfl,G⟩;have H:=qqh G;clear G;go_wp2
   go_roundw
   case rel=>exact⟨k+1,oM,by go_num,H.o⟩
   case measure=>simp[intOf];omega
  .obtain rfl:k=size:=oM;go_wp2
   try rw[Exit.noGoto_normal]
   go_end0
   exact⟨rfl,E.o⟩
theorem Sc(n size left:Nat)(h1:1<=size)(h2:size<=7)(a:n<256^size)(p:size<=left)(_hl2:left<=60)(w:World):
  Calls prog 190 #[.int .i64 (n:Int),.int .i64 (size:Int),.int .i64 (left:Int)] w fun e w'=>e=.returned (.int .i64 0)/\w'=w:=by
 have j:Hid ((n:Int)/2^(8*size)=0):=by
  show _=_;have e:(256:Nat)^size=2^(8*size):=by rw[Nat.pow_mul]
  rw[e]at a;have:((n/2^(8*size):Nat):Int)=0:=by rw[Nat.div_eq_of_lt a];rfl
  rw[Int.natCast_ediv,Int.natCast_pow]at this;exact this
 have q:n<72057594037927936:=qXs a (Nat.pow_le_pow_right (n:=256) oM h2);clear a;have q1:decide ((size:Int)<1)=false:=by simp;omega
 have q2:decide ((7:Int)<(size:Int))=false:=by simp;omega
 have v:decide ((n:Int)<0)=false:=oe;have A:=j.out;go_enter func190,ntmps190
 go_wp2
 go_ret
 exact⟨rfl,rfl⟩
def padB(bs:List UInt8):Bk:=bs++List.replicate (64-bs.length) 0
theorem vl{bs:List UInt8}(h:bs.length<=64):(padB bs).length=64:=by simp[padB];omega
theorem Qh{bs:List UInt8}(h:bs.length<64)(b:UInt8):padB (bs++[b])=(padB bs).set bs.length b:=by
 unfold padB;have e:64-bs.length=(64-(bs++[b]).length)+1:=by simp;omega
 rw[e,List.replicate_succ,qXf _ _ (qXp _)];simp
theorem Zw(n i:Nat):lowB n (i+1)=lowB n i++[UInt8.ofNat (n/256^i)]:=by
 induction i generalizing n with
 |zero=>simp[lowB]
 |succ i a=>
  have h1:=a (n/256);show UInt8.ofNat n::lowB (n/256) (i+1)=(UInt8.ofNat n::lowB (n/256) i)++_;rw[h1,qxz,Nat.div_div_eq_div_mul,Nat.pow_succ,Nat.mul_comm]
theorem UG(x:Bk)(i:Nat)(b:UInt8):bkC (x.set i b)=(bkC x).set i (Go.Extern.Stop.cell b):=by simp[bkC,List.map_set]
def WrAt(w:World)(g:Nat)(bs:List UInt8):Prop:=
 bs.length<=60/\w.heap[g]?=some (.cells (bkC (padB bs)++[Value.int .i64 (bs.length:Int),Value.int .i64 0]).toArray 289 (0,0))
section
variable{w w':World}{g:Nat}{bs:List UInt8}
theorem WrAt.lt(h:WrAt w g bs):g<w.heap.size:=zd h.2
theorem WrAt.keep(a:WrAt w g bs)(hu:Upd S w w')(h:¬S g):WrAt w' g bs:=⟨a.1,(hu.block g a.lt h).trans a.2⟩
theorem WrAt.len(h:WrAt w g bs):(bkC (padB bs)).length=64:=by rw[zm,vl (by have:=h.1;omega)]
theorem WrAt.c64(h:WrAt w g bs):w.cell? ⟨g,64,none⟩=some (.int .i64 (bs.length:Int)):=by
 rw[za h.2,qyr,qyi oW,h.len];rfl
theorem WrAt.c65(h:WrAt w g bs):w.cell? ⟨g,65,none⟩=some (.int .i64 0):=by
 rw[za h.2,qyr,qyi oW,h.len];rfl
theorem WrAt.fz(h:WrAt w g bs)(i:Nat):w.frozen? ⟨g,i,none⟩=false:=zf h.2 i
theorem WrAt.range(h:WrAt w g bs):w.rangeAt g 0 (bkC (padB bs)):=fun p q a=>by
 have j:=(qym.1 a).1;rw[za h.2,qXy,qyr,qyh j];exact a
theorem WrAt.some(a:WrAt w g bs)(h:i<66):∃j,w.cell? ⟨g,i,none⟩=some j:=by
 rw[za a.2,qyr];exact⟨_,qyk (by rw[qyz,a.len];exact h)⟩
theorem WrAt.push(h:WrAt w g bs)(q:bs.length<60)(b:UInt8)(a:Upd (fun _=>False) (w.setCell ⟨g,bs.length,none⟩ (Go.Extern.Stop.cell b)) w'):
  WrAt (w'.setCell ⟨g,64,none⟩ (.int .i64 ((bs++[b]).length:Int))) g (bs++[b]):=by
 refine⟨by simp;omega,?_⟩;have h1:=zh h.2 bs.length (Go.Extern.Stop.cell b);have h2:=(a.block g (zd h1) id).trans h1;have j:=zh h2 64 (.int .i64 ((bs++[b]).length:Int));rw[j]
 congr 2
 rw[qXe,qXe,List.set_append_left _ _ oW,<-UG,<-Qh oM];have p:(bkC (padB (bs++[b]))).length=64:=by rw[zm,vl og]
 rw[qXf _ _ oM,p];rfl
end
theorem zey{a:Nat}{bs:List UInt8}(h:WrAt w g bs)(D:bs.length<60)(b:UInt8)(E:w.cell? ⟨a,0,none⟩=some (.pointer (some ⟨g,0,none⟩)))(G:¬g=a):
  Calls prog 191 #[.int .u8 ((b.toNat:Nat):Int),.pointer (some ⟨a,0,none⟩)] w fun e w'=>e=.returned (.tuple #[])/\WrAt w' g (bs++[b])/\Upd (fun j=>j=g) w w':=by
 have c64:=h.c64;obtain⟨v0,H⟩:=h.some (i:=bs.length) oM;have J:=h.fz bs.length;have L:=h.fz 64;have p:Upd (fun j=>j=g) w ((w.setCell ⟨g,bs.length,none⟩ (.int .u8 ((b.toNat:Nat):Int))).drew.setCell ⟨g,64,none⟩ (.int .i64 ((bs.length:Int)+1))):=((zi _ _ _ _).drew).trans (zi _ _ _ _);have q:WrAt ((w.setCell ⟨g,bs.length,none⟩ (.int .u8 ((b.toNat:Nat):Int))).drew.setCell ⟨g,64,none⟩ (.int .i64 ((bs.length:Int)+1))) g (bs++[b]):=by
  have:=h.push D b ((uur (fun _=>False) _).drew);rw[qyz]at this;exact this
 have v:=Y2 q p;have A:0<=(bs.length:Int)/\(bs.length:Int)<60:=⟨oM,oM⟩
 obtain⟨A,M⟩:=A;clear h q p;go_enter func191,ntmps191
 go_wp2
 go_region
 go_wp2
 go_end0
 exact⟨rfl,v.o.1,v.o.2⟩
theorem WrAt.set65{bs:List UInt8}(h:WrAt w g bs):WrAt (w.setCell ⟨g,65,none⟩ (.int .i64 0)) g bs:=by
 refine⟨h.1,?_⟩;rw[zh h.2 65 (.int .i64 0)]
 congr 2
 rw[qXe,qXf _ _ oW,h.len];rfl
theorem Zd{a:Nat}{v u:Value}(h:w.cell? ⟨g,o,none⟩=some v)(j:a≠o):(w.setCell ⟨b,a,none⟩ u).cell? ⟨g,o,none⟩=some v:=by
 rw[World.cell?_setCell_other _ _ _ _ (fun e=>j (congrArg Addr.off e)),h]
theorem zbY(w:World):Calls prog 122 #[] w fun e w'=>∃g,e=.returned (.pointer (some ⟨g,0,none⟩))/\WrAt w' g []/\w.heap.size<=g/\Below w.heap.size w w':=by
 go_enter func122,ntmps122
 go_wp2
 go_ret
 refine⟨w.heap.size,rfl,⟨oe,zc w _ rfl⟩,qXp _,(qxl _ w).alloc (qXp _) _⟩
theorem zez{bs:List UInt8}(h:WrAt w g bs)(n size:Nat)(h1:1<=size)(h2:size<=7)(G:n<256^size)(U:bs.length+size<=60):
  Calls prog 123 #[.pointer (some ⟨g,0,none⟩),.int .i64 (n:Int),.int .i64 (size:Int)] w fun e w'=>e=.returned (.pointer (some ⟨g,0,none⟩))/\WrAt w' g (bs++lowB n size)/\Upd (fun j=>j=g) w w':=by
 have a7:=qqf;have q:Upd (fun _=>False) w (w.alloc (.cells #[.pointer (some ⟨g,0,none⟩)] 201)):=(uur _ _).alloc _;have p:=h.keep q id;have J:(w.alloc (.cells #[.pointer (some ⟨g,0,none⟩)] 201)).cell? ⟨w.heap.size,0,none⟩=some (.pointer (some ⟨g,0,none⟩)):=za (zc w _ rfl) 0;have c64:=p.c64;have c65:=p.c65;have V:=p.fz 65;have a8:=h.lt;have L:¬g=w.heap.size:=oM;have M:w.heap.size≠g:=oM;have H:=Y6 p q G h2 U h1;have N:(60:Int)-bs.length=((60-bs.length:Nat):Int):=oM;have aa:IntKind.i64.wrap (60-(bs.length:Int))=((60-bs.length:Nat):Int):=by rw[N,qxu _ oM]
 clear p q G h h1 N;go_enter func123,ntmps123
 go_wp2
 generalize (w.alloc (.cells #[.pointer (some ⟨g,0,none⟩)] 201))=w1 at*;generalize w.heap.size=m at*
 go_region_held3 (fun a=>a.cell? ⟨m,0,none⟩=some (.pointer (some ⟨g,0,none⟩))/\a.cell? ⟨g,64,none⟩=some (.int .i64 (bs.length:Int)))
  ((go_split_ands;(simp only[qYi]at*);((repeat' constructor)<;>first|assumption|(refine zv ?_ ?_<;>assumption)|(refine Zd ?_ de;assumption))))
  (first|(go_at_call 190;refine(Sc n size (60-bs.length) H.o.2.2.2.2.2 H.o.2.2.2.1 H.o.2.2.1 jP oM _).mono ?_;rintro e w' ⟨rfl,rfl⟩))
 have v:WrAt (w1.setCell ⟨g,65,none⟩ (.int .i64 0)).drew g bs:=(H.o.1.set65).keep ((uur (fun _=>False) _).drew) id;have W:Hid (Upd (fun j=>j=g) w (w1.setCell ⟨g,65,none⟩ (.int .i64 0)).drew):=(H.o.2.1.mono fE).trans ((zi _ _ _ _).drew);have X:(w1.setCell ⟨g,65,none⟩ (.int .i64 0)).drew.cell? ⟨m,0,none⟩=some (.pointer (some ⟨g,0,none⟩)):=by
  rw[qYi];exact zv J L
 rename_i Y
 clear Y;generalize (w1.setCell ⟨g,65,none⟩ (.int .i64 0)).drew=w2 at*;have ab:=v.c65;have A:=Y2 v X;clear v J c64 c65 V;go_wp2_with fail
 refine(UF (w:=w2) n size (qXs H.o.2.2.1 (Nat.pow_le_pow_right (n:=256) oM h2)) h2 191 #[.pointer (some ⟨m,0,none⟩)] (fun _ _=>rfl)
  (fun i a=>WrAt a g (bs++lowB n i)/\Upd (fun j=>j=g) w2 a) ⟨by simpa[lowB]using A.o.1,uur _ _⟩ ?_).mono ?_
 .intro i ad a D;refine(zey D.1 (by rw[qyz,yi];omega) (UInt8.ofNat (n/256^i)) (D.2.j3 A.o.2 M) L).mono ?_;rintro e w' ⟨rfl,Z,a6⟩;refine⟨rfl,?_,D.2.trans a6⟩;rw[Zw,<-qxw];exact Z
 .rintro e ae ⟨rfl,Q,E⟩;have af:=E.j3 A.o.2 M;have T:=Y2 Q E;clear Q E;go_wp2
  go_ret
  exact⟨rfl,T.o.1,W.out.trans T.o.2⟩
theorem zeA{gb a:Nat}{x:Bk}(q:w.heap[gb]?=some (.cells (bkC x).toArray 60 (0,0)))(hx:x.length=64)(J:i<64)(b:UInt8)
  (j:w.heap[a]?=some (.cells #[.int .i64 (i:Int)] 3 (0,0))) (A:¬gb=a):
  Calls prog 267 #[.int .u8 ((b.toNat:Nat):Int),.pointer (some ⟨gb,0,none⟩),.pointer (some ⟨a,0,none⟩)] w fun e w'=>e=.returned (.tuple #[])/\
   w'.heap[gb]?=some (.cells (bkC (x.set i b)).toArray 60 (0,0))/\w'.heap[a]?=some (.cells #[.int .i64 ((i+1:Nat):Int)] 3 (0,0))/\Upd (fun p=>p=gb\/p=a) w w':=by
 have M:w.cell? ⟨a,0,none⟩=some (.int .i64 (i:Int)):=za j 0;have z0:=zf j 0;have D:∃L,w.cell? ⟨gb,i,none⟩=some L:=by
  rw[za q];exact⟨_,qxe (by rw[zo _ hx];exact J)⟩
 obtain⟨v0,D⟩:=D;have N:=zf q i;have E:Upd (fun p=>p=gb\/p=a) w ((w.setCell ⟨gb,i,none⟩ (.int .u8 ((b.toNat:Nat):Int))).setCell ⟨a,0,none⟩ (.int .i64 ((i:Int)+1))):=
  ((zi w gb i _).mono (fun _ _ h=> .inl h)).trans ((zi _ _ _ _).mono (fun _ _ h=> .inr h))
 have h1:=zh q i (.int .u8 ((b.toNat:Nat):Int));have h2:((w.setCell ⟨gb,i,none⟩ (.int .u8 ((b.toNat:Nat):Int))).setCell ⟨a,0,none⟩ (.int .i64 ((i:Int)+1))).heap[gb]?=some (.cells (bkC (x.set i b)).toArray 60 (0,0)):=by
  rw[(zi _ a 0 _).block gb (zd h1) A,h1,qXe,UG];rfl
 have G:((w.setCell ⟨gb,i,none⟩ (.int .u8 ((b.toNat:Nat):Int))).setCell ⟨a,0,none⟩ (.int .i64 ((i:Int)+1))).heap[a]?=some (.cells #[.int .i64 ((i+1:Nat):Int)] 3 (0,0)):=
  zh (((zi w gb i (.int .u8 ((b.toNat:Nat):Int))).block a (zd j) (fun e=>A e.symm)).trans j) 0 _
 have H:0<=(i:Int)/\(i:Int)<64:=⟨oM,oM⟩
 obtain⟨H,Q⟩:=H;have v:=Y3 h2 G E;clear E h1 h2 G q j;go_enter func267,ntmps267
 go_wp2
 go_end0
 exact⟨rfl,v.o.1,v.o.2.1,v.o.2.2⟩
def wg(b:Bk)(i:Nat):Bk:=b.take 60++lowB (crcC (b.take 60)) i++b.drop (60+i)
theorem Vk{b:Bk}(a:b.length=64)(h:i<=4):(wg b i).length=64:=by simp[wg,yi,a];omega
theorem Xw(b:Bk):wg b 0=b:=by simp[wg,lowB]
theorem Xx{b:Bk}(h:b.length=64):wg b 4=sealB b:=by
 unfold wg sealB;rw[List.drop_of_length_le oM,qxx]
theorem Vl{b:Bk}(h:b.length=64)(p:i<4):(wg b i).set (60+i) (UInt8.ofNat (crcC (b.take 60)/256^i))=wg b (i+1):=by
 unfold wg;have a:(b.take 60++lowB (crcC (b.take 60)) i).length=60+i:=by simp[yi,h]
 rw[qXf _ _ (by rw[a];exact qXp _),a,Nat.sub_self,Zw];have j:b.drop (60+i)=b[60+i]'oM::b.drop (60+(i+1)):=qya oM;rw[j,qXh];simp
theorem xK(w:World)(A B C D:Obj):let W:=(((w.alloc A).alloc B).alloc C).alloc D
  W.heap[w.heap.size]?=some A/\W.heap[w.heap.size+1]?=some B/\W.heap[w.heap.size+1+1]?=some C/\W.heap[w.heap.size+1+1+1]?=some D/\W.heap.size=w.heap.size+4/\Upd (fun _=>False) w W:=by
 refine⟨?_,?_,?_,zc _ _ oe,oe,((((uur _ w).alloc _).alloc _).alloc _).alloc _⟩
 .rw [qxk _ _ _ ke,qxk _ _ _ ke,qxk _ _ _ oe];exact zc w _ rfl
 .rw [qxk _ _ _ ke,qxk _ _ _ oe];exact zc _ _ oe
 .rw [qxk _ _ _ oe];exact zc _ _ oe
theorem rt(b:Bk)(U:b.length=64)(V:Nib w):
  Calls prog 193 #[.agg (bkC b).toArray] w fun e w'=>e=.returned (.agg (bkC (sealB b)).toArray)/\Below w.heap.size w w':=by
 have ao:=qqf;have ag:=qqh V;have j:=qqh U;clear V U;go_enter func193,ntmps193
 go_wp2_with fail
 show Calls _ _ _ ((((w.alloc (.cells (bkC b).toArray 60)).alloc (.cells (bkC zB).toArray 60)).alloc (.cells #[.int .i64 60] 3)).alloc (.cells #[.slice (some ⟨w.heap.size,0,none⟩) 60 64] 269)) _;obtain⟨D,J,L,W,ah,M⟩:=xK w (.cells (bkC b).toArray 60) (.cells (bkC zB).toArray 60) (.cells #[.int .i64 60] 3) (.cells #[.slice (some ⟨w.heap.size,0,none⟩) 60 64] 269);generalize (((w.alloc (.cells (bkC b).toArray 60)).alloc (.cells (bkC zB).toArray 60)).alloc (.cells #[.int .i64 60] 3)).alloc (.cells #[.slice (some ⟨w.heap.size,0,none⟩) 60 64] 269)=ai at*;have X:=zg D;have Y:ai.rangeAt w.heap.size 0 (bkC (b.take 60)):=fun p aj E=>by
  refine X p aj ?_;have hj:=(qym.1 E).1;rw[zm,qzg]at hj;simp only[bkC,qyn]at E⊢;rw[qyq,if_pos oM]at E;exact E
 refine(uQ (b.take 60) (ag.o.keep M id) (za W 0) Y (by rw[qzg,j.out];rfl) oM oM).mono ?_;rintro e Z ⟨rfl,q⟩;have a6:=qqb q;have a7:=(q.block _ (zd D)).trans D;have a8:=(q.block _ (zd J)).trans J;have aa:=(q.block _ (zd L)).trans L;have v:=Y4 a7 a8 aa (M.trans a6);clear D J L W ah M X Y q a6 a7 a8 aa;have Hs:=qqh (uP (b.take 60));obtain⟨m,ap⟩:∃m,Hid (m=w.heap.size):=⟨_,rfl⟩
 have aq:Hid (∀i,UInt8.ofNat (crcC (b.take 60)/256^i)=UInt8.ofNat (crcC (b.take 60)/256^i)):=fun _=>rfl;go_wp2_with fail
 refine(UF (w:=Z) (crcC (b.take 60)) 4 (by have:=Hs.out;omega) oM 267 #[.pointer (some ⟨w.heap.size,0,none⟩),.pointer (some ⟨w.heap.size+1+1,0,none⟩)] (fun _ _=>rfl)
  (fun i G=>G.heap[w.heap.size]?=some (.cells (bkC (wg b i)).toArray 60 (0,0))/\G.heap[w.heap.size+1+1]?=some (.cells #[.int .i64 ((60+i:Nat):Int)] 3 (0,0))/\Upd (fun p=>p=w.heap.size\/p=w.heap.size+1+1) Z G) ⟨by rw[Xw];exact v.o.1,v.o.2.2.1,uur _ _⟩ ?_).mono ?_
 .intro i ak G N;refine(zeA N.1 (Vk j.out oM) oM (UInt8.ofNat (crcC (b.take 60)/256^i)) N.2.1 oM).mono ?_;rintro e w' ⟨rfl,h1,h2,A⟩;rw[Vl j.out ak]at h1;exact⟨rfl,h1,h2,N.2.2.trans A⟩
 .rintro e H ⟨rfl,h1,h2,A⟩;rw[Xx j.out]at h1;have hsl:=vN j.out;have am:=zg h1;have Q:=(A.block (w.heap.size+1) (zd v.o.2.1) oM).trans v.o.2.1;have T:H.there (w.heap.size+1) 0 64:=fun p hj=>by
   rw[za Q,zf Q];exact⟨by rw[qXy,qxe oY];rfl,rfl⟩
  have ab:H.there (w.heap.size+1) 0 (bkC (sealB b)).toArray.size:=by rw[zo _ hsl];exact T
  have ad:H.there (w.heap.size+1) 0 (bkC (sealB b)).length:=by rw[zm,hsl];exact T
  have ae:(prog.info? 60).map (·.size)=some (bkC (sealB b)).toArray.size:=by rw[zo _ hsl];exact zM
  have a:=Y5 ab ae ad hsl A;clear ab ae ad hsl A h1 h2 Q T;generalize af:sealB b=sb at*;have an:=qqh af;clear af;go_wp2_with (first
   |(refine qYz rfl _ _ rfl _ _ rfl _ _ am underlying60 rfl (zu _ a.o.2.2.2.1) ?_)
   |(refine qZb rfl _ _ _ rfl _ _ (bkC sb).toArray rfl rfl a.o.1 a.o.2.1 (qYo (zx _)) ?_)
   |fail)
  exact qYq (zq rfl _ _ (w.heap.size+1) 0 (bkC sb) _ rfl (qYl _ _ _ _ a.o.2.2.1) underlying60 rfl (zu _ a.o.2.2.2.1)) rfl
   ⟨by rw[an.out],zj (zj (Upd.below v.o.2.2.2) a.o.2.2.2.2 (qXp _) (fun k e=>oM)) (zn H (w.heap.size+1) 0 _) (qXp _) (fun k e=>oM)⟩
theorem Aw(w:World):(sizeOf 5).run prog w=.ok 1 w:=by
 have a:(prog.info? 5).map (·.size)=some 1:=kR;obtain⟨i,j,p⟩:=qYc.1 a;simp[sizeOf,typeInfo,j,p]
theorem UH(x y:Bk)(hx:x.length=64)(hy:y.length=64)(w:World):(Op.equalIn 10000 60 (.agg (bkC x).toArray) (.agg (bkC y).toArray)).run prog w=.ok (x==y) w:=
 run_equalIn_bytes (P:=prog) w 9998 60 5 64 underlying60 underlying5 Aw x y hx hy
theorem Below.range{W a:World}(h:Below W.heap.size W a){cs:List Value}(j:W.rangeAt b o cs):a.rangeAt b o cs:=
 (uuo (S:=fun _=>False) h).range j id
theorem yy(h:Below w.drew.heap.size w.drew w'):Below w.heap.size w w':=⟨h.os,h.tape,h.output,h.size,h.block⟩
def sealedC(b:Bk):Int:=if sealB b=b then 0 else 13
theorem Zcg02{P:Prop}(h:P:=by
  clear v;go_enter func270,ntmps270
  go_wp2_with fail
  refine qZc (S:=fun M=>M.rangeAt w.heap.size 0 (bkC b)) kR oN (fun j=>?_)
  refine' qYy (i:=0) rfl kR kR kR (fun _ _ _ h=>h) (qZe oE _ _ rfl _ _ rfl _ _ (fun w h=>h) D rfl E) j _
  simp only[Act.put,qXe]
  refine' qYy (i:=2) rfl kR kR kR (fun _ _ _ h=>h) (qZe oE _ _ rfl _ _ rfl _ _ (fun w h=>h) D rfl E) j _
  simp only[Act.put];refine Wl.r 1 (fun K a=>?_);go_simp
  refine(rt b U.out T.o).mono ?_;rintro e w2 ⟨rfl,p⟩;refine a.o _ _ (Below.range p j) (fun A=>?_);clear a K;refine Wl.r 3 (fun K a=>?_);go_simp
  refine a.o _ _ A (fun _=>?_);clear a K;refine Wl.d ?_;have N:Hid (Below w.heap.size w w2):=(Upd.below G.o).trans ((yy p).mono G.o.size);clear j A p;go_wp2
  go_ret
  exact⟨by rw[J.out];rfl,N.o⟩):P:=h
theorem ru(b:Bk)(q:b.length=64)(Q:Nib w):
  Calls prog 270 #[.agg (bkC b).toArray] w fun e w'=>e=.returned (.int .i64 (sealedC b))/\Below w.heap.size w w':=by
 have H:Upd (fun _=>False) w (w.alloc (.cells (bkC b).toArray 60)):=(uur _ w).alloc _;have hr:=zg (zc w (.cells (bkC b).toArray 60) rfl);have D:=underlying60;have E:=zu b q;have W:(bkC b).length=64:=by rw[zm,q]
 have X:=UH (sealB b) b (vN q) q;have T:Hid (Nib (w.alloc (.cells (bkC b).toArray 60)).drew):=(Q.keep H id).keep ((uur (fun _=>False) _).drew) id;have G:=qqh H;have U:=qqh q;clear Q H q;by_cases v:sealB b=b
 .have J:Hid (sealedC b=0):=if_pos v;have L:(sealB b==b)=true:=by simpa using v
  have V:(!(sealB b==b))=false:=by rw[L];rfl
  exact Zcg02
 .have J:Hid (sealedC b=13):=if_neg v;have L:(sealB b==b)=false:=by simpa using v
  have V:(!(sealB b==b))=true:=by rw[L];rfl
  exact Zcg02
theorem zeB{bs:List UInt8}(h:WrAt w g bs)(H:Nib w):
  Calls prog 124 #[.pointer (some ⟨g,0,none⟩)] w fun e w'=>e=.returned (.tuple #[.agg (bkC (sealB (padB bs))).toArray,.int .i64 0])/\Below w.heap.size w w':=by
 have q:=Y2 h H;have V:=h.lt;clear h H;have a:Upd (fun _=>False) w (w.alloc (.cells (bkC zB).toArray 60)):=(uur _ w).alloc _;have p:=zc w (.cells (bkC zB).toArray 60) rfl;have h1:=q.o.1.keep a id;have c65:=q.o.1.c65;have Q:=q.o.1.range;have A:Hid ((padB bs).length=64):=vl (by have:=h1.1;omega);have T:=Y3 h1 a p;clear h1 a p;go_enter func124,ntmps124
 go_wp2_with (first
  |(refine qYz rfl _ _ rfl _ _ rfl _ _ (qYj Q _) underlying60 rfl (zu _ A.out) ?_)
  |fail)
 show Calls _ _ _ (w.alloc (.cells (bkC zB).toArray 60)) _;generalize (w.alloc (.cells (bkC zB).toArray 60))=w1 at*;obtain⟨h1,a,p⟩:=T.o;refine(rt (padB bs) A.out (q.o.2.keep a id)).mono ?_;rintro e v ⟨rfl,D⟩;have hsl:=vN A.out;have E:=(D.block w.heap.size (zd p)).trans p;have G:v.there w.heap.size 0 64:=fun W hj=>by
  rw[za E,zf E];exact⟨by rw[qXy,qxe oY];rfl,rfl⟩
 have J:v.there w.heap.size 0 (bkC (sealB (padB bs))).toArray.size:=by rw[zo _ hsl];exact G
 have L:v.there w.heap.size 0 (bkC (sealB (padB bs))).length:=by rw[zm,hsl];exact G
 have M:(prog.info? 60).map (·.size)=some (bkC (sealB (padB bs))).toArray.size:=by rw[zo _ hsl];exact zM
 have j:=Y6 J M L hsl D a;clear J M L hsl E G h1 a p D;generalize N:sealB (padB bs)=sb at*;have U:=qqh N;clear N;go_wp2_with (first
  |(refine qZb rfl _ _ _ rfl _ _ (bkC sb).toArray rfl rfl j.o.1 j.o.2.1 (qYo (zx _)) ?_)
  |fail)
 exact qYq (zp rfl _ _ w.heap.size 0 (bkC sb) _ rfl (qYl _ _ _ _ j.o.2.2.1) underlying60 rfl (zu _ j.o.2.2.2.1)) rfl
   ⟨by rw[U.out];rfl,zj ((Upd.below j.o.2.2.2.2.2).trans (j.o.2.2.2.2.1.mono j.o.2.2.2.2.2.size)) (zn v w.heap.size 0 _) (qXp _) (fun k e=>oM)⟩
def JrAt(w:World)(j:Nat)(d:Nat)(base n seq next:Int):Prop:=
 w.cell? ⟨j,0,none⟩=some (.pointer (some ⟨d,0,none⟩))/\w.cell? ⟨j,1,none⟩=some (.int .i64 base)/\w.cell? ⟨j,2,none⟩=some (.int .i64 n)/\
  w.cell? ⟨j,3,none⟩=some (.int .i64 seq)/\w.cell? ⟨j,4,none⟩=some (.int .i64 next)
theorem zeC(w:World)(j d:Nat)(base n seq next:Int)(a:JrAt w j d base n seq next):
  Calls prog 165 #[.pointer (some ⟨j,0,none⟩)] w fun e w'=>e=.returned (.int .i64 next)/\w=w':=by
 obtain⟨h,h1,h2,p,q⟩:=a;go_enter func165,ntmps165
 go_wp2
 go_ret
 exact⟨rfl,rfl⟩
theorem UI(h:Dv S w b F O P)(base n:Nat)(h1:1<=n)(h2:n<=1024)(a:base+n<=F.length)(j:F.length<=4096):
  Calls prog 200 #[.pointer (some ⟨b,0,none⟩),.int .i64 (base:Int),.int .i64 (n:Int)] w fun e w'=>e=.returned (.int .i64 0)/\w=w':=by
 have q1:decide ((base:Int)<0)=false:=oe;have q2:decide ((n:Int)<1)=false:=by simp;omega
 have p:decide ((n:Int)>1024)=false:=by simp;omega
 have q:decide (1024<(n:Int))=false:=by simp;omega
 have v:decide ((base:Int)>F.length-n)=false:=by simp;omega
 have A:decide ((F.length:Int)-n<(base:Int))=false:=by simp;omega
 go_enter func200,ntmps200
 go_wp2_with (first
  |(go_at_call 78;refine(qn h).mono ?_;rintro e w' ⟨rfl,rfl⟩)
  |fail)
 go_ret
 exact⟨rfl,rfl⟩
def yS(w:World)(g:Nat)(b:Bk)(at_:Nat):Prop:=
 b.length=64/\at_<=60/\w.heap[g]?=some (.cells (bkC b++[Value.int .i64 (at_:Int),Value.int .i64 0]).toArray 446 (0,0))
section
variable{w w':World}{g at_:Nat}{b:Bk}
theorem yS.lt(h:yS w g b at_):g<w.heap.size:=zd h.2.2
theorem yS.keep(a:yS w g b at_)(hu:Upd S w w')(h:¬S g):yS w' g b at_:=⟨a.1,a.2.1,(hu.block g a.lt h).trans a.2.2⟩
theorem yS.len(h:yS w g b at_):(bkC b).length=64:=by rw[zm,h.1]
theorem yS.c64(h:yS w g b at_):w.cell? ⟨g,64,none⟩=some (.int .i64 (at_:Int)):=by
 rw[za h.2.2,qyr,qyi oW,h.len];rfl
theorem yS.c65(h:yS w g b at_):w.cell? ⟨g,65,none⟩=some (.int .i64 0):=by
 rw[za h.2.2,qyr,qyi oW,h.len];rfl
theorem yS.fz(h:yS w g b at_)(i:Nat):w.frozen? ⟨g,i,none⟩=false:=zf h.2.2 i
theorem yS.byte(h:yS w g b at_)(a:i<b.length):w.cell? ⟨g,i,none⟩=some (.int .u8 ((b[i].toNat:Nat):Int)):=by
 rw[za h.2.2,qyr,qyh (by rw[zm];exact a)];simp only[bkC,qyn,qyk a,Option.map_some];rfl
theorem yS.set65(h:yS w g b at_):yS (w.setCell ⟨g,65,none⟩ (.int .i64 0)) g b at_:=by
 refine⟨h.1,h.2.1,?_⟩;rw[zh h.2.2 65 (.int .i64 0)]
 congr 2
 rw[qXe,qXf _ _ oW,h.len];rfl
theorem yS.set64(h:yS w g b at_)(a:n<=60):yS (w.setCell ⟨g,64,none⟩ (.int .i64 (n:Int))) g b n:=by
 refine⟨h.1,a,?_⟩;rw[zh h.2.2 64 (.int .i64 (n:Int))]
 congr 2
 rw[qXe,qXf _ _ oW,h.len];rfl
end
theorem Qi(l:List UInt8)(b:UInt8):numB (l++[b])=numB l|||(b.toNat<<<(8*l.length))/\numB (l++[b])=numB l+b.toNat*2^(8*l.length)/\numB l<2^(8*l.length):=by
 have hlt:∀l:List UInt8,numB l<2^(8*l.length):=by
  intro l
  induction l with
  |nil=>simp[numB]
  |cons a l h=>
   have p:=a.toNat_lt;simp only[numB,qza];rw[show 8*(l.length+1)=8*l.length+8 by omega,Nat.pow_add];omega
 have j:numB (l++[b])=numB l+b.toNat*2^(8*l.length):=by
  induction l with
  |nil=>simp[numB]
  |cons a l h=>
   simp only[qxz,numB,qza];rw[h,show 8*(l.length+1)=8+8*l.length by omega,Nat.pow_add];rw[show(2:Nat)^8=256 from rfl];rw[Nat.mul_add,qXm,Nat.mul_left_comm]
 refine⟨?_,j,hlt l⟩;rw[j,Nat.shiftLeft_eq,Nat.add_comm,Nat.mul_comm,Nat.two_pow_add_eq_or_of_lt (hlt l),Nat.or_comm]
theorem Vm(M:Nat)(h:M<4611686018427387904):wrap64 (M:Int)=M:=by unfold wrap64;omega
theorem zbZ(a c m:Nat)(v:a<281474976710656)(A:c<256)(j:2^m<=281474976710656):bits .or .i64 (a:Int) (wrap64 ((c:Int)*2^m))=((a|||c<<<m:Nat):Int):=by
 have h1:c*2^m<=255*281474976710656:=Nat.mul_le_mul oM j;have p:((c:Int)*2^m)=((c*2^m:Nat):Int):=by rw[Int.natCast_mul,Int.natCast_pow];rfl
 rw[p,<-Nat.shiftLeft_eq];rw[<-Nat.shiftLeft_eq]at h1;generalize c<<<m=q at*;rw[Vm q oM];exact Xr _ _ oM oM
theorem zbH{at_:Nat}{b:Bk}(h:yS w g b at_)(size:Nat)(h1:1<=size)(h2:size<=7)(Y:at_+size<=60):
  Calls prog 272 #[.pointer (some ⟨g,0,none⟩),.int .i64 (size:Int)] w fun e w'=>e=.returned (.int .i64 ((numB ((b.drop at_).take size):Nat):Int))/\yS w' g b (at_+size)/\Upd (fun j=>j=g) w w':=by
 have c64:=h.c64;have c65:=h.c65;have Z:=h.fz 65;have a6:=qqh h;have ah:=Y3 h1 h2 Y;have ai:=h.2.1;clear h;go_enter func272,ntmps272
 go_wp2_with fail
 rw[show(60:Int)-(at_:Int)=((60-at_:Nat):Int) by omega];refine(Sc 0 size (60-at_) h1 h2 (Nat.pow_pos oM) oM oM _).mono ?_;rintro e w' ⟨rfl,rfl⟩;go_wp2
 have L:=a6.o.set65;have M:Upd (fun j=>j=g) w' (w'.setCell ⟨g,65,none⟩ (.int .i64 0)):=zi _ _ _ _;generalize (w'.setCell ⟨g,65,none⟩ (.int .i64 0))=w1 at*;have N:=Y2 L M;clear L M c64 c65 Z;go_loopw[5,32] (fun a7 E wr=>∃k:Nat,k<=size/\E=.int .i64 k/\a7=.int .i64 ((numB ((b.drop at_).take k):Nat):Int)/\yS wr g b at_/\Upd (fun j=>j=g) w' wr) (fun _ E _=>size-(intOf E).toNat)
 case atStart=>exact⟨0,qXz _,rfl,by simp[numB],N.o.1,N.o.2⟩
 case round=>
  obtain⟨k,aj,rfl,rfl,a,A⟩:=hrel;have c64:=a.c64;by_cases hlt:k<size
  .have a8:b.length=64:=a.1;have aa:at_+k<b.length:=oM;have ak:=a.byte aa;have ab:IntKind.i64.wrap ((at_:Int)+(k:Int))=(at_:Int)+(k:Int):=qxu _ oM;have ad:((at_:Int)+(k:Int)).toNat=at_+k:=oM;have ae:IntKind.i64.wrap (8*(k:Int))=8*(k:Int):=qxu _ oM;have G:(0:Int)<=(at_:Int)+(k:Int)/\(at_:Int)+(k:Int)<64:=oM;obtain⟨G,af⟩:=G;have D:(b.drop at_).take (k+1)=(b.drop at_).take k++[b[at_+k]]:=by
    rw[qXl og];simp
   have Q:((b.drop at_).take k).length=k:=by simp;omega
   obtain⟨q,T,v⟩:=Qi ((b.drop at_).take k) b[at_+k];rw[Q]at q T v;have am:b[at_+k].toNat<256:=b[at_+k].toNat_lt;have p:=Y5 a A D q v;clear a A D Q q T v a8;generalize b[at_+k].toNat=ag at*;go_wp2
   go_quiet(fail)
   clear ab ad ae G af;have H:(2:Nat)^(8*k)<=281474976710656:=qXr (Nat.pow_le_pow_right de (show 8*k<=48 by omega)) de;have U:bits .or .i64 ((numB ((b.drop at_).take k):Nat):Int) (wrap64 ((ag:Int)*2^(8*k)))=((numB ((b.drop at_).take (k+1)):Nat):Int):=by
    obtain⟨-,-,D,q,v⟩:=p.o;rw[D,q];exact zbZ _ _ _ (qXs v H) oM H
   rw[U];have V:=p.o.1.keep ((uur (fun _=>False) wr).drewN nq) id;have W:Upd (fun j=>j=g) w' (wr.drewN nq):=p.o.2.1.drewN nq;have X:=Y2 V W;clear V W U H;generalize wr.drewN nq=an at*;go_wp2
   go_roundw
   case rel=>exact⟨k+1,oM,by go_num,rfl,X.o.1,X.o.2⟩
   case measure=>simp[intOf];omega
  .obtain rfl:k=size:=oM;have ao:=a.fz 64;have J:=a.set64 (n:=at_+k) oM;rw[show((at_+k:Nat):Int)=(at_:Int)+(k:Int)from rfl]at J;have p:=Y2 J A;clear a A J;go_wp2
   go_ret
   exact⟨rfl,p.o.1,p.o.2.trans (zi _ _ _ _)⟩
theorem UJ:Tryz.zeroCells446.size=66:=kR
theorem Xy:Tryz.zeroCells446[64]?=some (.int .i64 0)/\Tryz.zeroCells446[65]?=some (.int .i64 0):=by constructor<;>kernel_rfl
theorem Sd(x:Bk)(hx:x.length=64):List.foldl (fun(cs:Array Value) (x:Value×Nat)=>cs.setIfInBounds x.2 x.1) Tryz.zeroCells446 (bkC x).zipIdx=(bkC x++[Value.int .i64 0,Value.int .i64 0]).toArray:=by
 have j:(bkC x).length=64:=by rw[zm,hx]
 obtain⟨v,a⟩:=Go.Great.foldl_set 0 (bkC x) 0 Tryz.zeroCells446;simp only[qXy]at a;apply qxd
 intro k;have e:(bkC x++[Value.int .i64 0,Value.int .i64 0]).toArray[k]?=(bkC x++[Value.int .i64 0,Value.int .i64 0])[k]?:=qyr;rw[a k,UJ,e];by_cases A:k<64
 .rw [if_pos ⟨oM,oM,oM⟩,qyh oM];rfl
 .rw [if_neg oM,qyi oM,j];by_cases p:k=64
  .subst p;exact Xy.1
  .by_cases q:k=65
   .subst q;exact Xy.2
   .rw [qxf (by rw[UJ];omega),qyl og]
theorem zeD(b:Bk)(a:b.length=64):
  Calls prog 271 #[.agg (bkC b).toArray] w fun e w'=>∃g,e=.returned (.pointer (some ⟨g,0,none⟩))/\yS w' g b 0/\w.heap.size<=g/\Below w.heap.size w w':=by
 have p:=zg (zc w (.cells (bkC b).toArray 60) rfl);have j:=qqh a;have q:=Sd b a;have v:(bkC b).length=64:=by rw[zm,a]
 clear a;go_enter func271,ntmps271
 go_wp2_with (first
  |(refine qYz rfl _ _ rfl _ _ rfl _ _ p underlying60 rfl (zu _ j.out) ?_)
  |fail)
 go_ret
 exact⟨w.heap.size+1,rfl,⟨j.out,oM,zc _ _ oe⟩,oM,((qxl _ w).alloc (qXp _) _).alloc oe _⟩
def endB(b:Bk)(at_:Nat):Bool:=((b.drop at_).take (60-at_)).all (·==0)
def endC(b:Bk)(at_:Nat):Int:=if endB b at_=true then 0 else 12
theorem zgp{at_:Nat}{b:Bk}(h:yS w g b at_):
  Calls prog 273 #[.pointer (some ⟨g,0,none⟩)] w fun e w'=>e=.returned (.int .i64 (endC b at_))/\Below w.heap.size w w':=by
 have c64:=h.c64;have c65:=h.c65;have X:=h.2.1;have q:=qqh h.1;have L:=qqh h;clear h;have v:(0:Int)<=(at_:Int)/\(at_:Int)<=60:=oM;obtain⟨v,Y⟩:=v;have M:IntKind.i64.wrap (60-(at_:Int))=60-(at_:Int):=qxu _ oM;go_enter func273,ntmps273
 go_wp2
 go_quiet(fail)
 go_wp2
 have N:=L.o.keep ((uur (fun _=>False) w).drewN nq) id;have A:Hid (Below w.heap.size w (w.drewN nq)):=zP (qxl _ w) nq;clear c64 c65 M;generalize w.drewN nq=w1 at*
 go_loop [25] (fun j=>∃k:Nat,k<=60-at_/\j=.int .i64 k/\((b.drop at_).take k).all (·==0)=true) (fun j=>60-at_-(intOf j).toNat)
 case atStart=>exact⟨0,qXz _,rfl,oe⟩
 case round=>
  obtain⟨k,Z,rfl,D⟩:=hrel;have E:=qqh D;clear D;by_cases hlt:k<60-at_
  .have Q:at_+k<b.length:=by rw[q.out];omega
   have a6:=N.byte Q;have G:Hid ((b.drop at_).take (k+1)=(b.drop at_).take k++[b[at_+k]]):=by
    show _=_;rw[qXl (by simp;have:=q.out;omega)];simp
   have H:(0:Int)<=(k:Int)/\(k:Int)<((60-at_:Nat):Int):=oM;have a7:(k:Int)<((64-at_:Nat):Int):=oM;obtain⟨H,a8⟩:=H;by_cases a:b[at_+k]=0
   .have J:(((b[at_+k].toNat:Nat):Int)==0)=true:=by rw[a];rfl
    have T:(((b[at_+k].toNat:Nat):Int) !=0)=false:=by rw[a];rfl
    have U:=qqh a;clear a;generalize b[at_+k].toNat=V at*;go_wp2
    go_round
    case rel=>exact⟨k+1,oM,by go_num,by rw[G.out,List.all_append,E.o,U.o];rfl⟩
    case measure=>simp[intOf];omega
   .have J:(((b[at_+k].toNat:Nat):Int)==0)=false:=by
     rw[qYp];intro e;exact a (UInt8.toNat_inj.1 (by have:(0:UInt8).toNat=0:=rfl;omega))
    have T:(((b[at_+k].toNat:Nat):Int) !=0)=true:=by simp[bne,J]
    have p:Hid (endC b at_=12):=by
     show _=_;unfold endC;rw[if_neg];intro e;unfold endB at e;rw[qxv]at e;have W:b[at_+k]∈(b.drop at_).take (60-at_):=by
      have h1:b[at_+k]∈(b.drop at_).take (k+1):=by rw[G.out];simp
      exact(List.take_subset_take_left _ oM) h1
     exact a (by simpa using e _ W)
    clear a;generalize b[at_+k].toNat=V at*;go_wp2
    go_ret
    exact⟨by rw[p.out];rfl,A.o⟩
  .obtain rfl:k=60-at_:=oM;have p:Hid (endC b at_=0):=if_pos E.o;go_wp2
   go_ret
   exact⟨by rw[p.out];rfl,A.o⟩
end Go.Proofs.YtpejdgiccaijfaaGreatDoor
