/- A device in memory: New, Size, Open, has; the  -/
import Derived.Test.YtfhfbpmlnjdfoaaGreatDoorG01
import Derived.Great.BuildSlice
import Derived.Deep.DrawnRows
set_option maxRecDepth 100000
set_option maxHeartbeats 1000000
namespace Go.Proofs.YtfhfbpmlnjdfoaaGreatDoor
open Go Go.RowKit
def Rn(O:List (Nat×Bk)):List Value:=O.flatMap fun p=> .int .i64 (p.1:Int)::bkC p.2
structure DvGood(F:List Bk)(O:List (Nat×Bk))(P:List Int):Prop where
 f64:All64 F
 o64:∀p∈O,p.2.length=64/\p.1<F.length
 f1:1<=F.length
 fl:F.length<=4096
 ol:O.length<=65536
 pl:P.length<=65536
structure DvAt(w:World)(b:Nat)(vf vo vp:Value)(F:List Bk)(O:List (Nat×Bk))(P:List Int):Prop where
 str:w.heap[b]?=some (.cells #[vf,vo,vp] 123 (0,0))
 fs:Sl w 54 64 vf F.length (yN F)
 os:Sl w 131 65 vo O.length (Rn O)
 ps:Sl w 3 1 vp P.length (ints P)
 good:DvGood F O P
 fb:vf.ownBlock≠some b
 ob:vo.ownBlock≠some b
 pb:vp.ownBlock≠some b
 fo:Dis vf vo
 fp:Dis vf vp
 op:Dis vo vp
def Ao(b:Nat)(vf vo vp:Value):Nat->Prop:=fun j=>j=b\/vf.ownBlock=some j\/vo.ownBlock=some j\/vp.ownBlock=some j
section
variable{w w' w2:World}{b:Nat}{vf vo vp v2:Value}{F F':List Bk}{O O':List (Nat×Bk)}{P P':List Int}
theorem DvAt.keep(h:DvAt w b vf vo vp F O P){S:Nat->Prop}(hu:Upd S w w')(hs:∀j,Ao b vf vo vp j->¬S j):DvAt w' b vf vo vp F O P:=
 {h with
  str:=(hu.block _ (zd h.str) (hs b (.inl rfl))).trans h.str
  fs:=h.fs.keep hu (fun g hg=>hs g (.inr (.inl hg)))
  os:=h.os.keep hu (fun g hg=>hs g (.inr (.inr (.inl hg))))
  ps:=h.ps.keep hu (fun g hg=>hs g (.inr (.inr (.inr hg))))}
theorem DvAt.new(h:DvAt w b vf vo vp F O P)(hu:Upd (fun _=>False) w w'):DvAt w' b vf vo vp F O P:=h.keep hu (fun _ _ h=>h)
theorem DvAt.blt(h:DvAt w b vf vo vp F O P):b<w.heap.size:=zd h.str
theorem DvAt.slt(h:DvAt w b vf vo vp F O P):∀j,Ao b vf vo vp j->j<w.heap.size:=by
 rintro j (rfl|hj|hj|hj)
 .exact h.blt
 .exact h.fs.lt hj
 .exact h.os.lt hj
 .exact h.ps.lt hj
theorem DvAt.c(h:DvAt w b vf vo vp F O P):w.cell? ⟨b,0,none⟩=some vf/\w.cell? ⟨b,1,none⟩=some vo/\w.cell? ⟨b,2,none⟩=some vp:=by
 refine⟨?_,?_,?_⟩<;>rw[za h.str]<;>rfl
theorem DvAt.fz(h:DvAt w b vf vo vp F O P)(i:Nat):w.frozen? ⟨b,i,none⟩=false:=zf h.str i
end
def Dv(S:Nat->Prop)(w:World)(b:Nat)(F:List Bk)(O:List (Nat×Bk))(P:List Int):Prop:=
 ∃vf vo vp,DvAt w b vf vo vp F O P/\∀j,Ao b vf vo vp j->S j
section
variable{S:Nat->Prop}{w w':World}{b:Nat}{F:List Bk}{O:List (Nat×Bk)}{P:List Int}
theorem Dv.keep(h:Dv S w b F O P){T:Nat->Prop}(hu:Upd T w w')(hs:∀j,S j->¬T j):Dv S w' b F O P:=by
 obtain⟨vf,vo,vp,h,hS⟩:=h;exact⟨vf,vo,vp,h.keep hu (fun j hj=>hs j (hS j hj)),hS⟩
theorem Dv.new(h:Dv S w b F O P)(hu:Upd (fun _=>False) w w'):Dv S w' b F O P:=h.keep hu (fun _ _ h=>h)
theorem Dv.out(h:Dv S w b F O P){S':Nat->Prop}(hs:∀j,j<w.heap.size->S j->S' j):Dv S' w b F O P:=by
 obtain⟨vf,vo,vp,h,hS⟩:=h;exact⟨vf,vo,vp,h,fun j hj=>hs j (h.slt j hj) (hS j hj)⟩
theorem Dv.good(h:Dv S w b F O P):DvGood F O P:=by obtain⟨vf,vo,vp,h,-⟩:=h;exact h.good
end
def hasC(n:Nat)(s:Int):Int:=if s<0\/(n:Int)<=s then 10 else 0
theorem wW{S:Nat->Prop}{w:World}{b:Nat}{F:List Bk}{O:List (Nat×Bk)}{P:List Int}(h:Dv S w b F O P):
  Calls Tryz.prog 47 #[.pointer (some ⟨b,0,none⟩)] w fun e w'=>e=.returned (.int .i64 F.length)/\w'=w:=by
 obtain⟨vf,vo,vp,h,-⟩:=h;obtain⟨g0,-,-⟩:=h.c;obtain⟨ao,c,rfl⟩:=h.fs.rd.nil_iff;clear h;go_enter Tryz.func47,Tryz.ntmps47
 go_wp2
 go_ret
 exact⟨rfl,rfl⟩
theorem Ap{S:Nat->Prop}{w:World}{b:Nat}{F:List Bk}{O:List (Nat×Bk)}{P:List Int}(h:Dv S w b F O P)(s:Int):
  Calls Tryz.prog 62 #[.pointer (some ⟨b,0,none⟩),.int .i64 s] w fun e w'=>e=.returned (.int .i64 (hasC F.length s))/\w'=w:=by
 obtain⟨vf,vo,vp,h,-⟩:=h;obtain⟨g0,-,-⟩:=h.c;have hl:=h.good.fl;obtain⟨ao,c,rfl⟩:=h.fs.rd.nil_iff;clear h;by_cases h1:s<0
 .have e1:hasC F.length s=10:=if_pos (.inl h1);rw[e1];clear e1;go_enter Tryz.func62,Tryz.ntmps62
  go_wp2
  go_ret
  exact⟨rfl,rfl⟩
 .by_cases h2:(F.length:Int)<=s
  .have e1:hasC F.length s=10:=if_pos (.inr h2);rw[e1];clear e1;go_enter Tryz.func62,Tryz.ntmps62
   go_wp2
   go_ret
   exact⟨rfl,rfl⟩
  .have e1:hasC F.length s=0:=if_neg (fun h=>h.elim h1 h2);rw[e1];clear e1;go_enter Tryz.func62,Tryz.ntmps62
   go_wp2
   go_ret
   exact⟨rfl,rfl⟩
def zB:Bk:=List.replicate 64 0
theorem zw:zB.length=64:=by simp[zB]
theorem UD:(Tryz.prog.info? 54).map (fun i=>(i.zero,i.size,i.bytes))=some (some (bkV zB),64,64):=by kernel_rfl
theorem UE(n:Nat)(x:Bk)(hx:x.length=64)(j:Nat)(hj:j<n*64):(yN (List.replicate n x))[j]?=(bkC x)[j%64]?:=by
 have h64:All64 (List.replicate n x):=fun y hy=>by rw[(List.mem_replicate.1 hy).2];exact hx
 have hd:j/64<(List.replicate n x).length:=by rw[qzi];omega
 have:=vE h64 hd (j:=j%64) (qYa _ (by omega));rw[show j/64*64+j%64=j by omega]at this;rw[this];simp
theorem Wh(n:Nat)(h1:1<=n)(h2:n<=4096)(w:World):
  Calls Tryz.prog 15 #[.int .i64 n] w fun e w'=>∃b,e=.returned (.tuple #[.pointer (some ⟨b,0,none⟩),.int .i64 0])/\
   Dv (fun j=>w.heap.size<=j) w' b (List.replicate n zB) [] []/\w.heap.size<=b/\Below w.heap.size w w':=by
 obtain⟨i,hi,hz0,hz1,hz2⟩:=qZa UD;have hmk:=run_make (P:=Tryz.prog) w 41 54 i (bkV zB) Tryz.underlying41 hi hz0 .i64 .i64 n n (by omega) (Int.le_refl _) (by rw[hz2];omega) (by omega);rw[qxu,hz1]at hmk;have q1:¬((n:Int)<1):=by omega
 have q2:¬((4096:Int)<n):=by omega
 obtain⟨C,hC⟩:∃C:Array Value,C=madeCells (bkV zB).cells (n*64):=⟨_,rfl⟩
 rw[<-hC]at hmk;have HC:Hid (C.size=n*64/\∀(j:Nat) (u:Value),(yN (List.replicate n zB))[j]?=some u->C[j]?=some u):=by
  refine⟨by rw[hC,size_madeCells],fun j u hj=>?_⟩;have h64:All64 (List.replicate n zB):=fun y hy=>by rw[(List.mem_replicate.1 hy).2];exact zw
  have hj':=(qyp.1 hj).1;rw[vD h64,qzi]at hj';rw[UE n zB zw j hj']at hj;have hcs:(bkV zB).cells=(bkC zB).toArray:=rfl;have hsz:(bkC zB).length=64:=by rw[zo,zw]
  rw[hC];simp only[madeCells,Array.getElem?_map,Array.getElem?_range,hj',if_true,Option.map_some,hcs,qXm,hsz];rw[getElem!_def];simp only[qyv,hj]
 clear hC hz0 hz1 hz2 hi;go_enter Tryz.func15,Tryz.ntmps15
 go_wp2
 go_ret2
 have hz:(w.alloc (.cells C 54)).heap.size=w.heap.size+1:=by simp
 have h64:All64 (List.replicate n zB):=fun y hy=>by rw[(List.mem_replicate.1 hy).2];exact zw
 have hln:(List.replicate n zB).length=n:=qzi;refine⟨w.heap.size+1,rfl,⟨.slice (some ⟨w.heap.size,0,none⟩) n n,.slice none 0 0,.slice none 0 0,⟨zc _ _ hz.symm,?_,Sl.nil _ _ _,Sl.nil _ _ _,⟨h64,by simp,by omega,by omega,by simp,by simp⟩,by simp[Value.ownBlock],by simp[Value.ownBlock],by simp[Value.ownBlock],(Dis.nil _ _ _).symm,(Dis.nil _ _ _).symm,Dis.nil _ _ _⟩,?_⟩,by omega,(((qxl _ w).alloc (qXv _) _).alloc (by simp) _)⟩
 .rw [hln];refine Sl.keep (w:=w.alloc (.cells C 54)) ⟨by rw[vD h64,hln],.inr ⟨w.heap.size,0,n,C,rfl,zc w _ rfl,qXv _,by unfold maxLen;omega,by rw[HC.o.1];omega,fun j u hj=>by rw[qYe];exact HC.o.2 j u hj⟩⟩ (Upd.alloc (uur (fun _=>False) _) _) (fun _ _ h=>h)
 .rintro j (rfl|hj|hj|hj)
  .omega
  .simp [Value.ownBlock]at hj;omega
  .cases hj
  .cases hj
section
variable{w w' w2:World}{b:Nat}{vf vo vp v2:Value}{F F':List Bk}{O O':List (Nat×Bk)}{P P':List Int}
theorem Wi{w:World}{v v':Value}{x:Nat}(h:blockFrom w v v')(hv:v.ownBlock≠some x)(hx:x<w.heap.size):v'.ownBlock≠some x:=by
 intro e;rcases h with h|⟨g,h,hg⟩
 .exact hv (by rw[<-h,e])
 .rw [h]at e;cases e;omega
theorem DvAt.setPlan(h:DvAt w b vf vo vp F O P)(hu:Upd (ownS vp) w w2)(h2:Sl w2 3 1 v2 P'.length (ints P'))(hbf:blockFrom w vp v2)(hg:DvGood F O P'):DvAt (w2.setCell ⟨b,2,none⟩ v2) b vf vo v2 F O P':=
 have hne:=Wi hbf h.pb h.blt;have hstr:w2.heap[b]?=_:=(hu.block b h.blt (fun e=>h.pb e)).trans h.str
 {str:=zh hstr 2 v2
  fs:=(h.fs.keep_dis h.fp hu).keep_ne (zi _ _ _ _) h.fb
  os:=(h.os.keep_dis h.op hu).keep_ne (zi _ _ _ _) h.ob
  ps:=h2.keep_ne (zi _ _ _ _) hne
  good:=hg
  fb:=h.fb
  ob:=h.ob
  pb:=hne
  fo:=h.fo
  fp:=(h.fp.symm.from hbf (fun _g hg=>h.fs.lt hg)).symm
  op:=(h.op.symm.from hbf (fun _g hg=>h.os.lt hg)).symm}
theorem DvAt.setOpen(h:DvAt w b vf vo vp F O P)(hu:Upd (ownS vo) w w2)(h2:Sl w2 131 65 v2 O'.length (Rn O'))(hbf:blockFrom w vo v2)(hg:DvGood F O' P):DvAt (w2.setCell ⟨b,1,none⟩ v2) b vf v2 vp F O' P:=
 have hne:=Wi hbf h.ob h.blt;have hstr:w2.heap[b]?=_:=(hu.block b h.blt (fun e=>h.ob e)).trans h.str
 {str:=zh hstr 1 v2
  fs:=(h.fs.keep_dis h.fo hu).keep_ne (zi _ _ _ _) h.fb
  os:=h2.keep_ne (zi _ _ _ _) hne
  ps:=(h.ps.keep_dis h.op.symm hu).keep_ne (zi _ _ _ _) h.pb
  good:=hg
  fb:=h.fb
  ob:=hne
  pb:=h.pb
  fo:=(h.fo.symm.from hbf (fun _g hg=>h.fs.lt hg)).symm
  fp:=h.fp
  op:=h.op.from hbf (fun _g hg=>h.ps.lt hg)}
end
theorem DvGood.tail{F:List Bk}{O:List (Nat×Bk)}{P:List Int}(h:DvGood F O P):DvGood F O P.tail:={h with pl:=by rw[List.length_tail];have:=h.pl;omega}
def fate(P:List Int):Int:=P.headD 0
theorem Aq{S:Nat->Prop}{w:World}{b g:Nat}{F:List Bk}{O:List (Nat×Bk)}{P:List Int}(h:Dv S w b F O P)(hg:w.cell? ⟨g,0,none⟩=some (.pointer (some ⟨b,0,none⟩))):
  Calls Tryz.prog 121 #[.pointer (some ⟨g,0,none⟩)] w fun e w'=>e=.returned (.int .i64 (fate P))/\Dv S w' b F O P.tail/\Upd (fun j=>j=b) w w':=by
 obtain⟨vf,vo,vp,h,hS⟩:=h;have H:=Y2 h hS;obtain⟨-,-,g2⟩:=h.c;have f2:=h.fz 2;cases P with
 |nil=>
  obtain⟨ao,c,rfl⟩:=h.ps.rd.nil_iff;clear h hS;go_enter Tryz.func121,Tryz.ntmps121
  go_wp2
  go_ret
  exact⟨rfl,⟨vf,vo,_,H.o.1,H.o.2⟩,uur _ _⟩
 |cons p P=>
  obtain⟨gp,op,cp,cur,rfl,hgp,hzp,hcp⟩:=h.ps.at (by simp);have x0:=(za hgp op).trans (hcp 0 (.int .i64 p) rfl);have hpl:=h.good.pl;have ht:=Sl.tail (h.ps:Sl w 3 1 (.slice (some ⟨gp,op,none⟩) (P.length+1) cp) (P.length+1) (.int .i64 p::ints P));have HT:=qqh ht;have hgd:Hid (DvGood F O P):=h.good.tail;clear h hS hcp hzp ht;by_cases hc1:cp=1
  .have hDv:Hid (Dv S (w.setCell ⟨b,2,none⟩ (.slice (some ⟨gp,op,none⟩) P.length 0)).drew b F O P):=
    Dv.new ⟨vf,vo,_,H.o.1.setPlan (uur _ _) (HT.o.2.1 hc1) (.inl rfl) hgd.out,H.o.2⟩ ((uur _ _).drew)
   have hU:Hid (Upd (fun j=>j=b) w (w.setCell ⟨b,2,none⟩ (.slice (some ⟨gp,op,none⟩) P.length 0)).drew):=(zi _ _ _ _).drew;subst hc1;go_enter Tryz.func121,Tryz.ntmps121
   go_wp2
   go_region
   go_wp2
   go_ret
   exact⟨rfl,hDv.out,hU.out⟩
  .have hDv:Hid (Dv S (w.setCell ⟨b,2,none⟩ (.slice (some ⟨gp,op+1,none⟩) P.length (cp-1))).drew b F O P):=
    Dv.new ⟨vf,vo,_,H.o.1.setPlan (uur _ _) HT.o.1 (.inl rfl) hgd.out,H.o.2⟩ ((uur _ _).drew)
   have hU:Hid (Upd (fun j=>j=b) w (w.setCell ⟨b,2,none⟩ (.slice (some ⟨gp,op+1,none⟩) P.length (cp-1))).drew):=(zi _ _ _ _).drew;go_enter Tryz.func121,Tryz.ntmps121
   go_wp2
   go_region
   go_wp2
   go_ret
   exact⟨rfl,hDv.out,hU.out⟩
def UF(S:Nat->Prop)(w:World)(b:Nat)(F:List Bk)(O:List (Nat×Bk))(P:List Int)(failed:Int)(Q:World->Prop)(e:Ending)(w':World):Prop:=
 (fate P=1/\e=.returned (.int .i64 failed)/\Dv S w' b F O P.tail/\Upd (fun j=>j=b) w w')\/(fate P=0/\e=.returned (.int .i64 0)/\Q w')\/
  (fate P≠0/\fate P≠1/\e=.returned (.int .i64 0)/\Dv S w' b F O P.tail/\Upd (fun j=>j=b) w w')
theorem UG{S:Nat->Prop}{w:World}{b:Nat}{F:List Bk}{O:List (Nat×Bk)}{P:List Int}(h:Dv S w b F O P)(failed:Int)(fd:Nat)(caps:Array Value)(Q:World->Prop)
  (hent:∀args w,(callFunc fd args).run Tryz.prog w=.ok (.enter fd args) w)
  (hdo:fate P=0->∀w1,Dv S w1 b F O P.tail->Upd (fun j=>j=b) w w1->Calls Tryz.prog fd caps w1 fun e w'=>e=.returned (.tuple #[])/\Q w'):
  Calls Tryz.prog 63 #[.pointer (some ⟨b,0,none⟩),.int .i64 failed,.func (.func fd) #[] caps] w (UF S w b F O P failed Q):=by
 have hmf:=qqf;have hua:Upd (fun _=>False) w (w.alloc (.cells #[.pointer (some ⟨b,0,none⟩)] 46)):=(uur _ _).alloc _;have H1:=qqh (h.new hua);have HG:Hid ((w.alloc (.cells #[.pointer (some ⟨b,0,none⟩)] 46)).cell? ⟨w.heap.size,0,none⟩=some (.pointer (some ⟨b,0,none⟩))):=za (zc w _ rfl) 0;have HD:=qqh hdo;have HU:=qqh hua;clear h hdo hua;go_enter Tryz.func63,Tryz.ntmps63
 go_wp2_with fail
 refine(Aq H1.o HG.o).mono ?_;rintro e w1 ⟨rfl,hd1,hu1⟩;have D1:=Y2 hd1 ((HU.o.mono (fun _ _ h=>h.elim)).trans hu1);clear hd1 hu1;by_cases h1:fate P=1
 .have H1:=qqh h1;rw[h1];clear h1;go_wp2
  go_ret
  exact .inl ⟨H1.o,rfl,D1.out.1,D1.out.2⟩
 .by_cases h0:fate P=0
  .have H0:=qqh h0;rw[h0];clear h0 h1;go_wp2_with fail
   refine(HD.o H0.o w1 D1.out.1 D1.out.2).mono ?_;rintro e w2 ⟨rfl,hq⟩;have HQ:=qqh hq;clear hq;go_wp2
   go_ret
   exact .inr (.inl ⟨H0.o,rfl,HQ.o⟩)
  .have q1:(fate P==1)=false:=by simpa using h1
   have q0:(fate P==0)=false:=by simpa using h0
   have H0:=Y2 h0 h1;clear h0 h1;go_wp2
   go_ret
   exact .inr (.inr ⟨H0.o.1,H0.o.2,rfl,D1.out.1,D1.out.2⟩)
abbrev wrC(s:Int)(x:Bk):List Value:=.int .i64 s::bkC x
theorem wrC_len(s:Int)(x:Bk):(wrC s x).length=x.length+1:=by simp[wrC,zo]
theorem vF(s:Int)(x:Bk):∀v∈wrC s x,v.oneCell'=true:=by
 intro v hv;rcases qzr.1 hv with rfl|h
 .rfl
 .exact zv x v h
theorem yO(off:Nat)(cs z:Array Value):(Array.foldl (fun(cs:Array Value) (x:Value×Nat)=>cs.setIfInBounds (off+x.2) x.1) z cs.zipIdx).size=z.size/\
  ∀k,(Array.foldl (fun(cs:Array Value) (x:Value×Nat)=>cs.setIfInBounds (off+x.2) x.1) z cs.zipIdx)[k]?=if off<=k/\k<off+cs.size/\k<z.size then cs[k-off]? else z[k]?:=by
 rw[<-Array.foldl_toList,Array.toList_zipIdx];obtain⟨h1,h2⟩:=Go.Great.foldl_set off cs.toList 0 z;exact⟨h1,fun k=>by rw[h2 k];simp⟩
theorem xk(pl:Nat->Option (Nat×Nat))(z:Array Value)(i off size:Nat)(v:Value)(rest:List (Nat×Value))(hp:pl i=some (off,size))(hv:v.cells.size=size)(hz:off+size<=z.size):
  Instr.fill pl z ((i,v)::rest)=Instr.fill pl (Array.foldl (fun(cs:Array Value) (x:Value×Nat)=>cs.setIfInBounds (off+x.2) x.1) z v.cells.zipIdx) rest:=by
 show(match pl i with|none=>none|some (off,size)=>_)=_
 rw[hp];show(if(decide (v.cells.size≠size)||decide (off+v.cells.size>z.size))=true then none else _)=_;rw[if_neg (by simp[hv];omega)]
theorem ZE(p q:Value)(hp:p.cells.size=1)(hq:q.cells.size=64)(z:Array Value)(hz:z.size=65)(pl:Nat->Option (Nat×Nat))(h0:pl 0=some (0,1))(h1:pl 1=some (1,64)):
  Instr.fill pl z [(0,p),(1,q)]=some (p.cells.toList++q.cells.toList).toArray:=by
 obtain⟨a1,a2⟩:=yO 0 p.cells z;obtain⟨b1,b2⟩:=yO 1 q.cells (Array.foldl (fun(cs:Array Value) (x:Value×Nat)=>cs.setIfInBounds (0+x.2) x.1) z p.cells.zipIdx);rw[xk pl z 0 0 1 p _ h0 hp (by omega),xk pl _ 1 1 64 q _ h1 hq (by rw[a1];omega)];show some _=_
 congr 1
 apply qxd
 intro k;rw[b2 k,a1,hz,hq];by_cases hk:k<65
 .by_cases hk0:k=0
  .subst hk0;rw[if_neg (by omega),a2 0,if_pos ⟨by omega,by omega,by omega⟩];rw[show((p.cells.toList++q.cells.toList).toArray)[0]?=(p.cells.toList++q.cells.toList)[0]? by rw[qyv],qyi (by simp;omega)];simp
  .rw [if_pos ⟨by omega,by omega,hk⟩,show((p.cells.toList++q.cells.toList).toArray)[k]?=(p.cells.toList++q.cells.toList)[k]? by rw[qyv],qyj (by simp;omega)];simp[hp]
 .rw [if_neg (by omega),a2 k,if_neg (by omega),qxf (by omega),qxf (by simp;omega)]
theorem Jv:(Tryz.prog.info? 131).map (fun i=>(i.zero.map (·.cells.size),i.size,i.bytes))=some (some 65,65,72):=by kernel_rfl
theorem UH:(match Tryz.prog.underlying 131 with|some (.struct fs)=>fs.toList.mapM (fun f=>(Tryz.prog.info? f.type).map fun i=>(f.offset,i.size))|_=>none)=some [(0,1),(1,64)]:=by kernel_rfl
theorem xh:∃i z,Tryz.prog.info? 131=some i/\i.zero=some z/\z.cells.size=65/\i.size=65/\i.bytes=72:=by
 obtain⟨i,hi,h⟩:=qYi.1 Jv;simp only[qYk]at h;obtain⟨h1,h2,h3⟩:=h;obtain⟨z,hz,hs⟩:=qYi.1 h1;exact⟨i,z,hi,hz,hs,h2,h3⟩
theorem vG(p q:Value)(hp:p.cells.size=1)(hq:q.cells.size=64)(w:World):(Instr.build 131 #[(0,p),(1,q)]).run Tryz.prog w=.ok (.agg (p.cells.toList++q.cells.toList).toArray) w:=by
 refine run_build w _ _ _ ?_;obtain⟨i,z,hi,hz,hs,_,_⟩:=xh;have hpl:=UH;have hu:=Tryz.underlying131;unfold Program.built;rw[hu]at hpl;rw[hi,hu];simp only[hz];simp only at hpl;rw[hpl];exact ZE p q hp hq z.cells hs _ rfl rfl
theorem tM(v:Value)(hv:v.cells.size=65)(w:World):(Instr.buildSlice 121 1 #[(0,v)]).run Tryz.prog w=.ok (.slice (some ⟨w.heap.size,0,none⟩) 1 1) (w.alloc (.cells v.cells 131)):=by
 obtain⟨i,z,hi,hz,hs,hsz,_⟩:=xh;refine run_buildSlice w _ _ 1 _ _ i z Tryz.underlying121 hi hz (by rw[hsz];decide) (by rw[hsz];decide) ?_;obtain⟨a1,a2⟩:=yO 0 v.cells ((Array.range (1*i.size)).map (z.cells[·%z.cells.size]!));rw[show(#[(0,v)]:Array (Nat×Value)).toList=[(0,v)]from rfl];rw[xk _ _ 0 0 65 v _ (by simp[hsz]) hv (by simp[hsz])];show some _=_
 congr 1
 apply qxd
 intro k;rw[a2 k];by_cases hk:k<65
 .rw [if_pos ⟨by omega,by omega,by simp[hsz];omega⟩];rfl
 .rw [if_neg (by omega),qxf (by simp[hsz];omega),qxf (by omega)]
theorem ZF(dst:Option Tmp)(ty:TypeId)(pos:String)(after:Array Edge)(p q:Operand)(a:Act)(w:World)(K:Act->World->Prop)(Q:Exit->Act->World->Prop)(hp:(a.eval p).cells.size=1)(hq:(a.eval q).cells.size=64):
  Oper.wp Tryz.prog {dst:=dst,op:=.build 131 #[(0,p),(1,q)],type:=ty,pos:=pos,after:=after,guard:=none} a w K Q=K (a.put dst (.agg ((a.eval p).cells.toList++(a.eval q).cells.toList).toArray)) w:=by
 unfold Oper.wp execOp;have:=vG (a.eval p) (a.eval q) hp hq w;simp only[qzp,qzm,qzo,qYm,this,qYl];rfl
theorem Vf(dst:Option Tmp)(ty:TypeId)(pos:String)(after:Array Edge)(p:Operand)(a:Act)(w:World)(K:Act->World->Prop)(Q:Exit->Act->World->Prop)(hp:(a.eval p).cells.size=65):
  Oper.wp Tryz.prog {dst:=dst,op:=.buildSlice 121 1 #[(0,p)],type:=ty,pos:=pos,after:=after,guard:=none} a w K Q=K (a.put dst (.slice (some ⟨w.heap.size,0,none⟩) 1 1)) (w.alloc (.cells (a.eval p).cells 131)):=by
 unfold Oper.wp execOp;have:=tM (a.eval p) hp w;simp only[qzp,qzm,qzo,qYm,this,qYl];rfl
theorem qV(a:Act)(p q:Operand)(w:World)(hp:(a.eval p).cells.size=1)(hq:(a.eval q).cells.size=64):
  (Instr.build 131 ((#[(0,p),(1,q)]:Array (Nat×Operand)).map fun(i,x)=>(i,a.eval x))).run Tryz.prog w=.ok (.agg ((a.eval p).cells.toList++(a.eval q).cells.toList).toArray) w:=by
 have:=vG (a.eval p) (a.eval q) hp hq w;simp only[qzp,qzm,qzo];exact this
theorem ZG(a:Act)(p:Operand)(w:World)(hp:(a.eval p).cells.size=65):
  (Instr.buildSlice 121 1 ((#[(0,p)]:Array (Nat×Operand)).map fun(i,x)=>(i,a.eval x))).run Tryz.prog w=.ok (.slice (some ⟨w.heap.size,0,none⟩) 1 1) (w.alloc (.cells (a.eval p).cells 131)):=by
 have:=tM (a.eval p) hp w;simp only[qzp,qzm,qzo];exact this
theorem sA:Tryz.zeroCells131.size=65:=by kernel_rfl
theorem UI(s:Int)(x:Bk)(hx:x.length=64):List.foldl (fun(cs:Array Value) (x:Value×Nat)=>cs.setIfInBounds (1+x.2) x.1) (Tryz.zeroCells131.setIfInBounds 0 (.int .i64 s)) (bkC x).zipIdx=(wrC s x).toArray:=by
 have hb:(bkC x).length=64:=by rw[zo,hx]
 have hz1:(Tryz.zeroCells131.setIfInBounds 0 (.int .i64 s)).size=65:=by rw[Array.size_setIfInBounds,sA]
 obtain⟨_,f2⟩:=Go.Great.foldl_set 1 (bkC x) 0 (Tryz.zeroCells131.setIfInBounds 0 (.int .i64 s));apply qxd
 intro k;rw[f2 k,hz1];by_cases hk:k<65
 .by_cases hk0:k=0
  .subst hk0;rw[if_neg (by omega),Array.getElem?_setIfInBounds_self_of_lt (by rw[sA];omega)];simp
  .rw [if_pos ⟨by omega,by omega,hk⟩];obtain⟨m,rfl⟩:∃m,k=m+1:=⟨k-1,by omega⟩
   simp
 .rw [if_neg (by omega),qxf (by omega),qxf (by simp[hb];omega)]
theorem yj{P:Program}{w:World}{e:TypeId}{k n m:Nat}{v x':Value}{xs news:List Value}(t ty:TypeId)
  (i:TypeInfo) (z:Value) (bytes:Nat) (ht:P.underlying t=some (.slice e)) (hi:P.info? e=some i) (hz:i.zero=some z)
  (hsize:i.size=k) (hby:i.bytes=bytes) (hzs:z.cells.size=k) (hsz:0<k)
  (hown:Sl w e k v n xs) (hr:Rd w k x' m news) (h1:∀u∈news,u.oneCell'=true) (h63:n+m<=maxLen) (hbytes:(n+m)*bytes<=140737488355328):
  ∃v' w',(Builtin.append_ #[t,t] ty #[v,x']).run P w=.ok v' w'/\Sl w' e k v' (n+m) (xs++news)/\Upd (ownS v) w w'/\blockFrom w v v':=by
 obtain⟨hnl,hml,ao,xc,rfl,hx0,hxc⟩:=hr;cases ao with
 |none=>
  have hm0:=hx0 rfl;subst hm0;obtain rfl:news=[]:=qyd (by simpa using hnl);refine⟨v,w,?_,by simpa using hown,uur _ _,.inl rfl⟩;obtain⟨_,⟨rfl,rfl⟩|⟨g,off,cap,cur,rfl,hg,hnc,hcm,hcs,hcell⟩⟩:=hown
  .simp [Builtin.append_,run_underlying ht,sizeOf,typeInfo,hi,Builtin.lenOf,Builtin.firstCells]
  .simp [Builtin.append_,run_underlying ht,sizeOf,typeInfo,hi,Builtin.lenOf,Builtin.firstCells,hnc,storeCells]
 |some ad=>
  have hac':=hxc ad rfl;have hown':=hown;obtain⟨hl,⟨rfl,rfl⟩|⟨g,off,cap,cur,rfl,hg,hnc,hcm,hcs,hcell⟩⟩:=hown
  .obtain rfl:xs=[]:=qyd (by simpa using hl);cases m with
   |zero=>
    obtain rfl:news=[]:=qyd (by simpa using hnl);refine⟨.slice none 0 0,w,?_,by simpa using hown',uur _ _,.inl rfl⟩;simp[Builtin.append_,run_underlying ht,sizeOf,typeInfo,hi,Builtin.lenOf,Builtin.firstCells,loadCells,loadCellsFrom]
   |succ m=>
    obtain⟨v',w',hrun,r1,r2,_⟩:=run_append_own (P:=P) w w.heap.size t ty e i z k bytes ht hi hz hsize hby hzs hsz (.slice none 0 0) 0 [] (World.ownsRow_nil w _ e k) ad (m+1) xc news hnl hac' h1 h63 hbytes (qXv _);refine⟨v',w',hrun,Sl.of_own r1,Upd.of_grown r2 (fun g hg _=>by cases hg),?_⟩;rcases r1.2 with⟨rfl,h0⟩|⟨g',cap',cur',rfl,hb',_⟩
    .omega
    .exact .inr ⟨g',rfl,hb'⟩
  .by_cases hroom:n+m<=cap
   .have hm:=qYb k hroom;rw[Nat.add_mul]at hm;subst hsize;have hrun:=run_append_room_cells (P:=P) w t ty e i ht hi g off n cap ad m xc news hnl hac' h1 hroom (fun j hj=>by rw[za hg];simp;omega) (fun j _=>zf hg _);obtain⟨cur',h2,h3,h4⟩:=zG news (off+n*i.size) w g cur e (0,0) hg;refine⟨_,_,hrun,⟨by rw[qzd,hl,hnl,Nat.add_mul],.inr ⟨g,off,cap,cur',rfl,h2,hroom,hcm,by omega,fun j u hj=>?_⟩⟩,yv _ w g _ news rfl,.inl rfl⟩;rw[h4];by_cases hj1:j<xs.length
    .rw [qyi hj1]at hj;rw[if_neg (by omega)];exact hcell j u hj
    .rw [qyj (by omega)]at hj;have hlt:=(qyp.1 hj).1;rw[if_pos ⟨by omega,by omega,by omega⟩];have:off+j-(off+n*i.size)=j-xs.length:=by omega
     rw[this];exact hj
   .obtain ⟨v',w',hrun,r1,r2⟩:=run_append_arg_grows (P:=P) w t ty e i z k bytes ht hi hz hsize hby hzs hsz ⟨g,off,none⟩ n cap xs hl (fun j u hj=>by rw[qxa,za hg];exact hcell j u hj) ad m xc news hnl hac' (by omega) h63 hbytes;refine⟨v',w',hrun,Sl.of_own r1,Upd.of_grown r2 (fun g hg _=>by cases hg),?_⟩;rcases r1.2 with⟨rfl,h0⟩|⟨g',cap',cur',rfl,hb',_⟩
    .omega
    .exact .inr ⟨g',rfl,hb'⟩
attribute [local go_sem↓] ZF Vf qV ZG Go.wp_at_zero Go.wp_at_succ
theorem ZH(O:List (Nat×Bk))(s:Nat)(x:Bk):Rn (O++[(s,x)])=Rn O++wrC s x:=by simp[Rn,wrC]
theorem zt(x:Bk)(hx:x.length=64):(Tryz.prog.info? 54).map (·.size)=some (bkC x).length:=by
 obtain⟨i,hi,_,h1,_⟩:=qZa UD;rw[hi,zo,hx,Option.map_some,h1]
theorem DvGood.write{F:List Bk}{O:List (Nat×Bk)}{P:List Int}(h:DvGood F O P){s:Nat}{x:Bk}(hs:s<F.length)(hx:x.length=64)(ho:O.length<65536):DvGood F (O++[(s,x)]) P:={h with
 o64:=by intro p hp;rcases qzq.1 hp with h1|h1;exact h.o64 p h1;simp at h1;subst h1;exact⟨hx,hs⟩
 ol:=by simp;omega}
theorem zm{w:World}{a:Addr}{v:Value}(h:w.cell? a=some v)(o:Obj):(w.alloc o).cell? a=some v:=by
 rw[World.cell?_alloc_some w a o (by rw[h];rfl),h]
theorem Upd.cellv{S:Nat->Prop}{w w':World}(hu:Upd S w w'){g o:Nat}{v:Value}(h:w.cell? ⟨g,o,none⟩=some v)(hn:¬S g):w'.cell? ⟨g,o,none⟩=some v:=by
 have e:=hu.block g (qYn w _ h) hn;unfold World.cell? at*;simp only[e];exact h
theorem Upd.range{S:Nat->Prop}{w w':World}(hu:Upd S w w'){g o:Nat}{cs:List Value}(h:w.rangeAt g o cs)(hn:¬S g):w'.rangeAt g o cs:=fun j v hv=>hu.cellv (h j v hv) hn
theorem zq{w:World}{g o b o':Nat}{v u:Value}(h:w.cell? ⟨g,o,none⟩=some v)(hne:¬b=g):(w.setCell ⟨b,o',none⟩ u).cell? ⟨g,o,none⟩=some v:=by
 rw[World.cell?_setCell_other _ _ _ _ (fun e=>hne (congrArg Addr.block e)),h]
theorem zE{w:World}{g o b o':Nat}{cs:List Value}{u:Value}(h:w.rangeAt g o cs)(hne:¬b=g):(w.setCell ⟨b,o',none⟩ u).rangeAt g o cs:=fun j v hv=>zq (h j v hv) hne
theorem zJ{P:Program}{ops:Array Oper}{o:Oper}{a:Act}{w:World}{K:Act->World->Prop}{Q:Exit->Act->World->Prop}{E:Prop}
  (hg:o.guard=none) (s x:Operand) (t:TypeId) (hop:o.op=Op.call {callee:=Callee.builtin Builtin.append,args:= #[s,x],argTypes:= #[t,t]})
  {vs vx v':Value} {w':World} (hs:a.eval s=vs) (hx:a.eval x=vx) (hrun:(Builtin.append_ #[t,t] o.type #[vs,vx]).run P w=.ok v' w')
  (hK:K (a.put o.dst v') w'):
  if Region.wanted o (yielded ops a.tmps)=true then Oper.wp P o a w K Q else E:=by
 have hw:Region.wanted o (yielded ops a.tmps)=true:=by simp[Region.wanted,hg]
 rw[if_pos hw];unfold Oper.wp;simp[execOp,hop,resolve,invoke,builtin,hs,hx,hrun,Result.andThen];exact hK
theorem Rq{S:Nat->Prop}{w:World}{b g0 g1 g2:Nat}{F:List Bk}{O:List (Nat×Bk)}{P:List Int}(h:Dv S w b F O P)(hn:∀j,w.heap.size<=j->S j)(s:Nat)(x:Bk)(hs:s<F.length)(hx:x.length=64)(hO:O.length<65536)
  (c0:w.cell? ⟨g0,0,none⟩=some (.pointer (some ⟨b,0,none⟩))) (c1:w.cell? ⟨g1,0,none⟩=some (.int .i64 (s:Int))) (c2:w.rangeAt g2 0 (bkC x))
  (s0:¬S g0) (s1:¬S g1) (s2:¬S g2):
  Calls Tryz.prog 64 #[.pointer (some ⟨g0,0,none⟩),.pointer (some ⟨g1,0,none⟩),.pointer (some ⟨g2,0,none⟩)] w fun e w'=>e=.returned (.tuple #[])/\Dv S w' b F (O++[(s,x)]) P/\Upd S w w':=by
 obtain⟨vf,vo,vp,h,hS⟩:=h;obtain⟨i,z,hi,hz,hzs,hsz,hby⟩:=xh;have hu:Upd (fun _=>False) w (w.alloc (.cells (wrC s x).toArray 131)).drew:=((uur _ _).alloc _).drew;have hd:=h.new hu;have hrd:Rd (w.alloc (.cells (wrC s x).toArray 131)).drew 65 (.slice (some ⟨w.heap.size,0,none⟩) 1 1) 1 (wrC s x):=
  Rd.keep (Rd.fresh w (wrC s x) 131 1 (by rw[wrC_len,hx]) (by unfold maxLen;omega)) ((uur (fun _=>False) _).drew) (fun _ _ h=>h)
 obtain⟨v',w1,hrun,hs1,hu1,hbf⟩:=yj 121 121 i z 72 Tryz.underlying121 hi hz hsz hby hzs (by decide) hd.os hrd (vF s x) (by unfold maxLen;omega) (by omega);rw[<-ZH]at hs1;have hln:O.length+1=(O++[(s,x)]).length:=by simp
 rw[hln]at hs1;obtain⟨ao1,c1',rfl⟩:=hs1.rd.nil_iff;have hD:=qqh (hd.setOpen hu1 hs1 hbf (hd.good.write hs hx hO));have hstr1:=(hu1.block b hd.blt (fun e=>hd.ob e)).trans hd.str;have k1:=za hstr1 1;have k2:=zf hstr1 1;simp at k1;obtain⟨-,d1,-⟩:=h.c;have hbl:=UI (s:Int) x hx;have hut:=Tryz.underlying54;have hsi:=zt x hx;have hlx:(bkC x).length=64:=by rw[zo,hx]
 have h1x:=zv x;have hS1:∀g,¬S g->¬ownS vo g:=fun g hg e=>hg (hS g (.inr (.inr (.inl e))));have q0:=hu1.cellv (zm c0 _) (hS1 g0 s0);have q1:=hu1.cellv (zm c1 _) (hS1 g1 s1);have q2:=hu1.range (qYp c2 _) (hS1 g2 s2);have p0:¬b=g0:=fun e=>s0 (e▸hS b (.inl rfl));have p1:¬b=g1:=fun e=>s1 (e▸hS b (.inl rfl));have p2:¬b=g2:=fun e=>s2 (e▸hS b (.inl rfl));have d2:=zm d1 (.cells (wrC s x).toArray 131);have n0:=World.new_ne w _ c0;have n1:=World.new_ne w _ c1;have nb:=World.new_ne w _ d1;have HX:=Y5 hS hn hbf hu hu1;clear hS1 hd hs1 hu1 hbf hu hrd hstr1 hS hn hln h;go_enter Tryz.func64,Tryz.ntmps64
 refine qZj (S:=fun W=>W.cell? ⟨g0,0,none⟩=some (.pointer (some ⟨b,0,none⟩))/\W.cell? ⟨g1,0,none⟩=some (.int .i64 (s:Int))/\W.rangeAt g2 0 (bkC x)) (by kernel_rfl) (by(go_split_ands;(simp only[qYq,qYo]at*);((repeat' constructor)<;>first|assumption|(apply zm;assumption)|(refine zq ?_ ?_<;>assumption)|(refine zE ?_ ?_<;>assumption)|(apply qYp;assumption)|(apply qYt;assumption)))) (fun hHeld=>?_);refine Wl.i [0,1,2,3,5] ?_;iterate 5 refine Wl.t hHeld ?_
 refine Wl.o ?_;refine Wl.l 6 (fun w h=>h.2.2) hut hsi hHeld ?_;refine Wl.i [7] (Wl.t hHeld (Wl.o ?_));refine qZe (rs:=[4,8]) (by kernel_rfl) (by simp) ?_;refine qxb rfl (fun K hK=>?_) (qxb rfl (fun K hK=>?_) qxc)
 .go_simp
  refine hK.o _ _ (by(go_split_ands;(simp only[qYq,qYo]at*);((repeat' constructor)<;>first|assumption|(apply zm;assumption)|(refine zq ?_ ?_<;>assumption)|(refine zE ?_ ?_<;>assumption)|(apply qYp;assumption)|(apply qYt;assumption)))) (fun hH1=>?_);clear hK K;refine Wl.r 8 (fun K hK=>?_);go_simp
  refine hK.o _ _ (by(go_split_ands;(simp only[qYq,qYo]at*);((repeat' constructor)<;>first|assumption|(apply zm;assumption)|(refine zq ?_ ?_<;>assumption)|(refine zE ?_ ?_<;>assumption)|(apply qYp;assumption)|(apply qYt;assumption)))) (fun hH2=>?_);clear hK K;refine Wl.r 9 (fun K hK=>?_);refine zJ rfl _ _ _ rfl rfl rfl hrun ?_;refine hK.o _ _ (by(go_split_ands;(simp only[qYq,qYo]at*);((repeat' constructor)<;>first|assumption|(apply zm;assumption)|(refine zq ?_ ?_<;>assumption)|(refine zE ?_ ?_<;>assumption)|(apply qYp;assumption)|(apply qYt;assumption)))) (fun hH3=>?_);clear hK K;refine Wl.i [10,11] ?_;iterate 2 refine Wl.t hH3 ?_
  refine Wl.o ?_;refine Wl.r 12 (fun K hK=>?_);go_simp
  refine hK.o _ _ (by(go_split_ands;(simp only[qYq,qYo]at*);((repeat' constructor)<;>first|assumption|(apply zm;assumption)|(refine zq ?_ ?_<;>assumption)|(refine zE ?_ ?_<;>assumption)|(apply qYp;assumption)|(apply qYt;assumption)))) (fun hH4=>?_);clear hK K;refine Wl.d ?_
  go_end0
  obtain⟨hS,hn,hbf,hu,hu1⟩:=HX.o;have hD':=hD.out;have hl':(O++[(s,x)]).length=O.length+1:=by simp
  rw[hl']at hD' hbf;refine⟨rfl,⟨vf,_,vp,hD',?_⟩,?_⟩
  .rintro j (rfl|h|h|h)
   .exact hS _ (.inl rfl)
   .exact hS _ (.inr (.inl h))
   .rcases hbf with e|⟨g,eg,hge⟩
    .exact hS _ (.inr (.inr (.inl (e▸h))))
    .rw [eg]at h;cases h;exact hn _ (qXx hu.size hge)
   .exact hS _ (.inr (.inr (.inr h)))
  .exact ((hu.mono (fun _ _ h=>h.elim)).trans (hu1.mono (fun k _ hk=>hS _ (.inr (.inr (.inl hk)))))).trans (Upd.mono (zi _ _ _ _) (fun k _ hk=>hk▸hS _ (.inl rfl)))
 .go_simp
  refine hK.o _ _ (by(go_split_ands;(simp only[qYq,qYo]at*);((repeat' constructor)<;>first|assumption|(apply zm;assumption)|(refine zq ?_ ?_<;>assumption)|(refine zE ?_ ?_<;>assumption)|(apply qYp;assumption)|(apply qYt;assumption)))) (fun hH1=>?_);clear hK K;refine Wl.r 4 (fun K hK=>?_);go_simp
  refine hK.o _ _ (by(go_split_ands;(simp only[qYq,qYo]at*);((repeat' constructor)<;>first|assumption|(apply zm;assumption)|(refine zq ?_ ?_<;>assumption)|(refine zE ?_ ?_<;>assumption)|(apply qYp;assumption)|(apply qYt;assumption)))) (fun hH2=>?_);clear hK K;refine Wl.r 9 (fun K hK=>?_);refine zJ rfl _ _ _ rfl rfl rfl hrun ?_;refine hK.o _ _ (by(go_split_ands;(simp only[qYq,qYo]at*);((repeat' constructor)<;>first|assumption|(apply zm;assumption)|(refine zq ?_ ?_<;>assumption)|(refine zE ?_ ?_<;>assumption)|(apply qYp;assumption)|(apply qYt;assumption)))) (fun hH3=>?_);clear hK K;refine Wl.i [10,11] ?_;iterate 2 refine Wl.t hH3 ?_
  refine Wl.o ?_;refine Wl.r 12 (fun K hK=>?_);go_simp
  refine hK.o _ _ (by(go_split_ands;(simp only[qYq,qYo]at*);((repeat' constructor)<;>first|assumption|(apply zm;assumption)|(refine zq ?_ ?_<;>assumption)|(refine zE ?_ ?_<;>assumption)|(apply qYp;assumption)|(apply qYt;assumption)))) (fun hH4=>?_);clear hK K;refine Wl.d ?_
  go_end0
  obtain⟨hS,hn,hbf,hu,hu1⟩:=HX.o;have hD':=hD.out;have hl':(O++[(s,x)]).length=O.length+1:=by simp
  rw[hl']at hD' hbf;refine⟨rfl,⟨vf,_,vp,hD',?_⟩,?_⟩
  .rintro j (rfl|h|h|h)
   .exact hS _ (.inl rfl)
   .exact hS _ (.inr (.inl h))
   .rcases hbf with e|⟨g,eg,hge⟩
    .exact hS _ (.inr (.inr (.inl (e▸h))))
    .rw [eg]at h;cases h;exact hn _ (qXx hu.size hge)
   .exact hS _ (.inr (.inr (.inr h)))
  .exact ((hu.mono (fun _ _ h=>h.elim)).trans (hu1.mono (fun k _ hk=>hS _ (.inr (.inr (.inl hk)))))).trans (Upd.mono (zi _ _ _ _) (fun k _ hk=>hk▸hS _ (.inl rfl)))
theorem Dv.shrink{S T:Nat->Prop}{w:World}{b:Nat}{F:List Bk}{O:List (Nat×Bk)}{P:List Int}(h:Dv S w b F O P)(hT:∀j,S j->j<w.heap.size->T j):Dv T w b F O P:=by
 obtain⟨vf,vo,vp,h,hS⟩:=h;exact⟨vf,vo,vp,h,fun j hj=>hT j (hS j hj) (h.slt j hj)⟩
theorem Dv.wide{S T:Nat->Prop}{w:World}{b:Nat}{F:List Bk}{O:List (Nat×Bk)}{P:List Int}(h:Dv S w b F O P)(hT:∀j,S j->T j):Dv T w b F O P:=by
 obtain⟨vf,vo,vp,h,hS⟩:=h;exact⟨vf,vo,vp,h,fun j hj=>hT j (hS j hj)⟩
theorem Dv.sb{S:Nat->Prop}{w:World}{b:Nat}{F:List Bk}{O:List (Nat×Bk)}{P:List Int}(h:Dv S w b F O P):S b/\b<w.heap.size:=by
 obtain⟨vf,vo,vp,h,hS⟩:=h;exact⟨hS b (.inl rfl),h.blt⟩
theorem uo{n:Nat}{s:Int}(h:hasC n s=0):(s.toNat:Int)=s/\s.toNat<n:=by
 unfold hasC at h;split at h
 .omega
 .omega
def Vg(S:Nat->Prop)(w:World)(b:Nat)(F:List Bk)(O:List (Nat×Bk))(P:List Int)(s:Int)(x:Bk)(e:Ending)(w':World):Prop:=
 (hasC F.length s≠0/\e=.returned (.int .i64 (hasC F.length s))/\Dv S w' b F O P/\Upd S w w')\/
 (hasC F.length s=0/\fate P=1/\e=.returned (.int .i64 20)/\Dv S w' b F O P.tail/\Upd S w w')\/
 (hasC F.length s=0/\fate P=0/\e=.returned (.int .i64 0)/\Dv S w' b F (O++[(s.toNat,x)]) P.tail/\Upd S w w')\/
 (hasC F.length s=0/\fate P≠0/\fate P≠1/\e=.returned (.int .i64 0)/\Dv S w' b F O P.tail/\Upd S w w')
theorem Jw{S:Nat->Prop}{w:World}{b:Nat}{F:List Bk}{O:List (Nat×Bk)}{P:List Int}(h:Dv S w b F O P)(hn:∀j,w.heap.size<=j->S j)(s:Int)(x:Bk)(hx:x.length=64)(hO:O.length<65536):
  Calls Tryz.prog 18 #[.pointer (some ⟨b,0,none⟩),.int .i64 s,bkV x] w (Vg S w b F O P s x):=by
 have hmf:=qqf;have H:=Y4 h hn hx hO;clear h hn hx hO;go_enter Tryz.func18,Tryz.ntmps18
 go_wp2_with fail
 rename_i xv cs heq
 obtain rfl:(bkC x).toArray=cs:=by injection heq
 clear heq;have hu:Upd (fun _=>False) w (((w.alloc (.cells #[.pointer (some ⟨b,0,none⟩)] 46)).alloc (.cells #[.int .i64 s] 3)).alloc (.cells (bkC x).toArray 54)):=(((uur _ w).alloc _).alloc _).alloc _;have c0:(((w.alloc (.cells #[.pointer (some ⟨b,0,none⟩)] 46)).alloc (.cells #[.int .i64 s] 3)).alloc (.cells (bkC x).toArray 54)).cell? ⟨w.heap.size,0,none⟩=some (.pointer (some ⟨b,0,none⟩)):=
  zm (zm (za (zc w _ rfl) 0) _) _
 have c1:(((w.alloc (.cells #[.pointer (some ⟨b,0,none⟩)] 46)).alloc (.cells #[.int .i64 s] 3)).alloc (.cells (bkC x).toArray 54)).cell? ⟨w.heap.size+1,0,none⟩=some (.int .i64 s):=
  zm (za (zc _ _ (by simp)) 0) _
 have c2:(((w.alloc (.cells #[.pointer (some ⟨b,0,none⟩)] 46)).alloc (.cells #[.int .i64 s] 3)).alloc (.cells (bkC x).toArray 54)).rangeAt (w.heap.size+1+1) 0 (bkC x):=fun j v hv=>by
  rw[za (zc _ _ (by simp))];simpa using hv
 have hsz:(((w.alloc (.cells #[.pointer (some ⟨b,0,none⟩)] 46)).alloc (.cells #[.int .i64 s] 3)).alloc (.cells (bkC x).toArray 54)).heap.size=w.heap.size+3:=by simp
 generalize (((w.alloc (.cells #[.pointer (some ⟨b,0,none⟩)] 46)).alloc (.cells #[.int .i64 s] 3)).alloc (.cells (bkC x).toArray 54))=w3 at hu c0 c1 c2 hsz⊢;have hd3:Dv S w3 b F O P:=H.o.1.keep hu (fun _ _ h=>h);have HX:=Y4 hd3 hu c2 hsz;clear hd3 hu c2 hsz;refine(Ap HX.o.1 s).mono ?_;rintro e w4 ⟨rfl,rfl⟩;by_cases hz:hasC F.length s=0
 .have HZ:=qqh hz;rw[hz];clear hz;go_wp2_with fail
  obtain⟨hd0,hn,hx,hO⟩:=H.o;obtain⟨-,hu,c2,hsz⟩:=HX.o;have hS':∀j,((S j/\j<w.heap.size)\/w.heap.size+3<=j)->S j:=by
   rintro j (⟨h,-⟩|h)
   .exact h
   .exact hn j (by omega)
  have hd4:Dv (fun j=>(S j/\j<w.heap.size)\/w.heap.size+3<=j) w4 b F O P:=(hd0.shrink (fun j hj hl=> .inl ⟨hj,hl⟩)).keep hu (fun _ _ h=>h);have hbS:=hd0.sb;have hzz:=uo HZ.o;have HO:=Y2 hS' hu;have HZ2:=qqh HZ.o;refine(UG hd4 20 64 _ (fun W=>Dv (fun j=>(S j/\j<w.heap.size)\/w.heap.size+3<=j) W b F (O++[(s.toNat,x)]) P.tail/\Upd (fun j=>(S j/\j<w.heap.size)\/w.heap.size+3<=j) w4 W) (fun _ _=>rfl) ?_).mono ?_
  .intro h0 w1 hd1 hu1;have hb4:∀k,¬w.heap.size+k=b:=fun k=>by omega
   refine(Rq hd1 (fun j hj=> .inr (by have:=hu1.size;omega)) s.toNat x hzz.2 hx hO (hu1.cellv c0 (hb4 0)) (by rw[hzz.1];exact hu1.cellv c1 (hb4 1)) (hu1.range c2 (hb4 2)) (by omega) (by omega) (by omega)).mono ?_;rintro e w' ⟨rfl,hD,hU⟩;exact⟨rfl,hD,(hu1.mono (fun j _ hj=>hj▸ .inl ⟨hbS.1,hbS.2⟩)).trans hU⟩
  .clear hd4 hd0 hn hx hO hu c2 hsz hS' c0 c1 hzz;have HB:=qqh hbS;clear hbS;rintro e w5 (⟨h1,rfl,hD,hU⟩|⟨h1,rfl,hD,hU⟩|⟨h1,h2,rfl,hD,hU⟩)
   .have D:=Y3 h1 hD hU;clear h1 hD hU;go_wp2
    go_ret
    exact .inr (.inl ⟨HZ.o,D.out.1,rfl,D.out.2.1.wide HO.o.1,(HO.o.2.mono (fun _ _ h=>h.elim)).trans (D.out.2.2.mono (fun j _ hj=>hj▸HB.o.1))⟩)
   .have D:=Y3 h1 hD hU;clear h1 hD hU;go_wp2
    go_ret
    exact .inr (.inr (.inl ⟨HZ.o,D.out.1,rfl,D.out.2.1.wide HO.o.1,(HO.o.2.mono (fun _ _ h=>h.elim)).trans (D.out.2.2.mono (fun j _ hj=>HO.o.1 j hj))⟩))
   .have D:=Y4 h1 h2 hD hU;clear h1 h2 hD hU;go_wp2
    go_ret
    exact .inr (.inr (.inr ⟨HZ.o,D.out.1,D.out.2.1,rfl,D.out.2.2.1.wide HO.o.1,(HO.o.2.mono (fun _ _ h=>h.elim)).trans (D.out.2.2.2.mono (fun j _ hj=>hj▸HB.o.1))⟩))
 .have HZ:=qqh hz;have hz':(hasC F.length s==0)=false:=by simpa using hz
  clear hz;go_wp2
  go_ret
  exact .inl ⟨HZ.o,rfl,HX.o.1,HX.o.2.1.mono (fun _ _ h=>h.elim)⟩
end Go.Proofs.YtfhfbpmlnjdfoaaGreatDoor
