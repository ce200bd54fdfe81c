/- APPEND onto a -/
import Derived.Test.YtfhfbpmlnjdfoaaGreatDoorG01
import Derived.Deep.DrawnRows
set_option maxRecDepth 100000
set_option maxHeartbeats 1000000
namespace Go.Proofs.YtfhfbpmlnjdfoaaGreatDoor
open Go Go.RowKit Tryz
theorem yl{P:Program}{w:World}{e:TypeId}{k n m:Nat}{v x':Value}{xs news:List Value}(t ty:TypeId)
  (i:TypeInfo) (z:Value) (bytes:Nat) (ht:P.underlying t=some (.slice e)) (hi:P.info? e=some i) (hz:i.zero=some z)
  (hsize:i.size=k) (hby:i.bytes=bytes) (hzs:z.cells.size=k) (hsz:0<k)
  (hown:Sl w e k v n xs) (hr:Rd w k x' m news) (h1:∀u∈news,u.oneCell'=true) (h63:n+m<=maxLen) (hbytes:(n+m)*bytes<=140737488355328):
  ∃v' w',(Builtin.append_ #[t,t] ty #[v,x']).run P w=.ok v' w'/\Sl w' e k v' (n+m) (xs++news)/\Upd (ownS v) w w'/\blockFrom w v v':=by
 obtain⟨hnl,hml,ao,xc,rfl,hx0,hxc⟩:=hr;cases ao with
 |none=>
  have hm0:=hx0 rfl;subst hm0;obtain rfl:news=[]:=qyd ke;refine⟨v,w,?_,by simpa using hown,uur _ _,.inl rfl⟩;obtain⟨_,⟨rfl,rfl⟩|⟨g,off,cap,cur,rfl,hg,hnc,hcm,hcs,hcell⟩⟩:=hown
  .simp [Builtin.append_,run_underlying ht,sizeOf,typeInfo,hi,Builtin.lenOf,Builtin.firstCells]
  .simp [Builtin.append_,run_underlying ht,sizeOf,typeInfo,hi,Builtin.lenOf,Builtin.firstCells,hnc,storeCells]
 |some ad=>
  have hac':=hxc ad rfl;have hown':=hown;obtain⟨hl,⟨rfl,rfl⟩|⟨g,off,cap,cur,rfl,hg,hnc,hcm,hcs,hcell⟩⟩:=hown
  .obtain rfl:xs=[]:=qyd jN;cases m with
   |zero=>
    obtain rfl:news=[]:=qyd ke;refine⟨.slice none 0 0,w,?_,by simpa using hown',uur _ _,.inl rfl⟩;simp[Builtin.append_,run_underlying ht,sizeOf,typeInfo,hi,Builtin.lenOf,Builtin.firstCells,loadCells,loadCellsFrom]
   |succ m=>
    obtain⟨v',w',hrun,r1,r2,_⟩:=run_append_own (P:=P) w w.heap.size t ty e i z k bytes ht hi hz hsize hby hzs hsz (.slice none 0 0) 0 [] (World.ownsRow_nil w _ e k) ad (m+1) xc news hnl hac' h1 h63 hbytes (qXv _);refine⟨v',w',hrun,Sl.of_own r1,Upd.kB r2 (fun g hg _=>by cases hg),?_⟩;rcases r1.2 with⟨rfl,h0⟩|⟨g',cap',cur',rfl,hb',_⟩
    .omega
    .exact .inr ⟨g',rfl,hb'⟩
  .by_cases hroom:n+m<=cap
   .have hm:=qYb k hroom;rw[Nat.add_mul]at hm;subst hsize;have hrun:=run_append_room_cells (P:=P) w t ty e i ht hi g off n cap ad m xc news hnl hac' h1 hroom (fun j hj=>by rw[za hg];simp;omega) (fun j _=>zg hg _);obtain⟨cur',h2,h3,h4⟩:=zC news (off+n*i.size) w g cur e (0,0) hg;refine⟨_,_,hrun,⟨by rw[qzd,hl,hnl,Nat.add_mul],.inr ⟨g,off,cap,cur',rfl,h2,hroom,hcm,oM,fun j u hj=>?_⟩⟩,yq _ w g _ news rfl,.inl rfl⟩;rw[h4];by_cases hj1:j<xs.length
    .rw [qyi hj1]at hj;rw[if_neg oM];exact hcell j u hj
    .rw [qyj oM]at hj;have hlt:=(qyp.1 hj).1;rw[if_pos ⟨oM,oM,oM⟩];have:off+j-(off+n*i.size)=j-xs.length:=oM;rw[this];exact hj
   .obtain ⟨v',w',hrun,r1,r2⟩:=run_append_arg_grows (P:=P) w t ty e i z k bytes ht hi hz hsize hby hzs hsz ⟨g,off,none⟩ n cap xs hl (fun j u hj=>by rw[qxa,za hg];exact hcell j u hj) ad m xc news hnl hac' oM h63 hbytes;refine⟨v',w',hrun,Sl.of_own r1,Upd.kB r2 (fun g hg _=>by cases hg),?_⟩;rcases r1.2 with⟨rfl,h0⟩|⟨g',cap',cur',rfl,hb',_⟩
    .omega
    .exact .inr ⟨g',rfl,hb'⟩
attribute [local go_sem↓] Yy Uw sh Yz Go.wp_at_zero Go.wp_at_succ
theorem YA(O:List (Nat×Bk))(s:Nat)(x:Bk):opC (O++[(s,x)])=opC O++wrC s x:=by simp[opC,wrC]
theorem zw(x:Bk)(hx:x.length=64):(prog.info? 54).map (·.size)=some (bkC x).length:=by
 obtain⟨i,hi,_,h1,_⟩:=qZa Wb;rw[hi,zo,hx,Option.map_some,h1]
theorem DvGood.write{F:List Bk}{O:List (Nat×Bk)}{P:List Int}(h:DvGood F O P){s:Nat}{x:Bk}(hs:s<F.length)(hx:x.length=64)(ho:O.length<65536):DvGood F (O++[(s,x)]) P:={h with
 o64:=by intro p hp;rcases qzq.1 hp with h1|h1;exact h.o64 p h1;simp at h1;subst h1;exact⟨hx,hs⟩
 ol:=by simp;omega}
theorem zm{w:World}{a:Addr}{v:Value}(h:w.cell? a=some v)(o:Obj):(w.alloc o).cell? a=some v:=by
 rw[World.cell?_alloc_some w a o (by rw[h];rfl),h]
theorem Upd.j4{S:Nat->Prop}{w w':World}(hu:Upd S w w'){g o:Nat}{v:Value}(h:w.cell? ⟨g,o,none⟩=some v)(hn:¬S g):w'.cell? ⟨g,o,none⟩=some v:=by
 have e:=hu.block g (qYn w _ h) hn;unfold World.cell? at*;simp only[e];exact h
theorem Upd.range{S:Nat->Prop}{w w':World}(hu:Upd S w w'){g o:Nat}{cs:List Value}(h:w.rangeAt g o cs)(hn:¬S g):w'.rangeAt g o cs:=fun j v hv=>hu.j4 (h j v hv) hn
theorem zu{w:World}{g o b o':Nat}{v u:Value}(h:w.cell? ⟨g,o,none⟩=some v)(hne:¬b=g):(w.setCell ⟨b,o',none⟩ u).cell? ⟨g,o,none⟩=some v:=by
 rw[World.cell?_setCell_other _ _ _ _ (fun e=>hne (congrArg Addr.block e)),h]
theorem zA{w:World}{g o b o':Nat}{cs:List Value}{u:Value}(h:w.rangeAt g o cs)(hne:¬b=g):(w.setCell ⟨b,o',none⟩ u).rangeAt g o cs:=fun j v hv=>zu (h j v hv) hne
theorem zJ{P:Program}{ops:Array Oper}{o:Oper}{a:Act}{w:World}{K:Act->World->Prop}{Q:Exit->Act->World->Prop}{E:Prop}
  (hg:o.guard=none) (s x:Operand) (t:TypeId) (hop:o.op=Op.call {callee:=Callee.builtin Builtin.append,args:= #[s,x],argTypes:= #[t,t]})
  {vs vx v':Value} {w':World} (hs:a.eval s=vs) (hx:a.eval x=vx) (hrun:(Builtin.append_ #[t,t] o.type #[vs,vx]).run P w=.ok v' w')
  (hK:K (a.put o.dst v') w'):
  if Region.wanted o (yielded ops a.tmps)=true then Oper.wp P o a w K Q else E:=by
 have hw:Region.wanted o (yielded ops a.tmps)=true:=by simp[Region.wanted,hg]
 rw[if_pos hw];unfold Oper.wp;simp[execOp,hop,resolve,invoke,builtin,hs,hx,hrun,Result.andThen];exact hK
theorem Jb{S:Nat->Prop}{w:World}{b g0 g1 g2:Nat}{F:List Bk}{O:List (Nat×Bk)}{P:List Int}(h:Dv S w b F O P)(hn:∀j,w.heap.size<=j->S j)(s:Nat)(x:Bk)(hs:s<F.length)(hx:x.length=64)(hO:O.length<65536)
  (c0:w.cell? ⟨g0,0,none⟩=some (.pointer (some ⟨b,0,none⟩))) (c1:w.cell? ⟨g1,0,none⟩=some (.int .i64 (s:Int))) (c2:w.rangeAt g2 0 (bkC x))
  (s0:¬S g0) (s1:¬S g1) (s2:¬S g2):
  Calls prog 64 #[.pointer (some ⟨g0,0,none⟩),.pointer (some ⟨g1,0,none⟩),.pointer (some ⟨g2,0,none⟩)] w fun e w'=>e=.returned (.tuple #[])/\Dv S w' b F (O++[(s,x)]) P/\Upd S w w':=by
 obtain⟨vf,vo,vp,h,hS⟩:=h;obtain⟨i,z,hi,hz,hzs,hsz,hby⟩:=xl;have hu:Upd (fun _=>False) w (w.alloc (.cells (wrC s x).toArray 131)).drew:=((uur _ _).alloc _).drew;have hd:=h.new hu;have hrd:Rd (w.alloc (.cells (wrC s x).toArray 131)).drew 65 (.slice (some ⟨w.heap.size,0,none⟩) 1 1) 1 (wrC s x):=
  Rd.keep (Rd.fresh w (wrC s x) 131 1 (by rw[wrC_len,hx]) og) ((uur (fun _=>False) _).drew) (fun _ _ h=>h)
 obtain⟨v',w1,hrun,hs1,hu1,hbf⟩:=yl 121 121 i z 72 underlying121 hi hz hsz hby hzs de hd.os hrd (ug s x) og oM;rw[<-YA]at hs1;have hln:O.length+1=(O++[(s,x)]).length:=oe;rw[hln]at hs1;obtain⟨ao1,c1',rfl⟩:=hs1.rd.j7;have hD:=qqh (hd.setOpen hu1 hs1 hbf (hd.good.write hs hx hO));have hstr1:=(hu1.block b hd.blt (fun e=>hd.ob e)).trans hd.str;have k1:=za hstr1 1;have k2:=zg hstr1 1;simp at k1;obtain⟨-,d1,-⟩:=h.c;have hbl:=Qg (s:Int) x hx;have hut:=underlying54;have hsi:=zw x hx;have hlx:(bkC x).length=64:=by rw[zo,hx]
 have h1x:=zx x;have hS1:∀g,¬S g->¬ownS vo g:=fun g hg e=>hg (hS g (.inr (.inr (.inl e))));have q0:=hu1.j4 (zm c0 _) (hS1 g0 s0);have q1:=hu1.j4 (zm c1 _) (hS1 g1 s1);have q2:=hu1.range (qYp c2 _) (hS1 g2 s2);have p0:¬b=g0:=fun e=>s0 (e▸hS b (.inl rfl));have p1:¬b=g1:=fun e=>s1 (e▸hS b (.inl rfl));have p2:¬b=g2:=fun e=>s2 (e▸hS b (.inl rfl));have d2:=zm d1 (.cells (wrC s x).toArray 131);have n0:=World.new_ne w _ c0;have n1:=World.new_ne w _ c1;have nb:=World.new_ne w _ d1;have HX:=Y5 hS hn hbf hu hu1;clear hS1 hd hs1 hu1 hbf hu hrd hstr1 hS hn hln h;go_enter func64,ntmps64
 refine qZj (S:=fun W=>W.cell? ⟨g0,0,none⟩=some (.pointer (some ⟨b,0,none⟩))/\W.cell? ⟨g1,0,none⟩=some (.int .i64 (s:Int))/\W.rangeAt g2 0 (bkC x)) kR (by(go_split_ands;(simp only[qYq,qYo]at*);((repeat' constructor)<;>first|assumption|(apply zm;assumption)|(refine zu ?_ ?_<;>assumption)|(refine zA ?_ ?_<;>assumption)|(apply qYp;assumption)|(apply qYt;assumption)))) (fun hHeld=>?_);refine Wl.i [0,1,2,3,5] ?_;iterate 5 refine Wl.t hHeld ?_
 refine Wl.o ?_;refine Wl.l 6 (fun w h=>h.2.2) hut hsi hHeld ?_;refine Wl.i [7] (Wl.t hHeld (Wl.o ?_));refine qZe (rs:=[4,8]) kR oe ?_;refine qxb rfl (fun K hK=>?_) (qxb rfl (fun K hK=>?_) qxc)
 .go_simp
  refine hK.o _ _ (by(go_split_ands;(simp only[qYq,qYo]at*);((repeat' constructor)<;>first|assumption|(apply zm;assumption)|(refine zu ?_ ?_<;>assumption)|(refine zA ?_ ?_<;>assumption)|(apply qYp;assumption)|(apply qYt;assumption)))) (fun hH1=>?_);clear hK K;refine Wl.r 8 (fun K hK=>?_);go_simp
  refine hK.o _ _ (by(go_split_ands;(simp only[qYq,qYo]at*);((repeat' constructor)<;>first|assumption|(apply zm;assumption)|(refine zu ?_ ?_<;>assumption)|(refine zA ?_ ?_<;>assumption)|(apply qYp;assumption)|(apply qYt;assumption)))) (fun hH2=>?_);clear hK K;refine Wl.r 9 (fun K hK=>?_);refine zJ rfl _ _ _ rfl rfl rfl hrun ?_;refine hK.o _ _ (by(go_split_ands;(simp only[qYq,qYo]at*);((repeat' constructor)<;>first|assumption|(apply zm;assumption)|(refine zu ?_ ?_<;>assumption)|(refine zA ?_ ?_<;>assumption)|(apply qYp;assumption)|(apply qYt;assumption)))) (fun hH3=>?_);clear hK K;refine Wl.i [10,11] ?_;iterate 2 refine Wl.t hH3 ?_
  refine Wl.o ?_;refine Wl.r 12 (fun K hK=>?_);go_simp
  refine hK.o _ _ (by(go_split_ands;(simp only[qYq,qYo]at*);((repeat' constructor)<;>first|assumption|(apply zm;assumption)|(refine zu ?_ ?_<;>assumption)|(refine zA ?_ ?_<;>assumption)|(apply qYp;assumption)|(apply qYt;assumption)))) (fun hH4=>?_);clear hK K;refine Wl.d ?_
  go_end0
  obtain⟨hS,hn,hbf,hu,hu1⟩:=HX.o;have hD':=hD.out;have hl':(O++[(s,x)]).length=O.length+1:=oe;rw[hl']at hD' hbf;refine⟨rfl,⟨vf,_,vp,hD',?_⟩,?_⟩
  .rintro j (rfl|h|h|h)
   .exact hS _ (.inl rfl)
   .exact hS _ (.inr (.inl h))
   .rcases hbf with e|⟨g,eg,hge⟩
    .exact hS _ (.inr (.inr (.inl (e▸h))))
    .rw [eg]at h;cases h;exact hn _ (qXx hu.size hge)
   .exact hS _ (.inr (.inr (.inr h)))
  .exact ((hu.mono fE).trans (hu1.mono (fun k _ hk=>hS _ (.inr (.inr (.inl hk)))))).trans (Upd.mono (zj _ _ _ _) (fun k _ hk=>hk▸hS _ (.inl rfl)))
 .go_simp
  refine hK.o _ _ (by(go_split_ands;(simp only[qYq,qYo]at*);((repeat' constructor)<;>first|assumption|(apply zm;assumption)|(refine zu ?_ ?_<;>assumption)|(refine zA ?_ ?_<;>assumption)|(apply qYp;assumption)|(apply qYt;assumption)))) (fun hH1=>?_);clear hK K;refine Wl.r 4 (fun K hK=>?_);go_simp
  refine hK.o _ _ (by(go_split_ands;(simp only[qYq,qYo]at*);((repeat' constructor)<;>first|assumption|(apply zm;assumption)|(refine zu ?_ ?_<;>assumption)|(refine zA ?_ ?_<;>assumption)|(apply qYp;assumption)|(apply qYt;assumption)))) (fun hH2=>?_);clear hK K;refine Wl.r 9 (fun K hK=>?_);refine zJ rfl _ _ _ rfl rfl rfl hrun ?_;refine hK.o _ _ (by(go_split_ands;(simp only[qYq,qYo]at*);((repeat' constructor)<;>first|assumption|(apply zm;assumption)|(refine zu ?_ ?_<;>assumption)|(refine zA ?_ ?_<;>assumption)|(apply qYp;assumption)|(apply qYt;assumption)))) (fun hH3=>?_);clear hK K;refine Wl.i [10,11] ?_;iterate 2 refine Wl.t hH3 ?_
  refine Wl.o ?_;refine Wl.r 12 (fun K hK=>?_);go_simp
  refine hK.o _ _ (by(go_split_ands;(simp only[qYq,qYo]at*);((repeat' constructor)<;>first|assumption|(apply zm;assumption)|(refine zu ?_ ?_<;>assumption)|(refine zA ?_ ?_<;>assumption)|(apply qYp;assumption)|(apply qYt;assumption)))) (fun hH4=>?_);clear hK K;refine Wl.d ?_
  go_end0
  obtain⟨hS,hn,hbf,hu,hu1⟩:=HX.o;have hD':=hD.out;have hl':(O++[(s,x)]).length=O.length+1:=oe;rw[hl']at hD' hbf;refine⟨rfl,⟨vf,_,vp,hD',?_⟩,?_⟩
  .rintro j (rfl|h|h|h)
   .exact hS _ (.inl rfl)
   .exact hS _ (.inr (.inl h))
   .rcases hbf with e|⟨g,eg,hge⟩
    .exact hS _ (.inr (.inr (.inl (e▸h))))
    .rw [eg]at h;cases h;exact hn _ (qXx hu.size hge)
   .exact hS _ (.inr (.inr (.inr h)))
  .exact ((hu.mono fE).trans (hu1.mono (fun k _ hk=>hS _ (.inr (.inr (.inl hk)))))).trans (Upd.mono (zj _ _ _ _) (fun k _ hk=>hk▸hS _ (.inl rfl)))
theorem Dv.kH{S T:Nat->Prop}{w:World}{b:Nat}{F:List Bk}{O:List (Nat×Bk)}{P:List Int}(h:Dv S w b F O P)(hT:∀j,S j->j<w.heap.size->T j):Dv T w b F O P:=by
 obtain⟨vf,vo,vp,h,hS⟩:=h;exact⟨vf,vo,vp,h,fun j hj=>hT j (hS j hj) (h.slt j hj)⟩
theorem Dv.wide{S T:Nat->Prop}{w:World}{b:Nat}{F:List Bk}{O:List (Nat×Bk)}{P:List Int}(h:Dv S w b F O P)(hT:∀j,S j->T j):Dv T w b F O P:=by
 obtain⟨vf,vo,vp,h,hS⟩:=h;exact⟨vf,vo,vp,h,fun j hj=>hT j (hS j hj)⟩
theorem Dv.sb{S:Nat->Prop}{w:World}{b:Nat}{F:List Bk}{O:List (Nat×Bk)}{P:List Int}(h:Dv S w b F O P):S b/\b<w.heap.size:=by
 obtain⟨vf,vo,vp,h,hS⟩:=h;exact⟨hS b (.inl rfl),h.blt⟩
theorem uQ{n:Nat}{s:Int}(h:hasC n s=0):(s.toNat:Int)=s/\s.toNat<n:=by
 unfold hasC at h;split at h
 .omega
 .omega
def Ux(S:Nat->Prop)(w:World)(b:Nat)(F:List Bk)(O:List (Nat×Bk))(P:List Int)(s:Int)(x:Bk)(e:Ending)(w':World):Prop:=
 (hasC F.length s≠0/\e=.returned (.int .i64 (hasC F.length s))/\Dv S w' b F O P/\Upd S w w')\/
 (hasC F.length s=0/\fate P=1/\e=.returned (.int .i64 20)/\Dv S w' b F O P.tail/\Upd S w w')\/
 (hasC F.length s=0/\fate P=0/\e=.returned (.int .i64 0)/\Dv S w' b F (O++[(s.toNat,x)]) P.tail/\Upd S w w')\/
 (hasC F.length s=0/\fate P≠0/\fate P≠1/\e=.returned (.int .i64 0)/\Dv S w' b F O P.tail/\Upd S w w')
theorem Al{S:Nat->Prop}{w:World}{b:Nat}{F:List Bk}{O:List (Nat×Bk)}{P:List Int}(h:Dv S w b F O P)(hn:∀j,w.heap.size<=j->S j)(s:Int)(x:Bk)(hx:x.length=64)(hO:O.length<65536):
  Calls prog 18 #[.pointer (some ⟨b,0,none⟩),.int .i64 s,bkV x] w (Ux S w b F O P s x):=by
 have hmf:=qqf;have H:=Y4 h hn hx hO;clear h hn hx hO;go_enter func18,ntmps18
 go_wp2_with fail
 rename_i xv cs heq
 obtain rfl:(bkC x).toArray=cs:=by injection heq
 clear heq;have hu:Upd (fun _=>False) w (((w.alloc (.cells #[.pointer (some ⟨b,0,none⟩)] 46)).alloc (.cells #[.int .i64 s] 3)).alloc (.cells (bkC x).toArray 54)):=(((uur _ w).alloc _).alloc _).alloc _;have c0:(((w.alloc (.cells #[.pointer (some ⟨b,0,none⟩)] 46)).alloc (.cells #[.int .i64 s] 3)).alloc (.cells (bkC x).toArray 54)).cell? ⟨w.heap.size,0,none⟩=some (.pointer (some ⟨b,0,none⟩)):=
  zm (zm (za (zc w _ rfl) 0) _) _
 have c1:(((w.alloc (.cells #[.pointer (some ⟨b,0,none⟩)] 46)).alloc (.cells #[.int .i64 s] 3)).alloc (.cells (bkC x).toArray 54)).cell? ⟨w.heap.size+1,0,none⟩=some (.int .i64 s):=
  zm (za (zc _ _ oe) 0) _
 have c2:(((w.alloc (.cells #[.pointer (some ⟨b,0,none⟩)] 46)).alloc (.cells #[.int .i64 s] 3)).alloc (.cells (bkC x).toArray 54)).rangeAt (w.heap.size+1+1) 0 (bkC x):=fun j v hv=>by
  rw[za (zc _ _ oe)];simpa using hv
 have hsz:(((w.alloc (.cells #[.pointer (some ⟨b,0,none⟩)] 46)).alloc (.cells #[.int .i64 s] 3)).alloc (.cells (bkC x).toArray 54)).heap.size=w.heap.size+3:=oe;generalize (((w.alloc (.cells #[.pointer (some ⟨b,0,none⟩)] 46)).alloc (.cells #[.int .i64 s] 3)).alloc (.cells (bkC x).toArray 54))=w3 at hu c0 c1 c2 hsz⊢;have hd3:Dv S w3 b F O P:=H.o.1.keep hu (fun _ _ h=>h);have HX:=Y4 hd3 hu c2 hsz;clear hd3 hu c2 hsz;refine(zbE HX.o.1 s).mono ?_;rintro e w4 ⟨rfl,rfl⟩;by_cases hz:hasC F.length s=0
 .have HZ:=qqh hz;rw[hz];clear hz;go_wp2_with fail
  obtain⟨hd0,hn,hx,hO⟩:=H.o;obtain⟨-,hu,c2,hsz⟩:=HX.o;have hS':∀j,((S j/\j<w.heap.size)\/w.heap.size+3<=j)->S j:=by
   rintro j (⟨h,-⟩|h)
   .exact h
   .exact hn j oM
  have hd4:Dv (fun j=>(S j/\j<w.heap.size)\/w.heap.size+3<=j) w4 b F O P:=(hd0.kH (fun j hj hl=> .inl ⟨hj,hl⟩)).keep hu (fun _ _ h=>h);have hbS:=hd0.sb;have hzz:=uQ HZ.o;have HO:=Y2 hS' hu;have HZ2:=qqh HZ.o;refine(Qd hd4 20 64 _ (fun W=>Dv (fun j=>(S j/\j<w.heap.size)\/w.heap.size+3<=j) W b F (O++[(s.toNat,x)]) P.tail/\Upd (fun j=>(S j/\j<w.heap.size)\/w.heap.size+3<=j) w4 W) (fun _ _=>rfl) ?_).mono ?_
  .intro h0 w1 hd1 hu1;have hb4:∀k,¬w.heap.size+k=b:=fun k=>oM;refine(Jb hd1 (fun j hj=> .inr (by have:=hu1.size;omega)) s.toNat x hzz.2 hx hO (hu1.j4 c0 (hb4 0)) (by rw[hzz.1];exact hu1.j4 c1 (hb4 1)) (hu1.range c2 (hb4 2)) oM oM oM).mono ?_;rintro e w' ⟨rfl,hD,hU⟩;exact⟨rfl,hD,(hu1.mono (fun j _ hj=>hj▸ .inl ⟨hbS.1,hbS.2⟩)).trans hU⟩
  .clear hd4 hd0 hn hx hO hu c2 hsz hS' c0 c1 hzz;have HB:=qqh hbS;clear hbS;rintro e w5 (⟨h1,rfl,hD,hU⟩|⟨h1,rfl,hD,hU⟩|⟨h1,h2,rfl,hD,hU⟩)
   .have D:=Y3 h1 hD hU;clear h1 hD hU;go_wp2
    go_ret
    exact .inr (.inl ⟨HZ.o,D.out.1,rfl,D.out.2.1.wide HO.o.1,(HO.o.2.mono fE).trans (D.out.2.2.mono (fun j _ hj=>hj▸HB.o.1))⟩)
   .have D:=Y3 h1 hD hU;clear h1 hD hU;go_wp2
    go_ret
    exact .inr (.inr (.inl ⟨HZ.o,D.out.1,rfl,D.out.2.1.wide HO.o.1,(HO.o.2.mono fE).trans (D.out.2.2.mono (fun j _ hj=>HO.o.1 j hj))⟩))
   .have D:=Y4 h1 h2 hD hU;clear h1 h2 hD hU;go_wp2
    go_ret
    exact .inr (.inr (.inr ⟨HZ.o,D.out.1,D.out.2.1,rfl,D.out.2.2.1.wide HO.o.1,(HO.o.2.mono fE).trans (D.out.2.2.2.mono (fun j _ hj=>hj▸HB.o.1))⟩))
 .have HZ:=qqh hz;have hz':(hasC F.length s==0)=false:=by simpa using hz
  clear hz;go_wp2
  go_ret
  exact .inl ⟨HZ.o,rfl,HX.o.1,HX.o.2.1.mono fE⟩
def flushF(F:List Bk)(O:List (Nat×Bk)):List Bk:=O.foldl (fun F p=>F.set p.1 p.2) F
theorem xG(F:List Bk)(O:List (Nat×Bk))(p:Nat×Bk):flushF F (O++[p])=(flushF F O).set p.1 p.2:=by simp[flushF]
theorem zG(F:List Bk)(O:List (Nat×Bk)):(flushF F O).length=F.length:=by
 induction O generalizing F with
 |nil=>rfl
 |cons p O ih=>simp only[flushF,List.foldl_cons]at ih⊢;rw[ih];simp
theorem Qh{O:List (Nat×Bk)}(h:∀p∈O,p.2.length=64){i:Nat}(hi:i<O.length){j:Nat}(hj:j<65):(opC O)[i*65+j]?=(wrC O[i].1 O[i].2)[j]?:=by
 induction O generalizing i with
 |nil=>simp at hi
 |cons x O ih=>
  have h1:=h x oe;cases i with
  |zero=>
   simp only[opC,qyg,qYg,qYe,qyx];rw[qyi (by simp[zo,h1];exact hj)]
  |succ i=>
   simp only[opC,qyg,qyw];rw[qyj (by simp[zo,h1];omega)];have:=ih (fun y hy=>h y (by simp[hy])) (i:=i) ox;rw[<-this];simp only[qze,zo,h1]
   congr 1
   omega
section
variable{w w' w2:World}{b:Nat}{vf vo vp v2:Value}{F F':List Bk}{O O':List (Nat×Bk)}{P P':List Int}
theorem DvAt.opRange(h:DvAt w b vf vo vp F O P){k:Nat}(hk:k<O.length):∃g off cap,vo=.slice (some ⟨g,off,none⟩) O.length cap/\g<w.heap.size/\O.length<=cap/\w.rangeAt g (off+k*65) (wrC O[k].1 O[k].2):=by
 obtain⟨hl,⟨_,h0⟩|⟨g,off,cap,cur,rfl,hg,hn,hm,hs,hc⟩⟩:=h.os
 .omega
 .refine ⟨g,off,cap,rfl,zf hg,hn,fun j v hj=>?_⟩;have ho:∀p∈O,p.2.length=64:=fun p hp=>(h.good.o64 p hp).1;have hj':=(qyp.1 hj).1;rw[wrC_len,ho _ (qyz hk)]at hj';rw[za hg,qXr];exact hc _ _ (by rw[Qh ho hk hj'];exact hj)
theorem DvAt.kL(h:DvAt w b vf vo vp F O P){k:Nat}(hk:k<F.length):∃g off cap,vf=.slice (some ⟨g,off,none⟩) F.length cap/\g<w.heap.size/\F.length<=cap/\w.rangeAt g (off+k*64) (bkC F[k])/\w.there g (off+k*64) 64:=by
 obtain⟨hl,⟨_,h0⟩|⟨g,off,cap,cur,rfl,hg,hn,hm,hs,hc⟩⟩:=h.fs
 .omega
 .have:=qYb 64 hn;exact⟨g,off,cap,rfl,zf hg,hn,sH h.good.f64 hg hc hk,Uu hg hk oM⟩
theorem DvAt.setFirm{g off cap:Nat}(h:DvAt w b (.slice (some ⟨g,off,none⟩) F.length cap) vo vp F O P){s:Nat}(hs:s<F.length){x:Bk}(hx:x.length=64):
  DvAt (w.setCells g (off+s*64) (bkC x)) b (.slice (some ⟨g,off,none⟩) F.length cap) vo vp (F.set s x) O P:=by
 have hu:=zq w g (off+s*64) (bkC x);have hne:g≠b:=fun e=>h.fb oK;have hfs:=Sl.row_set h.good.f64 h.fs hs hx;rw[qzj]at hfs;have hlen:(F.set s x).length=F.length:=qzj;exact{h with
  str:=(hu.block b h.blt (fun e=>hne e.symm)).trans h.str
  fs:=by rw[hlen];exact hfs
  os:=h.os.keep hu (fun g' hg' e=>h.fo g' oK hg')
  ps:=h.ps.keep hu (fun g' hg' e=>h.fp g' oK hg')
  good:={h.good with f64:=h.good.f64.set s hx,o64:=by rw[hlen];exact h.good.o64,f1:=by rw[hlen];exact h.good.f1,fl:=by rw[hlen];exact h.good.fl}}
theorem DvAt.openNil(h:DvAt w b vf vo vp F O P):DvAt (w.setCell ⟨b,1,none⟩ (.slice none 0 0)) b vf (.slice none 0 0) vp F [] P:=
 {str:=zi h.str 1 _
  fs:=h.fs.kQ (zj _ _ _ _) h.fb
  os:=Sl.nil _ _ _
  ps:=h.ps.kQ (zj _ _ _ _) h.pb
  good:={h.good with o64:=oe,ol:=by simp}
  fb:=h.fb
  ob:=by simp[Value.ownBlock]
  pb:=h.pb
  fo:=(Dis.nil _ _ _).symm
  fp:=h.fp
  op:=Dis.nil _ _ _}
end
theorem tJ{F:List Bk}{O:List (Nat×Bk)}{k:Nat}(hk:k<O.length):flushF F (O.take (k+1))=(flushF F (O.take k)).set O[k].1 O[k].2:=by
 rw[qXq hk,xG]
theorem Qi(s:Int)(x:Bk)(hx:x.length=64):(prog.info? 131).map (·.size)=some (wrC s x).length:=by
 obtain⟨i,z,hi,_,_,h1,_⟩:=xl;rw[hi,wrC_len,hx,Option.map_some,h1]
theorem zO{w:World}{g o b o':Nat}{v:Value}{vs:List Value}(h:w.cell? ⟨g,o,none⟩=some v)(hne:¬g=b):(w.setCells b o' vs).cell? ⟨g,o,none⟩=some v:=by
 rw[World.cell?_setCells_out b vs o' w _ (fun e _=>absurd e hne),h]
theorem Jc{S:Nat->Prop}{w:World}{b g0:Nat}{F:List Bk}{O:List (Nat×Bk)}{P:List Int}(h:Dv S w b F O P)(hn:∀j,w.heap.size<=j->S j)
  (c0:w.cell? ⟨g0,0,none⟩=some (.pointer (some ⟨b,0,none⟩))) (s0:¬S g0):
  Calls prog 115 #[.pointer (some ⟨g0,0,none⟩)] w fun e w'=>e=.returned (.tuple #[])/\Dv S w' b (flushF F O) [] P/\Upd S w w':=by
 obtain⟨vf,vo,vp,h,hS⟩:=h;obtain⟨-,d1,-⟩:=h.c;obtain⟨ao,co,rfl⟩:=h.os.rd.j7;have hol:=h.good.ol;have H:=Y5 h hS hn c0 s0;clear h hS hn;go_enter func115,ntmps115
 go_wp2
 go_loopw[8] (fun i wr=>∃k:Nat,k<=O.length/\i=.int .i64 k/\DvAt wr b vf (.slice ao O.length co) vp (flushF F (O.take k)) O P/\Upd (fun j=>vf.ownBlock=some j\/w.heap.size<=j) w wr)
  (fun i _=>O.length-(intOf i).toNat)
 case atStart=>exact⟨0,qYf _,rfl,H.o.1,uur _ _⟩
 case round=>
  obtain⟨k,hk,rfl,hd,hu⟩:=hrel;by_cases hlt:k<O.length
  .obtain ⟨h,hS,hn,c0,s0⟩:=H.o;obtain⟨gO,oO,cO,e1,hgO,hcO,rO⟩:=hd.opRange hlt;obtain⟨rfl,rfl⟩:ao=some ⟨gO,oO,none⟩/\co=cO:=by injection e1 with e1 _ e2;exact⟨e1,e2⟩
   clear e1;have hsx:=hd.good.o64 O[k] (qyz hlt);obtain⟨s,x,hO⟩:∃s x,O[k]=(s,x):=⟨_,_,rfl⟩
   rw[hO]at hsx rO;have HO:=qqh hO;clear hO;obtain⟨hx,hs⟩:=hsx;obtain⟨gF,oF,cF,e1,hgF,hcF,rF,tF⟩:=hd.kL hs;have hO1:0<=(k:Int)/\(k:Int)<O.length:=⟨oM,oM⟩
   have hwr:w.heap.size<=wr.heap.size:=hu.size;go_wp2_with (first
    |refine qZg rfl _ _ rfl _ _ rfl _ _ rO underlying131 rfl (Qi _ _ hx) ?_
    |(refine zl rfl _ _ _ rfl _ _ _ rfl rfl (by rw[Zq,wrC_len,hx]) (Qi _ _ hx) (ug _ _) ?_)
    |fail)
   rw[zG]at hs e1 hcF;subst e1;have hu1:Upd (fun _=>False) wr (wr.alloc (.cells (wrC (s:Int) x).toArray 131)):=(uur _ _).alloc _;have hd1:=hd.new hu1;have hU1:=hu.trans (hu1.mono fE);have q2:(wr.alloc (.cells (wrC (s:Int) x).toArray 131)).rangeAt wr.heap.size 0 (wrC (s:Int) x):=fun j v hv=>by
    rw[za (zc wr _ rfl)];simpa using hv
   have q1:=q2 0 _ rfl;have q3:(wr.alloc (.cells (wrC (s:Int) x).toArray 131)).rangeAt wr.heap.size 1 (bkC x):=fun j v hv=>by
    have:=q2 (1+j) v jv;rw[qYe]at this;exact this
   have q4:=qYt tF (.cells (wrC (s:Int) x).toArray 131);have hne0:¬g0=gF:=fun e=>s0 (hS g0 (.inr (.inl oK)));have q0:=hU1.j4 c0 (by rintro(e|e);exact hne0 (by simpa[Value.ownBlock]using e.symm);have:=qYn w _ c0;simp at this;omega);obtain⟨q5,-,-⟩:=hd1.c;have hneb:¬b=gF:=fun e=>hd.fb oK;have hut:=underlying54;have hsi:=zw x hx;have hlx:(bkC x).length=64:=by rw[zo,hx]
   have h1x:=zx x;have hsb:0<=(s:Int)/\(s:Int)<F.length:=⟨oM,oM⟩
   have hnm:¬wr.heap.size=gF:=oM;rw[qYe]at q1;obtain⟨hsb1,hsb2⟩:=hsb;generalize wr.alloc (.cells (wrC (s:Int) x).toArray 131)=W1 at*;have HH:=Y5 hd1 hU1 hd hu hwr;clear hd1 hU1 hd hu hwr hu1 q2 hS hn h tF rF rO c0 s0 hgO hgF;generalize wr.heap.size=m at*
   go_region_held3 (fun W=>W.cell? ⟨g0,0,none⟩=some (.pointer (some ⟨b,0,none⟩))/\W.cell? ⟨b,0,none⟩=some (.slice (some ⟨gF,oF,none⟩) F.length cF)/\W.cell? ⟨m,0,none⟩=some (.int .i64 (s:Int))/\W.rangeAt m 1 (bkC x)/\W.there gF (oF+s*64) 64)
    ((go_split_ands;(simp only[qYq,World.there_drew,qYo]at*);((repeat' constructor)<;>first|assumption|(apply World.there_setCells;assumption)|(refine zO ?_ ?_<;>assumption)|(refine World.rangeAt_setCells_apart (by assumption) _ _ _ oM))))
    (fail)
   have hset:DvAt (W1.drew.setCells gF (oF+s*64) (bkC x)) b (.slice (some ⟨gF,oF,none⟩) F.length cF) (.slice (some ⟨gO,oO,none⟩) O.length co) vp (flushF F (O.take (k+1))) O P:=by
    obtain⟨hd1,hU1,hd,hu,hwr⟩:=HH.o;have h2:=hd1.new ((uur (fun _=>False) _).drew);rw[<-zG F (O.take k)]at h2;have:=h2.setFirm (s:=s) (x:=x) (by rw[zG];exact hs) hx;rw[zG]at this;rw[tJ hlt,HO.o];exact this
   have hUs:Upd (fun j=>(Value.slice (some ⟨gF,oF,none⟩) F.length cF).ownBlock=some j\/w.heap.size<=j) w (W1.drew.setCells gF (oF+s*64) (bkC x)):=
    HH.o.2.1.drew.trans ((zq W1.drew gF (oF+s*64) (bkC x)).mono (fun j _ e=> .inl oK))
   have HS:=Y2 hset hUs;clear hset hUs;go_wp2
   go_roundw
   case rel=>exact⟨k+1,oM,by go_num,HS.o.1,HS.o.2⟩
   case measure=>simp[intOf];omega
  .obtain rfl:k=O.length:=oM;rw[List.take_length]at hd;obtain⟨h,hS,hn,c0,s0⟩:=H.o;have hUS:Upd S w wr:=hu.mono (fun j _ e=>e.elim (fun e=>hS j (.inr (.inl e))) (hn j));have q0:=hUS.j4 c0 s0;have q1:=hd.fz 1;obtain⟨-,q2,-⟩:=hd.c;have HH:=Y4 hd hUS hS hn;clear hd hUS hu h hS hn c0 s0;go_wp2
   go_end0
   obtain⟨hd,hUS,hS,hn⟩:=HH.o;refine⟨rfl,⟨vf,_,vp,hd.openNil,?_⟩,hUS.trans (Upd.mono (zj _ _ _ _) (fun k _ hk=>hk▸hS _ (.inl rfl)))⟩;rintro j (rfl|h|h|h)
   .exact hS _ (.inl rfl)
   .exact hS _ (.inr (.inl h))
   .cases h
   .exact hS _ (.inr (.inr (.inr h)))
def Uy(S:Nat->Prop)(w:World)(b:Nat)(F:List Bk)(O:List (Nat×Bk))(P:List Int)(e:Ending)(w':World):Prop:=
 (fate P=1/\e=.returned (.int .i64 21)/\Dv S w' b F O P.tail/\Upd S w w')\/
 (fate P=0/\e=.returned (.int .i64 0)/\Dv S w' b (flushF F O) [] P.tail/\Upd S w w')\/
 (fate P≠0/\fate P≠1/\e=.returned (.int .i64 0)/\Dv S w' b F O P.tail/\Upd S w w')
theorem Am{S:Nat->Prop}{w:World}{b:Nat}{F:List Bk}{O:List (Nat×Bk)}{P:List Int}(h:Dv S w b F O P)(hn:∀j,w.heap.size<=j->S j):
  Calls prog 46 #[.pointer (some ⟨b,0,none⟩)] w (Uy S w b F O P):=by
 have hmf:=qqf;have H:=Y2 h hn;clear h hn;go_enter func46,ntmps46
 go_wp2_with fail
 have hu:Upd (fun _=>False) w (w.alloc (.cells #[.pointer (some ⟨b,0,none⟩)] 46)):=(uur _ w).alloc _;have c0:(w.alloc (.cells #[.pointer (some ⟨b,0,none⟩)] 46)).cell? ⟨w.heap.size,0,none⟩=some (.pointer (some ⟨b,0,none⟩)):=za (zc w _ rfl) 0;have hsz:(w.alloc (.cells #[.pointer (some ⟨b,0,none⟩)] 46)).heap.size=w.heap.size+1:=oe;generalize (w.alloc (.cells #[.pointer (some ⟨b,0,none⟩)] 46))=w3 at hu c0 hsz⊢;obtain⟨hd0,hn⟩:=H.o;have hbS:=hd0.sb;have hS':∀j,((S j/\j<w.heap.size)\/w.heap.size+1<=j)->S j:=by
  rintro j (⟨h,-⟩|h)
  .exact h
  .exact hn j oM
 have hd4:Dv (fun j=>(S j/\j<w.heap.size)\/w.heap.size+1<=j) w3 b F O P:=(hd0.kH (fun j hj hl=> .inl ⟨hj,hl⟩)).keep hu (fun _ _ h=>h);have HO:=Y3 hS' hu hbS;refine(Qd hd4 21 115 _ (fun W=>Dv (fun j=>(S j/\j<w.heap.size)\/w.heap.size+1<=j) W b (flushF F O) [] P.tail/\Upd (fun j=>(S j/\j<w.heap.size)\/w.heap.size+1<=j) w3 W) (fun _ _=>rfl) ?_).mono ?_
 .intro h0 w1 hd1 hu1;refine(Jc hd1 (fun j hj=> .inr (by have:=hu1.size;omega)) (hu1.j4 c0 oM) oM).mono ?_;rintro e w' ⟨rfl,hD,hU⟩;exact⟨rfl,hD,(hu1.mono (fun j _ hj=>hj▸ .inl ⟨hbS.1,hbS.2⟩)).trans hU⟩
 .clear hd4 hd0 hn hu hsz hS' c0 hbS;rintro e w5 (⟨h1,rfl,hD,hU⟩|⟨h1,rfl,hD,hU⟩|⟨h1,h2,rfl,hD,hU⟩)
  .have D:=Y3 h1 hD hU;clear h1 hD hU;go_wp2
   go_ret
   exact .inl ⟨D.out.1,rfl,D.out.2.1.wide HO.o.1,(HO.o.2.1.mono fE).trans (D.out.2.2.mono (fun j _ hj=>hj▸HO.o.2.2.1))⟩
  .have D:=Y3 h1 hD hU;clear h1 hD hU;go_wp2
   go_ret
   exact .inr (.inl ⟨D.out.1,rfl,D.out.2.1.wide HO.o.1,(HO.o.2.1.mono fE).trans (D.out.2.2.mono (fun j _ hj=>HO.o.1 j hj))⟩)
  .have D:=Y4 h1 h2 hD hU;clear h1 h2 hD hU;go_wp2
   go_ret
   exact .inr (.inr ⟨D.out.1,D.out.2.1,rfl,D.out.2.2.1.wide HO.o.1,(HO.o.2.1.mono fE).trans (D.out.2.2.2.mono (fun j _ hj=>hj▸HO.o.2.2.1))⟩)
def curB(F:List Bk)(O:List (Nat×Bk))(s:Nat):Bk:=(flushF F O).getD s zB
theorem qu(F:List Bk)(O O':List (Nat×Bk)):flushF F (O++O')=flushF (flushF F O) O':=by simp[flushF]
theorem tK{F:List Bk}{O:List (Nat×Bk)}{s:Nat}(h:∀p∈O,p.1≠s):(flushF F O)[s]?=F[s]?:=by
 induction O generalizing F with
 |nil=>rfl
 |cons p O ih=>
  have:=ih (F:=F.set p.1 p.2) (fun q hq=>h q (by simp[hq]));simp only[flushF,List.foldl_cons]at this⊢;rw[this,List.getElem?_set_ne (h p oe)]
theorem sI{F:List Bk}{O:List (Nat×Bk)}{s k:Nat}(h:∀p∈O.drop k,p.1≠s):curB F O s=curB F (O.take k) s:=by
 unfold curB;have:flushF F O=flushF (flushF F (O.take k)) (O.drop k):=by rw[<-qu,qXo]
 rw[this,qyh,tK h,<-qyh]
theorem Qj{F:List Bk}{O:List (Nat×Bk)}{s k:Nat}(hk:k<O.length)(hs:s<F.length)(h0:O[k].1=s)(h:∀p∈O.drop (k+1),p.1≠s):curB F O s=O[k].2:=by
 rw[sI h];unfold curB;rw[tJ hk,h0,qyh,List.getElem?_set_self (by rw[zG];exact hs)];rfl
theorem Uz{F:List Bk}{O:List (Nat×Bk)}{s:Nat}(hs:s<F.length)(h:∀p∈O,p.1≠s):curB F O s=F[s]:=by
 rw[sI (k:=0) (by simpa using h)];simp[curB,flushF,hs]
theorem qv{F:List Bk}{O:List (Nat×Bk)}{P:List Int}(h:DvGood F O P)(s:Nat):(curB F O s).length=64:=by
 unfold curB;have:∀(O:List (Nat×Bk)) (F:List Bk),All64 F->(∀p∈O,p.2.length=64)->All64 (flushF F O):=by
  intro O
  induction O with
  |nil=>intro F h _;exact h
  |cons p O ih=>intro F hF hO;exact ih _ (hF.set p.1 (hO p oe)) (fun q hq=>hO q (by simp[hq]))
 have h2:=this O F h.f64 (fun p hp=>(h.o64 p hp).1);by_cases hs:s<(flushF F O).length
 .rw [qyh,qyn hs];exact h2 _ (qyz hs)
 .rw [qyh,qyo oM];exact zK
theorem Ao(w:World):Calls prog 128 #[] w fun e w'=>e=.returned (.tuple #[])/\w'=w:=by
 go_enter func128,ntmps128
 go_wp2
 go_end0
 exact⟨rfl,rfl⟩
theorem zp(x:Bk)(hx:x.length=64):(bkC x).toArray.size=64:=by simp[zo,hx]
def Qk(S:Nat->Prop)(w:World)(b:Nat)(F:List Bk)(O:List (Nat×Bk))(P:List Int)(s:Int)(e:Ending)(w':World):Prop:=
 (hasC F.length s≠0/\e=.returned (.tuple #[bkV zB,.int .i64 (hasC F.length s)])/\Dv S w' b F O P/\Upd S w w')\/
 (hasC F.length s=0/\fate P=1/\e=.returned (.tuple #[bkV zB,.int .i64 19])/\Dv S w' b F O P.tail/\Upd S w w')\/
 (hasC F.length s=0/\fate P≠1/\e=.returned (.tuple #[bkV (curB F O s.toNat),.int .i64 0])/\Dv S w' b F O P.tail/\Upd S w w')
theorem zP:(prog.info? 54).map (·.size)=some 64:=zw zB zK
theorem zbG{S:Nat->Prop}{w:World}{b:Nat}{F:List Bk}{O:List (Nat×Bk)}{P:List Int}(h:Dv S w b F O P)(hn:∀j,w.heap.size<=j->S j)(s:Int):
  Calls prog 67 #[.pointer (some ⟨b,0,none⟩),.int .i64 s] w (Qk S w b F O P s):=by
 have H:=Y2 h hn;clear h hn;go_enter func67,ntmps67
 go_wp2
 go_step3
 go_wp2_with fail
 show Calls _ _ _ (w.alloc (.cells (bkC zB).toArray 54)) _;have hu1:Upd (fun _=>False) w (w.alloc (.cells (bkC zB).toArray 54)):=(uur _ w).alloc _;have hg1:(w.alloc (.cells (bkC zB).toArray 54)).heap[w.heap.size]?=some (.cells (bkC zB).toArray 54):=zc _ _ rfl;have hs1:(w.alloc (.cells (bkC zB).toArray 54)).heap.size=w.heap.size+1:=oe;generalize w.alloc (.cells (bkC zB).toArray 54)=w1 at*;obtain⟨hd0,hn⟩:=H.o;obtain⟨hSb,hlb⟩:=hd0.sb;have hd1:Dv (fun j=>(S j/\j<w.heap.size)\/w.heap.size+1<=j) w1 b F O P:=(hd0.kH (fun j hj hl=> .inl ⟨hj,hl⟩)).keep hu1 (fun _ _ h=>h);have hS':∀j,((S j/\j<w.heap.size)\/w.heap.size+1<=j)->S j:=by
  rintro j (⟨h,-⟩|h)
  .exact h
  .exact hn j oM
 have HX:=Y7 hd1 hu1 hg1 hs1 hS' hSb hlb;clear hd1 hu1 hg1 hs1 hS' hSb hlb hd0 hn;refine(zbE HX.o.1 s).mono ?_;rintro e w4 ⟨rfl,rfl⟩;by_cases hz:hasC F.length s=0
 .have HZ:=qqh hz;rw[hz];clear hz;go_wp2_with fail
  refine(Qd HX.o.1 19 128 #[] (fun W=>Dv (fun j=>(S j/\j<w.heap.size)\/w.heap.size+1<=j) W b F O P.tail/\Upd (fun j=>j=b) w4 W) (fun _ _=>rfl) ?_).mono ?_
  .intro h0 w1 hd1 hu1;refine(Ao w1).mono ?_;rintro e w' ⟨rfl,rfl⟩;exact⟨rfl,hd1,hu1⟩
  .obtain ⟨hd1,hu1,hg1,hs1,hS',hSb,hlb⟩:=HX.o;rintro e w5 h5;have H5:Hid (Dv (fun j=>(S j/\j<w.heap.size)\/w.heap.size+1<=j) w5 b F O P.tail/\Upd (fun j=>j=b) w4 w5):=by
    rcases h5 with⟨-,-,a,b⟩|⟨-,-,a,b⟩|⟨-,-,-,a,b⟩<;>exact⟨a,b⟩
   have hth:w5.there w.heap.size 0 64:=fun j hj=>by
    have hg5:=(H5.o.2.block w.heap.size oM oM).trans hg1;rw[za hg5,zg hg5];exact⟨by rw[qYe,qxe (by simp[zo,zK];omega)];rfl,rfl⟩
   have hlow:Hid (Upd S w w5):=(hu1.mono fE).trans (H5.o.2.mono (fun j _ e=>e▸hSb));have hw5:=H5.o.2.size;clear hd1 hu1 hg1;have h6:(fate P=1/\e=.returned (.int .i64 19))\/(fate P≠1/\e=.returned (.int .i64 0)):=by
    rcases h5 with⟨h1,rfl,-,-⟩|⟨h0,rfl,-,-⟩|⟨h0,h1,rfl,-,-⟩
    .exact .inl ⟨h1,rfl⟩
    .exact .inr ⟨oM,rfl⟩
    .exact .inr ⟨h1,rfl⟩
   clear h5;rcases h6 with⟨h1,rfl⟩|⟨h1,rfl⟩
   .have H1:=qqh h1;clear h1 hs1 hS' hSb hlb hw5;go_wp2_with (first
     |(refine qZi rfl _ _ _ rfl _ _ (bkC zB).toArray rfl rfl (by rw[zp _ zK];exact hth) (by rw[zp _ zK];exact zP) (qYu (zx _)) ?_)
     |fail)
    rw[qxr];refine qYw (zt rfl _ _ w.heap.size 0 (bkC zB) _ rfl (qYr _ _ _ _ (by rw[zo,zK];exact hth)) underlying54 rfl (zw zB zK)) rfl (.inr (.inl ⟨HZ.o,H1.o,rfl,?_,?_⟩))
    .exact (H5.o.1.keep (zq _ _ _ _) (by rintro j (⟨-,h⟩|h) e<;>omega)).wide (by obtain⟨-,-,-,-,hS',-⟩:=HX.o;exact hS')
    .exact hlow.out.trans ((zq _ _ _ _).mono (fun j _ e=>e▸H.o.2 _ (qXv _)))
   .have H1:=qqh h1;clear h1;obtain⟨n,rfl⟩:∃n:Nat,s=n:=⟨s.toNat,(uQ HZ.o).1.symm⟩
    have hsn:=(uQ HZ.o).2;rw[qxu]at hsn;obtain⟨vf,vo,vp,hd5,hS5⟩:=H5.o.1;obtain⟨gF,oF,cF,rfl,hgF,hcF,rF,tF⟩:=hd5.kL hsn;obtain⟨ao,co,rfl⟩:=hd5.os.rd.j7;obtain⟨e0,e1,e2⟩:=hd5.c;have hfl:=hd5.good.fl;have hol:=hd5.good.ol;have hx:(F[n]).length=64:=hd5.good.f64 _ (qyz hsn);have hua:Upd (fun _=>False) w5 (w5.alloc (.cells (bkC F[n]).toArray 54)):=(uur _ _).alloc _;have hd6:=hd5.new hua;have hg6:=zc w5 (.cells (bkC F[n]).toArray 54) rfl;have hth6:=qYt hth (.cells (bkC F[n]).toArray 54);have e16:=hd6.c.2.1;have hb1:0<=(n:Int)/\(n:Int)<F.length:=⟨oM,oM⟩
    have hse:Hid ((bkC F[n]).length=64):=by show _=_;rw[zo,hx]
    have hse2:Hid (F[n].length=64):=hx;have HD:=Y10 hd6 hS5 hua hg6 hth6 hw5 hs1 hS' hSb hlb;clear hd5 hS5 hx tF hgF hcF hd6 hua hg6 hth6 hw5 hs1 hS' hSb hlb hth;obtain⟨hb1,hb2⟩:=hb1;go_wp2_with (first
     |(refine qZg rfl _ _ rfl _ _ rfl _ _ rF underlying54 rfl (zw _ hse2.out) ?_)
     |(refine zl rfl _ _ _ rfl _ _ _ rfl rfl hse.out.symm (zw _ hse2.out) (zx _) ?_)
     |fail)
    clear e0 e1 e2 rF;generalize w5.alloc (.cells (bkC F[n]).toArray 54)=w6 at*
    go_step3
    go_wp2
    go_loop [9] (fun i=>∃k:Nat,k<=O.length/\i=.int .i64 ((k:Int)-1)/\∀p∈O.drop k,p.1≠n) (fun i=>(intOf i+1).toNat)
    case atStart=>exact⟨O.length,qXv _,rfl,oe⟩
    case round=>
     obtain⟨k,hk,rfl,hno⟩:=hrel;have HN:Hid (∀p∈O.drop k,p.1≠n):=hno;clear hno;cases k with
     |zero=>
      obtain⟨hd6,hS5,hua,hg6,hth6,hw5,hs1,hS',hSb,hlb⟩:=HD.o;have r6:=zh hg6;have hzero:Hid (curB F O n=F[n]):=Uz hsn (by have:=HN.o;simpa using this);have hst:w6.there w.heap.size 0 (bkC F[n]).toArray.size:=by rw[zp _ hse2.out];exact hth6
      have hsz2:(prog.info? 54).map (·.size)=some (bkC F[n]).toArray.size:=by rw[zp _ hse2.out];exact zP
      have HST:=Y2 hst hsz2;clear hd6 hS5 hua hg6 hs1 hS' hSb hlb hst hsz2;simp only[Int.natCast_zero];go_wp2_with (first
       |(refine qZg rfl _ _ rfl _ _ rfl _ _ r6 underlying54 rfl (zw _ hse2.out) ?_)
       |(refine qZi rfl _ _ _ rfl _ _ (bkC F[n]).toArray rfl rfl HST.o.1 HST.o.2 (qYu (zx _)) ?_)
       |fail)
      try rw[qxr]
      refine qYw (zt rfl _ _ w.heap.size 0 (bkC F[n]) _ rfl (qYr _ _ _ _ (by rw[hse.out];exact hth6)) underlying54 rfl (zw _ hse2.out)) rfl (.inr (.inr ⟨HZ.o,H1.o,by rw[qxu,hzero.out];rfl,?_,?_⟩))
      .obtain ⟨hd6,hS5,hua,hg6,hth6,hw5,hs1,hS',hSb,hlb⟩:=HD.o;exact(Dv.keep ⟨_,_,_,hd6,hS5⟩ (zq _ _ _ _) (by rintro j (⟨-,h⟩|h) e<;>omega)).wide hS'
      .obtain ⟨hd6,hS5,hua,hg6,hth6,hw5,hs1,hS',hSb,hlb⟩:=HD.o;exact(hlow.out.trans (hua.mono fE)).trans ((zq _ _ _ _).mono (fun j _ e=>e▸H.o.2 _ (qXv _)))
     |succ k=>
      have hlt:k<O.length:=oM;have ek:((k+1:Nat):Int)-1=(k:Int):=oM;rw[ek];clear ek;obtain⟨hd6,hS5,hua,hg6,hth6,hw5,hs1,hS',hSb,hlb⟩:=HD.o;obtain⟨gO,oO,cO,e2,hgO,hcO,rO⟩:=hd6.opRange hlt;obtain⟨rfl,rfl⟩:ao=some ⟨gO,oO,none⟩/\co=cO:=by injection e2 with e1 _ e2;exact⟨e1,e2⟩
      clear e2;obtain⟨s',x',hO⟩:∃s x,O[k]=(s,x):=⟨_,_,rfl⟩
      have hx':x'.length=64:=by have:=(hd6.good.o64 O[k] (qyz hlt)).1;rw[hO]at this;exact this
      rw[hO]at rO;have HO:=qqh hO;clear hO;have c0:=rO 0 _ rfl;have r1:w6.rangeAt gO (oO+k*65+1) (bkC x'):=fun j v hv=>by
       have:=rO (1+j) v jv;rw[<-qXr]at this;exact this
      rw[qXs]at c0;have hO1:0<=(k:Int)/\(k:Int)<O.length:=⟨oM,oM⟩
      clear hd6 hS5 hua hw5 hs1 hS' hSb hlb rO hgO hcO;by_cases heq:s'=n
      .subst heq;have hcur:Hid (curB F O s'=x'):=by
        have:=Qj hlt hsn (by rw[HO.o]) HN.o;rw[HO.o]at this;exact this
       obtain⟨gx,hgx⟩:∃g,g=w5.heap.size:=⟨_,rfl⟩
       have hst6:w6.there w5.heap.size 0 (bkC x').toArray.size:=by
        rw[zp _ hx'];intro j hj;rw[za hg6,zg hg6];exact⟨by rw[qYe,qxe (by rw[zp _ hse2.out];exact hj)];rfl,rfl⟩
       have hsz2:(prog.info? 54).map (·.size)=some (bkC x').toArray.size:=by rw[zp _ hx'];exact zP
       have h7:(w6.setCells w5.heap.size 0 (bkC x')).rangeAt w5.heap.size 0 (bkC x'):=qYr _ _ _ _ (by rw[zp _ hx']at hst6;rw[zo,hx'];exact hst6);have hth7:(w6.setCells w5.heap.size 0 (bkC x')).there w.heap.size 0 (bkC x').toArray.size:=by rw[zp _ hx'];exact World.there_setCells hth6 _ _ _
       have HST:=Y5 hst6 hsz2 h7 hth7 hx';clear hst6 hsz2 h7 hth7 hgx hx';go_wp2_with (first
        |(refine qZg rfl _ _ rfl _ _ rfl _ _ r1 underlying54 rfl (zw _ HST.o.2.2.2.2) ?_)
        |(refine qZg rfl _ _ rfl _ _ rfl _ _ HST.o.2.2.1 underlying54 rfl (zw _ HST.o.2.2.2.2) ?_)
        |(refine qZi rfl _ _ _ rfl _ _ (bkC x').toArray rfl rfl HST.o.1 HST.o.2.1 (qYu (zx _)) ?_)
        |(refine qZi rfl _ _ _ rfl _ _ (bkC x').toArray rfl rfl HST.o.2.2.2.1 HST.o.2.1 (qYu (zx _)) ?_)
        |fail)
       have hth8:(w6.setCells w5.heap.size 0 (bkC x')).there w.heap.size 0 (bkC x').length:=by rw[zo,HST.o.2.2.2.2];exact World.there_setCells hth6 _ _ _
       refine qYw (zt rfl _ _ w.heap.size 0 (bkC x') _ rfl (qYr _ _ _ _ hth8) underlying54 rfl (zw _ HST.o.2.2.2.2)) rfl (.inr (.inr ⟨HZ.o,H1.o,by rw[qxu,hcur.out];rfl,?_,?_⟩))
       .obtain ⟨hd6,hS5,hua,hg6,hth6,hw5,hs1,hS',hSb,hlb⟩:=HD.o;have hv:Dv (fun j=>((S j/\j<w.heap.size)\/w.heap.size+1<=j)/\j<w5.heap.size) w6 b F O P.tail:=(H5.o.1.kH (fun j hj hl=>⟨hj,hl⟩)).keep hua (fun _ _ h=>h);exact((hv.keep (zq _ _ _ _) (by rintro j ⟨-,h2⟩ e;omega)).keep (zq _ _ _ _) (by rintro j ⟨⟨-,h⟩|h,h2⟩ e<;>omega)).wide (fun j hj=>hS' j hj.1)
       .obtain ⟨hd6,hS5,hua,hg6,hth6,hw5,hs1,hS',hSb,hlb⟩:=HD.o;exact((hlow.out.trans (hua.mono fE)).trans ((zq _ _ _ _).mono (fun j _ e=>e▸H.o.2 _ oM))).trans ((zq _ _ _ _).mono (fun j _ e=>e▸H.o.2 _ (qXv _)))
      .have hq:((s':Int)==(n:Int))=false:=by simpa using(fun e:(s':Int)=n=>heq oM)
       have hHN:Hid (∀p∈O.drop k,p.1≠n):=by
        intro p hp;rw[qyb hlt]at hp;rcases qzr.1 hp with rfl|hp
        .rw [HO.o];exact heq
        .exact HN.o p hp
       clear heq;go_wp2
       go_round
       case rel=>exact⟨k,oM,rfl,hHN.out⟩
       case measure=>simp[intOf]
 .have HZ:=qqh hz;have hz':(hasC F.length s==0)=false:=by simpa using hz
  have hz2:(hasC F.length s !=0)=true:=by simpa using hz
  obtain⟨hd1,hu1,hg1,hs1,hS',hSb,hlb⟩:=HX.o;have hth:w4.there w.heap.size 0 64:=fun j hj=>by
   rw[za hg1,zg hg1];exact⟨by rw[qYe,qxe (by simp[zo,zK];omega)];rfl,rfl⟩
  clear hd1 hu1 hg1 hs1 hS' hSb hlb hz;go_wp2_with (first
    |(refine qZi rfl _ _ _ rfl _ _ (bkC zB).toArray rfl rfl (by rw[zp _ zK];exact hth) (by rw[zp _ zK];exact zP) (qYu (zx _)) ?_)
    |fail)
  rw[qxr];refine qYw (zt rfl _ _ w.heap.size 0 (bkC zB) _ rfl (qYr _ _ _ _ (by rw[zo,zK];exact hth)) underlying54 rfl (zw zB zK)) rfl (.inl ⟨HZ.o,rfl,?_,?_⟩)
  .exact (HX.o.1.keep (zq _ _ _ _) (by rintro j (⟨-,h⟩|h) e<;>omega)).wide (by obtain⟨-,-,-,-,hS',-⟩:=HX.o;exact hS')
  .exact (HX.o.2.1.mono fE).trans ((zq _ _ _ _).mono (fun j _ e=>e▸H.o.2 _ (qXv _)))
structure DRes where
 F:List Bk
 O:List (Nat×Bk)
 P:List Int
 cd:Int
def SX(S:Nat->Prop)(w:World)(b:Nat)(r:DRes)(e:Ending)(w':World):Prop:=e=.returned (.int .i64 r.cd)/\Dv S w' b r.F r.O r.P/\Upd S w w'
def flushR(F:List Bk)(O:List (Nat×Bk))(P:List Int):DRes:=
 if fate P=1 then⟨F,O,P.tail,21⟩else if fate P=0 then⟨flushF F O,[],P.tail,0⟩else ⟨F,O,P.tail,0⟩
def writeR(F:List Bk)(O:List (Nat×Bk))(P:List Int)(s:Nat)(y:Bk):DRes:=
 if fate P=1 then⟨F,O,P.tail,20⟩else if fate P=0 then⟨F,O++[(s,y)],P.tail,0⟩else ⟨F,O,P.tail,0⟩
theorem Vn{n s:Nat}(h:s<n):hasC n (s:Int)=0:=if_neg oM
theorem xo{S:Nat->Prop}{w:World}{b:Nat}{F:List Bk}{O:List (Nat×Bk)}{P:List Int}(h:Dv S w b F O P)(hn:∀j,w.heap.size<=j->S j):
  Calls prog 46 #[.pointer (some ⟨b,0,none⟩)] w (SX S w b (flushR F O P)):=
 (Am h hn).mono fun e w' h=>by
  rcases h with⟨h1,rfl,hd,hu⟩|⟨h1,rfl,hd,hu⟩|⟨h1,h2,rfl,hd,hu⟩
  .rw [flushR,if_pos h1];exact⟨rfl,hd,hu⟩
  .rw [flushR,if_neg oM,if_pos h1];exact⟨rfl,hd,hu⟩
  .rw [flushR,if_neg h2,if_neg h1];exact⟨rfl,hd,hu⟩
theorem wi{S:Nat->Prop}{w:World}{b:Nat}{F:List Bk}{O:List (Nat×Bk)}{P:List Int}(h:Dv S w b F O P)(hn:∀j,w.heap.size<=j->S j)(s:Nat)(hs:s<F.length)(x:Bk)(hx:x.length=64)(hO:O.length<65536):
  Calls prog 18 #[.pointer (some ⟨b,0,none⟩),.int .i64 (s:Int),.agg (bkC x).toArray] w (SX S w b (writeR F O P s x)):=
 (Al h hn s x hx hO).mono fun e w' h=>by
  have h0:=Vn hs;rcases h with⟨h1,-⟩|⟨-,h1,rfl,hd,hu⟩|⟨-,h1,rfl,hd,hu⟩|⟨-,h1,h2,rfl,hd,hu⟩
  .exact absurd h0 h1
  .rw [writeR,if_pos h1];exact⟨rfl,hd,hu⟩
  .rw [writeR,if_neg oM,if_pos h1];rw[qxu]at hd;exact⟨rfl,hd,hu⟩
  .rw [writeR,if_neg h2,if_neg h1];exact⟨rfl,hd,hu⟩
def Jd(S:Nat->Prop)(w:World)(b:Nat)(F:List Bk)(O:List (Nat×Bk))(P:List Int)(s:Nat)(e:Ending)(w':World):Prop:=
 ∃(y:Bk) (cd:Int),e=.returned (.tuple #[.agg (bkC y).toArray,.int .i64 cd])/\y=(if fate P=1 then zB else curB F O s)/\cd=(if fate P=1 then 19 else 0)/\y.length=64/\Dv S w' b F O P.tail/\Upd S w w'
theorem vT{S:Nat->Prop}{w:World}{b:Nat}{F:List Bk}{O:List (Nat×Bk)}{P:List Int}(h:Dv S w b F O P)(hn:∀j,w.heap.size<=j->S j)(s:Nat)(hs:s<F.length):
  Calls prog 67 #[.pointer (some ⟨b,0,none⟩),.int .i64 (s:Int)] w (Jd S w b F O P s):=
 (zbG h hn s).mono fun e w' h'=>by
  have h0:=Vn hs;rcases h' with⟨h1,-⟩|⟨-,h1,rfl,hd,hu⟩|⟨-,h1,rfl,hd,hu⟩
  .exact absurd h0 h1
  .exact ⟨zB,19,rfl,(if_pos h1).symm,(if_pos h1).symm,zK,hd,hu⟩
  .exact ⟨curB F O s,0,rfl,(if_neg h1).symm,(if_neg h1).symm,qv h.good s,hd,hu⟩
theorem Dv.but{S:Nat->Prop}{w:World}{b:Nat}{F:List Bk}{O:List (Nat×Bk)}{P:List Int}(h:Dv S w b F O P){q:Nat}(hq:w.heap.size<=q):Dv (fun j=>S j/\j≠q) w b F O P:=
 h.kH (fun j hj hl=>⟨hj,oM⟩)
end Go.Proofs.YtfhfbpmlnjdfoaaGreatDoor
