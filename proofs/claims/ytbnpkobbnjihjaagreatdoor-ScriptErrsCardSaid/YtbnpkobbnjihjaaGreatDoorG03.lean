/- 'slices.Repeat -/
import Derived.Test.YtbnpkobbnjihjaaGreatDoorG01
import Derived.Laws.CopyRow
import Derived.Shelf.Bits.Mul64
import Derived.Defers
import Derived.Recover
set_option maxRecDepth 100000
namespace Go.Proofs.YtbnpkobbnjihjaaGreatDoor
open Go Go.RowKit Tryz
variable{l:List Int}{w:World}
theorem zeV(x y:Nat)(hx:x<18446744073709551616)(hy:y<18446744073709551616)(w:World):
  Calls prog 327 #[.int .u64 x,.int .u64 y] w fun e w'=>e=.returned (.tuple #[.int .u64 ((x*y/18446744073709551616:Nat):Int),.int .u64 ((x*y%18446744073709551616:Nat):Int)])/\w'=w:=by
 obtain⟨n,j,bw,p⟩:=Lib.mul64_hi x y hx hy;have E:=Lib.half_mul_le (a:=x/4294967296) (b:=y/4294967296) oM oM;have F:=Lib.half_mul_le (a:=x/4294967296) (b:=y%4294967296) oM oM;have G:=Lib.half_mul_le (a:=x%4294967296) (b:=y/4294967296) oM oM;have q:x/4294967296*(y/4294967296)<18446744073709551616:=oM;have s:x/4294967296*(y%4294967296)<18446744073709551616:=oM;have v:x%4294967296*(y/4294967296)<18446744073709551616:=oM;have A:x/4294967296*(y/4294967296)+(x/4294967296*(y%4294967296)+x%4294967296*(y%4294967296)/4294967296)/4294967296<18446744073709551616:=oM;have D:x/4294967296*(y/4294967296)+(x/4294967296*(y%4294967296)+x%4294967296*(y%4294967296)/4294967296)/4294967296+((x/4294967296*(y%4294967296)+x%4294967296*(y%4294967296)/4294967296)%4294967296+x%4294967296*(y/4294967296))/4294967296<18446744073709551616:=oM;go_enter func327,ntmps327
 go_wp2
 simp only[Mul64.maskN x hx,Mul64.maskN y hy,Mul64.divN,Mul64.mulN,Mul64.addN,Mul64.wrapN _ n,Mul64.wrapN _ s,Mul64.wrapN _ j,Mul64.maskN _ j,Mul64.wrapN _ v,Mul64.wrapN _ bw,Mul64.wrapN _ q,Mul64.wrapN _ A,Mul64.wrapN _ D,Mul64.wrapM (x*y)];rw[p];go_ret2
 exact⟨rfl,rfl⟩
theorem mul(x y:Nat)(hx:x<18446744073709551616)(hy:y<18446744073709551616)(w:World):
  Calls prog 244 #[.int .u64 x,.int .u64 y] w fun e w'=>e=.returned (.tuple #[.int .u64 ((x*y/18446744073709551616:Nat):Int),.int .u64 ((x*y%18446744073709551616:Nat):Int)])/\w'=w:=by
 go_enter func244,ntmps244
 go_wp2_with fail
 refine(zeV x y hx hy w).mono ?_;rintro e w' ⟨rfl,rfl⟩;go_wp2
 go_ret2
 exact⟨rfl,rfl⟩
section
variable{P:Program}
theorem sA(w:World)(s E F j:TypeId)(k g o n G:Nat)(a:Addr)(p H:Nat)(b:Array Value)(t:TypeId)(cs:List Value)
  (J:P.underlying s=some (.slice j)) (v:(P.info? j).map (·.size)=some k)
  (K:w.heap[g]?=some (.cells b t (0,0))) (L:cs.length=Nat.min p n*k)
  (M:∀A h,cs[A]?=some h->w.cell? (a.add A)=some h) (N:o+cs.length<=b.size) (h1:∀h∈cs,h.oneCell'=true):
  (Builtin.copy_ #[s,E] F #[.slice (some ⟨g,o,none⟩) n G,.slice (some a) p H]).run P w=
   .ok (goInt (Nat.min p n:Nat)) (w.setRow g (b.toList.take o++cs++b.toList.drop (o+cs.length)).toArray):=by
 have D:=run_loadCells_list (P:=P) w a cs M;have O:=run_storeCells_at P g o t cs 0 b w K (by simpa using N) h1;cases q:P.info? j with
 |none=>simp[q]at v
 |some i=>
  have Q:i.size=k:=by simpa[q]using v
  rw[L]at D;simp[Builtin.copy_,run_underlying J,Builtin.lenOf,Builtin.firstCells,sizeOf,typeInfo,q,Q,D,O]
theorem tu(w:World)(q A s:TypeId)(k g o h D:Nat)(a:Addr)(j E:Nat)(b:Array Value)(t:TypeId)(cs:List Value)
  (G:P.underlying q=some (.slice s)) (H:(P.info? s).map (·.size)=some k)
  (F:w.heap[g]?=some (.cells b t (0,0))) (J:cs.length=Nat.min j h*k)
  (K:∀n p,cs[n]?=some p->w.cell? (a.add n)=some p) (L:o+cs.length<=b.size) (h1:∀p∈cs,p.oneCell'=true):
  ∃w',(∀v,(Builtin.copy_ #[q,A] v #[.slice (some ⟨g,o,none⟩) h D,.slice (some a) j E]).run P w=.ok (goInt (Nat.min j h:Nat)) w')/\
   w'.heap[g]?=some (.cells (b.toList.take o++(cs++b.toList.drop (o+cs.length))).toArray t (0,0))/\Upd (fun n=>n=g) w w'/\w'.heap.size=w.heap.size:=
 ⟨_,fun v=>sA w q A v s k g o h D a j E b t cs G H F J K L h1,by rw[<-qxv];exact setRow_heap w g b _ t _ F,⟨rfl,rfl,rfl,by simp[World.setRow],fun k _ M=>setRow_other w g k _ (fun e=>M e)⟩,by simp[World.setRow]⟩
end
def noPl(n:Nat):List Value:=(List.replicate n ()).flatMap fun _=>[.int .i64 (-1),.bool false]
theorem yK(n:Nat):(noPl n).length=n*2:=by
 have:=xJ (f:=fun _:Unit=>[Value.int .i64 (-1),Value.bool false]) (k:=2) (fun _=>rfl) (List.replicate n ());rw[qzd]at this;exact this
theorem qO(a b:Nat):noPl (a+b)=noPl a++noPl b:=by
 simp only[noPl];rw[<-List.replicate_append_replicate,qyd]
theorem TL:(prog.info? 231).map (fun i=>(i.zero,i.size,i.bytes))=some (some (.agg #[.int .i64 0,.bool false]),2,16):=kR
theorem TM(n:Nat)(j:Nat)(w:World)(h1:1<=n)(h2:n<=4096)(hx:w.heap[j]?=some (.cells #[.int .i64 (-1),.bool false] 231)):
  Calls prog 183 #[.slice (some ⟨j,0,none⟩) 1 1,.int .i64 n] w fun e w'=>e=.returned (.slice (some ⟨w.heap.size,0,none⟩) n n)/\
   w'.heap[w.heap.size]?=some (.cells (noPl n).toArray 231)/\Below w.heap.size w w'/\w'.heap.size=w.heap.size+1:=by
 obtain⟨ae,M,N,O,hz2⟩:=qYu TL;have Q:∀w:World,∃zs:List Value,zs.length=n*2/\(Instr.makeSlice 286 (.int .i64 n) (.int .i64 n)).run prog w=.ok (.slice (some ⟨w.heap.size,0,none⟩) n n) (w.alloc (.cells zs.toArray 231)):=by
  intro w;have:=run_make (P:=prog) w 286 231 ae (.agg #[.int .i64 0,.bool false]) underlying286 M N .i64 .i64 n n oM oM jm oM;refine⟨(madeCells #[.int .i64 0,.bool false] (n*2)).toList,by simp[size_madeCells],?_⟩;rw[this];simp[O,Value.cells]
 obtain⟨zs,ar,S⟩:=Q w;have au:¬(n:Int)<0:=oM;clear M N O hz2 Q;go_enter func183,ntmps183
 go_wp2_with fail
 refine(mul 1 n de oM _).mono ?_;rintro e w' ⟨rfl,rfl⟩;rw[show 1*n/18446744073709551616=0 by omega,show 1*n%18446744073709551616=n by omega];have af:=zd hx;have T:(w'.alloc (.cells zs.toArray 231)).heap[w'.heap.size]?=some (.cells zs.toArray 231):=zc _ _ rfl;have U:(w'.alloc (.cells zs.toArray 231)).heap[j]?=some (.cells #[.int .i64 (-1),.bool false] 231):=(qxk _ _ _ af).trans hx;have V:(prog.info? 231).map (·.size)=some 2:=kR;have ag:=qqh T;have W:=qqh U;have ah:=qqh S;clear T U hx;have X:Nat.min 1 n=1:=Nat.min_eq_left h1;have A:([.int .i64 (-1),.bool false]:List Value).length=Nat.min 1 n*2:=by rw[X];rfl
 have D:∀(b:Nat) (p:Value),([.int .i64 (-1),.bool false]:List Value)[b]?=some p->(w'.alloc (.cells zs.toArray 231)).cell? ((⟨j,0,none⟩:Addr).add b)=some p:=fun b p E=>by rw[qxa,za W.o];simpa using E
 have Y:0+([.int .i64 (-1),.bool false]:List Value).length<=zs.toArray.size:=by simp;omega
 obtain⟨w2,F,Z,a6,hz2⟩:=tu (P:=prog) (w'.alloc (.cells zs.toArray 231)) 286 286 231 2 w'.heap.size 0 n n ⟨j,0,none⟩ 1 1 zs.toArray 231 [.int .i64 (-1),.bool false] underlying286 V ag.o A D Y jf;rw[X]at F;clear A D Y;have a7:w2.heap[w'.heap.size]?=some (.cells (noPl 1++zs.drop 2).toArray 231):=by rw[Z];rfl
 have a8:Below w'.heap.size w' w2:=zj ((qxl _ _).alloc (qXp _) _) a6 (qXp _) (fun b e=>oM);have aa:w2.heap.size=w'.heap.size+1:=by rw[hz2];simp
 clear Z a6 hz2;go_wp2
 clear F W ah S;go_loopg[8] (n-1) (fun ai i wr=>∃(k:Nat) (rest:List Value),1<=k/\k<=n/\ai=n-k/\i=.int .i64 k/\rest.length=(n-k)*2/\wr.heap[w'.heap.size]?=some (.cells (noPl k++rest).toArray 231)/\Below w'.heap.size w' wr/\wr.heap.size=w'.heap.size+1)
 case atStart=>exact⟨1,zs.drop 2,oM,h1,rfl,rfl,by simp;omega,a7,a8,aa⟩
 case round=>
  clear a7 a8 aa;obtain⟨k,rest,aj,av,rfl,rfl,ak,q,G,H⟩:=hrel;by_cases hlt:k<n
  .have J:noPl k=noPl (Nat.min k (n-k))++noPl (k-Nat.min k (n-k)):=by rw[<-qO];congr 1;have:=Nat.min_le_left k (n-k);show k=min k (n-k)+_;have:min k (n-k)<=k:=Nat.min_le_left _ _;show k=min k (n-k)+(k-min k (n-k));omega
   obtain⟨K,F,L,ab,ad⟩:=tu (P:=prog) wr.drew 286 286 231 2 w'.heap.size (k*2) (n-k) (n-k) ⟨w'.heap.size,0,none⟩ k n (noPl k++rest).toArray 231 (noPl (Nat.min k (n-k))) underlying286 V q (by rw[yK])
    (fun b p E=>by
     rw[qxa,za (w:=wr.drew) q];have am:=(qyl.1 E).1;rw[J];simp only[qyq,qXy,qxv];rw[qyg am];exact E)
    (by rw[yK];simp only[qXh,qyy,yK,ak];have:Nat.min k (n-k)<=n-k:=Nat.min_le_right _ _;omega) (by intro p s;simp only[noPl,qzp]at s;obtain⟨_,_,s⟩:=s;simp at s;rcases s with rfl|rfl<;>simp[Value.oneCell'])
   go_wp2
   go_region
   obtain⟨c,v⟩:=qqe (Nat.min k (n-k));rw[<-v]at J L;have aw:1<=c:=by rw[v];exact Nat.le_min.2 ⟨aj,oM⟩
   have ax:c<=n-k:=by rw[v];exact Nat.min_le_right _ _
   have an:K.heap[w'.heap.size]?=some (.cells (noPl (k+c)++rest.drop (c*2)).toArray 231):=by
    rw[L,qO];have A:(noPl k++rest).toArray.toList.take (k*2)=noPl k:=by simp[yK]
    have D:(noPl k++rest).toArray.toList.drop (k*2+(noPl c).length)=rest.drop (c*2):=by
     rw[yK];show(noPl k++rest).drop (k*2+c*2)=_;rw[List.drop_append,yK,List.drop_eq_nil_of_le (by rw[yK];omega)];simp
    rw[A,D,qxv]
   have ao:Below w'.heap.size w' K:=zj G (((uur _ wr).drew).trans ab) (qXp _) (fun b e=>oM);have ap:K.heap.size=w'.heap.size+1:=by rw[ad];exact H
   rw[<-v];clear L ab ad q G H F J v;have ay:k+c<=4096:=oM;have aq:∀x:Int,x=(k:Int)+c->wrap64 x=((k+c:Nat):Int):=by intro x hx;subst hx;unfold wrap64;omega
   go_wp2
   go_roundg (n-(k+c))
   case measure=>omega
   case rel=>exact⟨k+c,rest.drop (c*2),oM,oM,rfl,by rw[aq _ rfl],by simp;omega,an,ao,ap⟩
  .obtain rfl:k=n:=oM;obtain rfl:rest=[]:=qyb oM;rw[qxw]at q;go_wp2
   go_ret
   exact⟨rfl,q,G,H⟩
structure Thing(R:(Nat->Prop)->World->Prop):Prop where
 keep:∀{S T:Nat->Prop} {w w':World},R S w->Upd T w w'->(∀j,S j->¬T j)->R S w'
 out:∀{S S':Nat->Prop} {w:World},R S w->(∀j,j<w.heap.size->S j->S' j)->R S' w
def grow(own:Nat->Nat)(t n n':Nat):Nat->Nat:=fun j=>if n<=j/\j<n' then t else own j
theorem zw{own:Nat->Nat}{t n b j:Nat}(h:j<n):grow own t n b j=own j:=if_neg oM
theorem Xc{own:Nat->Nat}{t n b j:Nat}(h:n<=j)(p:j<b):grow own t n b j=t:=if_pos ⟨h,p⟩
structure Did(own own':Nat->Nat)(w w':World):Prop where
 upd:Upd (fun j=>own j≠0/\own j<16) w w'
 old:∀j,j<w.heap.size->own' j=own j
 new:∀j,w.heap.size<=j->own' j<16
 far:∀j,w'.heap.size<=j->own' j=0
section
variable{own own' own2:Nat->Nat}{w w' w2:World}{R:(Nat->Prop)->World->Prop}{t k:Nat}
theorem Did.refl(h:∀b,w.heap.size<=b->own b=0):Did own own w w:=⟨uur _ _,fun _ _=>rfl,fun b j=>by rw[h b j];decide,h⟩
theorem Did.trans(h:Did own own' w w')(g:Did own' own2 w' w2):Did own own2 w w2 where
 upd:=h.upd.new g.upd (fun b j n=>by rw[<-h.old b j];exact n)
 old:=fun b j=>(g.old b (qXs j h.upd.size)).trans (h.old b j)
 new:=fun b j=>by
  by_cases p:b<w'.heap.size
  .rw [g.old b p];exact h.new b j
  .exact g.new b oM
 far:=g.far
theorem Did.drew(h:Did own own' w w'):Did own own' w w'.drew:=⟨h.upd.drew,h.old,h.new,h.far⟩
theorem Did.setCell(h:Did own own' w w')(p:Addr)(b:p.block<w.heap.size->own p.block≠0/\own p.block<16)(u:Value):Did own own' w (w'.setCell p u):=
 ⟨h.upd.setCell p b u,h.old,h.new,fun j hj=>h.far j oz⟩
theorem Did.step(p:∀b,w.heap.size<=b->own b=0)(v:t≠0)(q:t<16)(s:Upd (fun b=>own b=t\/w.heap.size<=b) w w'):Did own (grow own t w.heap.size w'.heap.size) w w' where
 upd:=s.mono (fun b j n=>by rcases n with n|n;exact n▸⟨v,q⟩;omega)
 old:=fun b j=>zw j
 new:=fun b j=>by
  unfold grow;split
  .exact q
  .rw [p b j];decide
 far:=fun b j=>by
  have:=s.size;unfold grow;rw[if_neg oM];exact p b oM
theorem Thing.other(n:Thing R)(q:R (fun b=>own b=k) w)(s:k≠t)(v:Upd (fun b=>own b=t\/w.heap.size<=b) w w'):R (fun b=>grow own t w.heap.size w'.heap.size b=k) w':=by
 have h1:R (fun b=>own b=k/\b<w.heap.size) w:=n.out q (fun b p h=>⟨h,p⟩);have h2:=n.keep h1 v (fun b h j=>by rcases j with j|j;exact s (h.1.symm.trans j);omega);exact n.out h2 (fun b p h=>by rw[zw h.2];exact h.1)
theorem Thing.mine(n:Thing R)(_hu:w.heap.size<=w'.heap.size)(h:R (fun b=>own b=t\/w.heap.size<=b) w'):R (fun b=>grow own t w.heap.size w'.heap.size b=t) w':=
 n.out h (fun b p q=>by
  by_cases j:w.heap.size<=b
  .exact Xc j p
  .rw [zw oM];exact q.resolve_right j)
theorem Thing.open(h:Thing R)(j:R (fun b=>own b=t) w):R (fun b=>own b=t\/w.heap.size<=b) w:=h.out j (fun _ _ n=> .inl n)
theorem Thing.new(h:Thing R){S:Nat->Prop}(b:R S w)(j:Upd (fun _=>False) w w'):R S w':=h.keep b j (fun _ _ b=>b)
end
def idxI(l:List Int)(k:Int):Int:=match l.findIdx? (·==k)with|some i=>(i:Int)|none=> -1
theorem Sa{k:Int}{i:Nat}(j:i<l.length)(n:l[i]=k)(p:∀b (h:b<l.length),b<i->l[b]≠k):idxI l k=i:=by
 unfold idxI;have:l.findIdx? (·==k)=some i:=by
  rw[List.findIdx?_eq_some_iff_getElem];exact⟨j,by simpa using n,fun b q=>by simpa using p b oM q⟩
 rw[this]
theorem sP{k:Int}(h:∀b (n:b<l.length),l[b]≠k):idxI l k= -1:=by
 unfold idxI;have:l.findIdx? (·==k)=none:=by
  rw[List.findIdx?_eq_none_iff];intro x hx;obtain⟨b,j,rfl⟩:=qyv hx;simpa using h b j
 rw[this]
theorem WY{v:Value}(h:Rd w 1 v l.length (ints l))(H:l.length<=4096)(k:Int):
  Calls prog 329 #[v,.int .i64 k] w fun e w'=>e=.returned (.int .i64 (idxI l k))/\w'=w:=by
 have D:=qqh h;obtain⟨J,c,rfl⟩:=h.jW;clear h;go_enter func329,ntmps329
 go_wp2
 go_loopg[8] l.length (fun g i wr=>∃b:Nat,b+g=l.length/\i=.int .i64 b/\(∀m (h:m<l.length),m<b->l[m]≠k)/\wr=w)
 case atStart=>exact⟨0,oM,rfl,fun m h n=>oM,rfl⟩
 case round=>
  obtain⟨b,K,rfl,p,rfl⟩:=hrel;by_cases hlt:b<l.length
  .obtain ⟨g,L,M,E,N,s⟩:=D.o.at oM;cases E;have O:=s b _ (yp hlt);have A:=qqh p;clear s p;by_cases j:l[b]=k
   .have F:(k==l[b])=true:=by simp[j]
    have q:Hid (idxI l k=b):=Sa hlt j A.o;clear j;go_wp2
    go_ret
    exact⟨by rw[q.out];rfl,rfl⟩
   .have F:(k==l[b])=false:=by simp;exact fun e=>j e.symm
    have G:Hid (l[b]≠k):=j;clear j;go_wp2
    go_roundg (gk-1)
    case measure=>omega
    case rel=>exact⟨b+1,oM,by go_num,fun m n Q=>by
     by_cases e:m=b
     .subst e;exact G.out
     .exact A.o m n oM,rfl⟩
  .obtain rfl:b=l.length:=oM;have q:Hid (idxI l k= -1):=sP (fun m n=>p m n n);clear p;go_wp2
   go_ret
   exact⟨by rw[q.out];rfl,rfl⟩
theorem TN(p:Value)(w:World):
  CallsD prog 328 #[p] .returning w fun e b w'=>e=.returned (.tuple #[])/\b=.returning/\w'=w:=by
 refine callsD_of_wpS func328 rfl fun j cs n=>?_;apply wpS_seq;apply wpS_region;simp[wpOpsS,go_sem,recoverD,n,ntmps328,Exit.thenS];refine wpS_cond (t:=false) ou ?_;simp only[Bool.false_eq_true,if_false];refine wpS_of_wp (wp_skip ?_);cases j
 simp_all[bodyPostS,results,results328]
theorem sB(p:Value)(w:World):
  CallsD prog 461 #[p] .returning w fun e b w'=>e=.returned (.tuple #[])/\b=.returning/\w'=w:=by
 refine callsD_of_wpS func461 rfl fun j cs n=>?_;apply wpS_seq;apply wpS_region;simp[wpOpsS,go_sem,recoverD,n,ntmps461,Exit.thenS];refine wpS_cond (t:=false) ou ?_;simp only[Bool.false_eq_true,if_false];refine wpS_of_wp (wp_skip ?_);cases j
 simp_all[bodyPostS,results,results461]
theorem WZ(p:Value)(w:World):
  CallsD prog 436 #[p] .returning w fun e b w'=>e=.returned (.tuple #[])/\b=.returning/\w'=w:=by
 refine callsD_of_wpS func436 rfl fun j cs n=>?_;apply wpS_seq;apply wpS_region;simp[wpOpsS,go_sem,recoverD,n,ntmps436,Exit.thenS];refine wpS_cond (t:=false) ou ?_;simp only[Bool.false_eq_true,if_false];refine wpS_of_wp (wp_skip ?_);cases j
 simp_all[bodyPostS,results,results436]
theorem xo{v:Value}(h:Rd w 1 v l.length (ints l))(b:l.length<=4096)(k:Int):
  Calls prog 250 #[v,.int .i64 k] w fun e w'=>e=.returned (.int .i64 (idxI l k))/\Below w.heap.size w w':=by
 have p:=qqf;have j:=qqh (fun(w1:World) (h1:Rd w1 1 v l.length (ints l))=>WY h1 b k);have n:=qqh h;clear h
 go_enter_defers func250,ntmps250
 go_wp2_with fail
 refine(j.o _ (n.o.keep ((uur (fun _=>False) w).alloc _) (fun _ _ h=>h))).mono ?_;rintro e w1 ⟨rfl,rfl⟩;go_wp2
 refine leaves_cons (f:=328) (args:= #[.pointer (some ⟨w.heap.size,0,none⟩)]) oe jN ?_;refine(TN _ _).mono ?_;rintro e q s ⟨rfl,rfl,rfl⟩;simp[Leaves,settle,results,results250,go_sem];exact(qxl _ _).alloc (qXp _) _
theorem tw{P:Program}{j:Array Oper}{rest:List Oper}{op:Oper}{a:Act}{Q:Exit->Act->World->Prop}(n:Region.wanted op (yielded j a.tmps)=true)(h:TypeId)(x:Operand)(p:op.op=.load h x)
  (b o:Nat) (hx:a.eval x=.pointer (some ⟨b,o,none⟩)) (cs:List Value) (d:TypeDesc) (q:w.rangeAt b o cs)
  (s:P.underlying h=some d) (v:d.isRow=true) (A:(P.info? h).map (·.size)=some cs.length)
  (D:wpList P j Q rest (a.put op.dst (.agg cs.toArray)) w):wpList P j Q (op::rest) a w:=
 wpList_step fun F E=>by rw[if_pos n];exact wp_load_mid h x p b o hx cs d q s v A (E _ _ D)
end Go.Proofs.YtbnpkobbnjihjaaGreatDoor
