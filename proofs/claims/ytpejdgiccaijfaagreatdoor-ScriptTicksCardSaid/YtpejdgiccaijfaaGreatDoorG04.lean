/- What every law -/
import Derived.Test.YtpejdgiccaijfaaGreatDoorG01
import Derived.Deep.Slices
import Derived.Lib.SmallJoins
import Derived.Deep.Strs
import Derived.Laws.CopyRow
import Derived.Shelf.Bits.Mul64
set_option maxRecDepth 100000
namespace Go.Proofs.YtpejdgiccaijfaaGreatDoor
open Go Go.RowKit Tryz
section
open Go.ChangeShapes Go.WideShapes Go.ChangeAt
section
variable{H:Type}{enc:TypeId×Value->H}{P:Program}
theorem Ze(p:laidOutB P=true){W k:World}(q:Below W.heap.size W k):∀(a:List TypeId) (b:List Value) (j:List (DataW H)) (ps:List MemPlace),
  (∀t∈a,P.readableRec t=true/\t<P.types.size)->DataW.TrodAll enc P W 0 (fun _=>true) true a b j ps->(∀x∈ps,x.block<W.heap.size)->
  DataW.TrodAll enc P k 0 (fun s=>decide (s<W.heap.size)) true a b j ps:=by
 intro a
 induction a with
 |nil=>
  intro b j ps _ h _;cases b<;>cases j<;>simp[DataW.TrodAll]at h⊢
  exact h
 |cons t a v=>
  intro b j ps n h hlt;cases b<;>cases j<;>simp only[DataW.TrodAll]at h⊢
  obtain⟨w,A,h1,h2,rfl⟩:=h;obtain⟨D,E⟩:=n t oe;exact⟨w,A,Below.trod p D E h1 q (fun x hx=>hlt x (by simp[hx])),v _ _ _ (fun F G=>n F (by simp[G])) h2 (fun x hx=>hlt x (by simp[hx])),rfl⟩
theorem Sf{f:Func}{s:ChangeSpec}{W j:World}{args:Array Value}{a gs:List (DataW H)}{k:List MemPlace}{T:TypeId}
  (v:laidOutB P=true) (w:f.params.toList.all (fun t=>P.readableRec t&&decide (t<P.types.size))=true)
  (A:f.resultTypes= #[T]) (D:P.underlying T=some .bool) (n:s.vars=[])
  (b:s.fn H (a++gs)={results:=[.lit (.bool true)],args:=a})
  (h:DataW.Whole enc P f.params.toList s.vars false W args.toList a gs k) (p:Below W.heap.size W j):
  s.post enc P f false true false false W args (.bool true) j:=by
 have hlt:∀x∈k,x.block<W.heap.size:=fun x hx=>by simpa using h.lt x hx
 have E:=h;obtain⟨q,F,G,J,rfl,N,O⟩:=h;rw[n]at J;refine⟨a,gs,q++F,[],q,[],E,?_,?_,?_,p.frame _,fun L=>by cases L⟩
 .rw [A,b];exact trodAll_cons_mk (shut_bool D true) trodAll_mk0
 .rw [b];exact Ze v p _ _ _ _ (fun t M=>by have:=qxv.1 w t M;simpa using this) G (fun x hx=>hlt x (by simp[hx]))
 .rw [n,b];rfl
theorem Yi{n:Type}{f:n->List Value}{k:Nat}(h:∀a,(f a).length=k):∀(l:List n) (i j:Nat),j<k->∀a,l[i]?=some a->(l.flatMap f)[i*k+j]?=(f a)[j]?:=by
 intro l
 induction l with
 |nil=>intro i j _ a b;simp at b
 |cons q l s=>
  intro i j p a b;cases i with
  |zero=>simp at b;subst b;rw[qyf,qYa,qXy,qyh (by rw[h];exact p)]
  |succ i=>
   simp at b;have e:(i+1)*k+j-(f q).length=i*k+j:=by rw[h,Nat.add_mul];omega
   rw[qyf,qyi (by rw[h,Nat.add_mul];omega),e];exact s i j p a b
theorem yI{a:Type}{f:a->List Value}{k:Nat}(b:∀h,(f h).length=k)(l:List a):(l.flatMap f).length=l.length*k:=by
 induction l with
 |nil=>simp
 |cons n l j=>rw[qyf,qyz,j,b,qza,Nat.add_mul];omega
theorem Az{j:Type}[Inhabited j](f:j->List Value)(w:j->Prop){k:Nat}(D:∀a,(f a).length=k)(F:0<k){W:World}{base:Nat}{t e:TypeId}{v:Value}{d:DataW H}{p:List MemPlace}(G:P.underlying t=some (.slice e))(T:P.cellsOf e=k)
  (U:∀(n:Nat) (cs:List Value) (x:DataW H×List MemPlace),DataW.trod enc P W 0 (fun _=>true) true n e cs=some x->∃a,cs=f a/\w a)
  (V:Value.okWide P W .any base t v) (h:DataW.Trod enc P W 0 (fun _=>true) true t v d p):
  ∃l:List j,Rd W k v l.length (l.flatMap f)/\∀a∈l,w a:=by
 obtain⟨a0,q,J,rfl⟩:=okWide_slice G V;obtain⟨ad,X⟩:=h;rcases Deep.open_slice G X with⟨s,hx⟩|⟨a,len,ae,m,n,af,Pl,s,_,ag,ah,Y,hx,Z⟩
 .simp only[Value.cells,List.cons.injEq,Value.slice.injEq,and_true]at s;obtain⟨rfl,rfl,rfl⟩:=s;exact⟨[],⟨oe,by simp[maxLen],none,0,rfl,fun _=>rfl,fun a6 E=>by cases E⟩,oe⟩
 .simp only[Value.cells,List.cons.injEq,Value.slice.injEq,and_true]at s;obtain⟨rfl,rfl,rfl⟩:=s;have ai:m=J:=by simpa using Y
  have L:∀i,∃x:j,i<q->W.cells? 0 (a.add (i*k)) k=some (f x)/\w x:=by
   intro i;by_cases hi:i<q
   .obtain ⟨aj,h1,h2⟩:=Z i oM;obtain⟨x,rfl,a7⟩:=U _ _ _ h2;rw[T]at h1;exact⟨x,fun _=>⟨h1,a7⟩⟩
   .exact ⟨default,fun h=>absurd h hi⟩
  have a8:∃g:Nat->j,∀i,i<q->W.cells? 0 (a.add (i*k)) k=some (f (g i))/\w (g i):=⟨fun i=>Classical.choose (L i),fun i=>Classical.choose_spec (L i)⟩
  obtain⟨g,M⟩:=a8;refine⟨(List.range q).map g,⟨yI D _,by simp;omega,some a,J,oe,(fun h=>by cases h),fun a6 E b u A=>?_⟩,?_⟩
  .cases E;have N:=(qym.1 A).1;rw[yI D,qzc,List.length_range]at N;have hi:b/k<q:=(Nat.div_lt_iff_lt_mul F).2 N;have O:b%k<k:=qXu _ F;have Q:b/k*k+b%k=b:=by rw[Nat.mul_comm];exact Nat.div_add_mod b k
   rw[<-Q]at A;rw[Yi D _ (b/k) (b%k) O (g (b/k)) (by simp[hi])]at A;obtain⟨_,_,aa⟩:=World.cells?_some (M _ hi).1;have S:=aa (b%k) O;rw[A]at S;have ab:(a.add (b/k*k)).add (b%k)=a.add b:=by
    have:∀(x y:Nat),(a.add x).add y=a.add (x+y):=by
     intro x y;unfold Addr.add;by_cases h1:x=0<;>by_cases h2:y=0<;>simp[h1,h2,Nat.add_assoc]
    rw[this,Q]
   rw[<-ab];exact S
  .intro x hx;obtain⟨i,hi,rfl⟩:=qzr.1 hx;exact(M i oz).2
end
end
theorem zeE(x y:Nat)(hx:x<18446744073709551616)(hy:y<18446744073709551616)(w:World):
  Calls prog 371 #[.int .u64 x,.int .u64 y] w fun e k=>e=.returned (.tuple #[.int .u64 ((x*y/18446744073709551616:Nat):Int),.int .u64 ((x*y%18446744073709551616:Nat):Int)])/\k=w:=by
 obtain⟨n,j,bw,p⟩:=Lib.mul64_hi x y hx hy;have E:=Lib.half_mul_le (a:=x/4294967296) (b:=y/4294967296) oM oM;have F:=Lib.half_mul_le (a:=x/4294967296) (b:=y%4294967296) oM oM;have G:=Lib.half_mul_le (a:=x%4294967296) (b:=y/4294967296) oM oM;have q:x/4294967296*(y/4294967296)<18446744073709551616:=oM;have s:x/4294967296*(y%4294967296)<18446744073709551616:=oM;have v:x%4294967296*(y/4294967296)<18446744073709551616:=oM;have A:x/4294967296*(y/4294967296)+(x/4294967296*(y%4294967296)+x%4294967296*(y%4294967296)/4294967296)/4294967296<18446744073709551616:=oM;have D:x/4294967296*(y/4294967296)+(x/4294967296*(y%4294967296)+x%4294967296*(y%4294967296)/4294967296)/4294967296+((x/4294967296*(y%4294967296)+x%4294967296*(y%4294967296)/4294967296)%4294967296+x%4294967296*(y/4294967296))/4294967296<18446744073709551616:=oM;go_enter func371,ntmps371
 go_wp2
 simp only[Mul64.maskN x hx,Mul64.maskN y hy,Mul64.divN,Mul64.mulN,Mul64.addN,Mul64.wrapN _ n,Mul64.wrapN _ s,Mul64.wrapN _ j,Mul64.maskN _ j,Mul64.wrapN _ v,Mul64.wrapN _ bw,Mul64.wrapN _ q,Mul64.wrapN _ A,Mul64.wrapN _ D,Mul64.wrapM (x*y)];rw[p];go_ret2
 exact⟨rfl,rfl⟩
theorem mul(x y:Nat)(hx:x<18446744073709551616)(hy:y<18446744073709551616)(w:World):
  Calls prog 281 #[.int .u64 x,.int .u64 y] w fun e a=>e=.returned (.tuple #[.int .u64 ((x*y/18446744073709551616:Nat):Int),.int .u64 ((x*y%18446744073709551616:Nat):Int)])/\a=w:=by
 go_enter func281,ntmps281
 go_wp2_with fail
 refine(zeE x y hx hy w).mono ?_;rintro e a ⟨rfl,rfl⟩;go_wp2
 go_ret2
 exact⟨rfl,rfl⟩
section
variable{P:Program}
theorem Zf(w:World)(s E F j:TypeId)(k g o n G:Nat)(a:Addr)(p J:Nat)(b:Array Value)(t:TypeId)(cs:List Value)
  (hu:P.underlying s=some (.slice j)) (v:(P.info? j).map (·.size)=some k)
  (L:w.heap[g]?=some (.cells b t (0,0))) (M:cs.length=Nat.min p n*k)
  (N:∀A h,cs[A]?=some h->w.cell? (a.add A)=some h) (O:o+cs.length<=b.size) (h1:∀h∈cs,h.oneCell'=true):
  (Builtin.copy_ #[s,E] F #[.slice (some ⟨g,o,none⟩) n G,.slice (some a) p J]).run P w=
   .ok (goInt (Nat.min p n:Nat)) (w.setRow g (b.toList.take o++cs++b.toList.drop (o+cs.length)).toArray):=by
 have D:=run_loadCells_list (P:=P) w a cs N;have Q:=run_storeCells_at P g o t cs 0 b w L (by simpa using O) h1;cases q:P.info? j with
 |none=>simp[q]at v
 |some i=>
  have S:i.size=k:=by simpa[q]using v
  rw[M]at D;simp[Builtin.copy_,run_underlying hu,Builtin.lenOf,Builtin.firstCells,sizeOf,typeInfo,q,S,D,Q]
theorem tQ(w:World)(s D v:TypeId)(k g o h E:Nat)(a:Addr)(j F:Nat)(b:Array Value)(t:TypeId)(cs:List Value)
  (hu:P.underlying s=some (.slice v)) (J:(P.info? v).map (·.size)=some k)
  (G:w.heap[g]?=some (.cells b t (0,0))) (L:cs.length=Nat.min j h*k)
  (M:∀n p,cs[n]?=some p->w.cell? (a.add n)=some p) (N:o+cs.length<=b.size) (h1:∀p∈cs,p.oneCell'=true):
  ∃q,(∀A,(Builtin.copy_ #[s,D] A #[.slice (some ⟨g,o,none⟩) h E,.slice (some a) j F]).run P w=.ok (goInt (Nat.min j h:Nat)) q)/\
   q.heap[g]?=some (.cells (b.toList.take o++(cs++b.toList.drop (o+cs.length))).toArray t (0,0))/\Upd (fun n=>n=g) w q/\q.heap.size=w.heap.size:=
 ⟨_,fun A=>Zf w s D A v k g o h E a j F b t cs hu J G L M N h1,by rw[<-qxw];exact setRow_heap w g b _ t _ G,⟨rfl,rfl,rfl,by simp[World.setRow],fun k _ O=>setRow_other w g k _ (fun e=>O e)⟩,by simp[World.setRow]⟩
end
def noPl(n:Nat):List Value:=(List.replicate n ()).flatMap fun _=>[.int .i64 (-1),.bool false]
theorem yL(n:Nat):(noPl n).length=n*2:=by
 have:=yI (f:=fun _:Unit=>[Value.int .i64 (-1),Value.bool false]) (k:=2) (fun _=>rfl) (List.replicate n ());rw[qze]at this;exact this
theorem rE(a b:Nat):noPl (a+b)=noPl a++noPl b:=by
 simp only[noPl];rw[<-List.replicate_append_replicate,qye]
theorem Qr:(prog.info? 256).map (fun i=>(i.zero,i.size,i.bytes))=some (some (.agg #[.int .i64 0,.bool false]),2,16):=kR
theorem Qs(n:Nat)(k:Nat)(w:World)(h1:1<=n)(h2:n<=4096)(hx:w.heap[k]?=some (.cells #[.int .i64 (-1),.bool false] 256)):
  Calls prog 210 #[.slice (some ⟨k,0,none⟩) 1 1,.int .i64 n] w fun e b=>e=.returned (.slice (some ⟨w.heap.size,0,none⟩) n n)/\
   b.heap[w.heap.size]?=some (.cells (noPl n).toArray 256)/\Below w.heap.size w b/\b.heap.size=w.heap.size+1:=by
 obtain⟨ah,Q,S,T,hz2⟩:=qYt Qr;have U:∀w:World,∃zs:List Value,zs.length=n*2/\(Instr.makeSlice 320 (.int .i64 n) (.int .i64 n)).run prog w=.ok (.slice (some ⟨w.heap.size,0,none⟩) n n) (w.alloc (.cells zs.toArray 256)):=by
  intro w;have:=run_make (P:=prog) w 320 256 ah (.agg #[.int .i64 0,.bool false]) underlying320 Q S .i64 .i64 n n oM oM jK oM;refine⟨(madeCells #[.int .i64 0,.bool false] (n*2)).toList,by simp[size_madeCells],?_⟩;rw[this];simp[T,Value.cells]
 obtain⟨zs,aw,V⟩:=U w;have ax:¬(n:Int)<0:=oM;clear Q S T hz2 U;go_enter func210,ntmps210
 go_wp2_with fail
 refine(mul 1 n de oM _).mono ?_;rintro e b ⟨rfl,rfl⟩;rw[show 1*n/18446744073709551616=0 by omega,show 1*n%18446744073709551616=n by omega];have ai:=zd hx;have W:(b.alloc (.cells zs.toArray 256)).heap[b.heap.size]?=some (.cells zs.toArray 256):=zc _ _ rfl;have X:(b.alloc (.cells zs.toArray 256)).heap[k]?=some (.cells #[.int .i64 (-1),.bool false] 256):=(qxk _ _ _ ai).trans hx;have Y:(prog.info? 256).map (·.size)=some 2:=kR;have aj:=qqh W;have Z:=qqh X;have ak:=qqh V;clear W X hx;have a6:Nat.min 1 n=1:=Nat.min_eq_left h1;have A:([.int .i64 (-1),.bool false]:List Value).length=Nat.min 1 n*2:=by rw[a6];rfl
 have D:∀(j:Nat) (p:Value),([.int .i64 (-1),.bool false]:List Value)[j]?=some p->(b.alloc (.cells zs.toArray 256)).cell? ((⟨k,0,none⟩:Addr).add j)=some p:=fun j p E=>by rw[qxa,za Z.o];simpa using E
 have a7:0+([.int .i64 (-1),.bool false]:List Value).length<=zs.toArray.size:=by simp;omega
 obtain⟨G,F,a8,aa,hz2⟩:=tQ (P:=prog) (b.alloc (.cells zs.toArray 256)) 320 320 256 2 b.heap.size 0 n n ⟨k,0,none⟩ 1 1 zs.toArray 256 [.int .i64 (-1),.bool false] underlying320 Y aj.o A D a7 oK;rw[a6]at F;clear A D a7;have ab:G.heap[b.heap.size]?=some (.cells (noPl 1++zs.drop 2).toArray 256):=by rw[a8];rfl
 have ad:Below b.heap.size b G:=zj ((qxl _ _).alloc (qXp _) _) aa (qXp _) (fun j e=>oM);have ae:G.heap.size=b.heap.size+1:=by rw[hz2];simp
 clear a8 aa hz2;go_wp2
 clear F Z ak V;go_loopg[8] (n-1) (fun am i wr=>∃(a:Nat) (rest:List Value),1<=a/\a<=n/\am=n-a/\i=.int .i64 a/\rest.length=(n-a)*2/\wr.heap[b.heap.size]?=some (.cells (noPl a++rest).toArray 256)/\Below b.heap.size b wr/\wr.heap.size=b.heap.size+1)
 case atStart=>exact⟨1,zs.drop 2,oM,h1,rfl,rfl,by simp;omega,ab,ad,ae⟩
 case round=>
  clear ab ad ae;obtain⟨a,rest,an,ay,rfl,rfl,ao,q,J,L⟩:=hrel;by_cases hlt:a<n
  .have M:noPl a=noPl (Nat.min a (n-a))++noPl (a-Nat.min a (n-a)):=by rw[<-rE];congr 1;have:=Nat.min_le_left a (n-a);show a=min a (n-a)+_;have:min a (n-a)<=a:=Nat.min_le_left _ _;show a=min a (n-a)+(a-min a (n-a));omega
   obtain⟨N,F,O,af,ag⟩:=tQ (P:=prog) wr.drew 320 320 256 2 b.heap.size (a*2) (n-a) (n-a) ⟨b.heap.size,0,none⟩ a n (noPl a++rest).toArray 256 (noPl (Nat.min a (n-a))) underlying320 Y q (by rw[yL])
    (fun j p E=>by
     rw[qxa,za (w:=wr.drew) q];have ap:=(qym.1 E).1;rw[M];simp only[qyr,qXy,qxw];rw[qyh ap];exact E)
    (by rw[yL];simp only[qXi,qyz,yL,ao];have:Nat.min a (n-a)<=n-a:=Nat.min_le_right _ _;omega) (by intro p s;simp only[noPl,qzq]at s;obtain⟨_,_,s⟩:=s;simp at s;rcases s with rfl|rfl<;>simp[Value.oneCell'])
   go_wp2
   go_region
   obtain⟨c,v⟩:=qqe (Nat.min a (n-a));rw[<-v]at M O;have az:1<=c:=by rw[v];exact Nat.le_min.2 ⟨an,oM⟩
   have aA:c<=n-a:=by rw[v];exact Nat.min_le_right _ _
   have aq:N.heap[b.heap.size]?=some (.cells (noPl (a+c)++rest.drop (c*2)).toArray 256):=by
    rw[O,rE];have A:(noPl a++rest).toArray.toList.take (a*2)=noPl a:=by simp[yL]
    have D:(noPl a++rest).toArray.toList.drop (a*2+(noPl c).length)=rest.drop (c*2):=by
     rw[yL];show(noPl a++rest).drop (a*2+c*2)=_;rw[List.drop_append,yL,List.drop_eq_nil_of_le (by rw[yL];omega)];simp
    rw[A,D,qxw]
   have ar:Below b.heap.size b N:=zj J (((uur _ wr).drew).trans af) (qXp _) (fun j e=>oM);have au:N.heap.size=b.heap.size+1:=by rw[ag];exact L
   rw[<-v];clear O af ag q J L F M v;have aB:a+c<=4096:=oM;have av:∀x:Int,x=(a:Int)+c->wrap64 x=((a+c:Nat):Int):=by intro x hx;subst hx;unfold wrap64;omega
   go_wp2
   go_roundg (n-(a+c))
   case measure=>omega
   case rel=>exact⟨a+c,rest.drop (c*2),oM,oM,rfl,by rw[av _ rfl],by simp;omega,aq,ar,au⟩
  .obtain rfl:a=n:=oM;obtain rfl:rest=[]:=qyc oM;rw[qxx]at q;go_wp2
   go_ret
   exact⟨rfl,q,J,L⟩
abbrev Sg(b s j:Int):Value:=.agg #[.int .i64 b,.int .i64 s,.int .i64 j]
end Go.Proofs.YtpejdgiccaijfaaGreatDoor
