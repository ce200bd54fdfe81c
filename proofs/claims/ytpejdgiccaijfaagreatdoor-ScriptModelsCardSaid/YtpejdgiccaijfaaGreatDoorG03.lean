/- What every law -/
import Derived.Test.YtpejdgiccaijfaaGreatDoorG01
import Derived.Deep.Slices
import Derived.Lib.SmallJoins
import Derived.Deep.Strs
import Derived.Laws.CopyRow
import Derived.Shelf.Bits.Mul64
set_option maxRecDepth 100000
namespace Go.Proofs.YtpejdgiccaijfaaGreatDoor
open Go Go.RowKit Go.ChangeShapes Go.WideShapes Go.ChangeAt Tryz
section
variable{H:Type}{enc:TypeId×Value->H}{P:Program}
theorem rK(hl:laidOutB P=true){W W':World}(hb:Below W.heap.size W W'):∀(ts:List TypeId) (vs:List Value) (ds:List (DataW H)) (ps:List MemPlace),
  (∀t∈ts,P.readableRec t=true/\t<P.types.size)->DataW.TrodAll enc P W 0 (fun _=>true) true ts vs ds ps->(∀x∈ps,x.block<W.heap.size)->
  DataW.TrodAll enc P W' 0 (fun b=>decide (b<W.heap.size)) true ts vs ds ps:=by
 intro ts
 induction ts with
 |nil=>
  intro vs ds ps _ h _;cases vs<;>cases ds<;>simp[DataW.TrodAll]at h⊢
  exact h
 |cons t ts ih=>
  intro vs ds ps ht h hlt;cases vs<;>cases ds<;>simp only[DataW.TrodAll]at h⊢
  obtain⟨p,q,h1,h2,rfl⟩:=h;obtain⟨hr,hs⟩:=ht t oe;exact⟨p,q,Below.trod hl hr hs h1 hb (fun x hx=>hlt x (by simp[hx])),ih _ _ _ (fun t' ht'=>ht t' (by simp[ht'])) h2 (fun x hx=>hlt x (by simp[hx])),rfl⟩
theorem Ql{f:Func}{s:ChangeSpec}{W W':World}{args:Array Value}{ds gs:List (DataW H)}{before:List MemPlace}{T:TypeId}
  (hl:laidOutB P=true) (hts:f.params.toList.all (fun t=>P.readableRec t&&decide (t<P.types.size))=true)
  (hres:f.resultTypes= #[T]) (hbool:P.underlying T=some .bool) (hvars:s.vars=[])
  (hfn:s.fn H (ds++gs)={results:=[.lit (.bool true)],args:=ds})
  (hW:DataW.Whole enc P f.params.toList s.vars false W args.toList ds gs before) (hb:Below W.heap.size W W'):
  s.post enc P f false true false false W args (.bool true) W':=by
 have hlt:∀x∈before,x.block<W.heap.size:=fun x hx=>by simpa using hW.lt x hx
 have hW':=hW;obtain⟨p,q,hA,hV,rfl,hz,hn⟩:=hW;rw[hvars]at hV;refine⟨ds,gs,p++q,[],p,[],hW',?_,?_,?_,hb.frame _,fun h=>by cases h⟩
 .rw [hres,hfn];exact trodAll_cons_mk (shut_bool hbool true) trodAll_mk0
 .rw [hfn];exact rK hl hb _ _ _ _ (fun t ht=>by have:=qxv.1 hts t ht;simpa using this) hA (fun x hx=>hlt x (by simp[hx]))
 .rw [hvars,hfn];rfl
theorem Zk{α:Type}{f:α->List Value}{k:Nat}(hf:∀a,(f a).length=k):∀(l:List α) (i j:Nat),j<k->∀a,l[i]?=some a->(l.flatMap f)[i*k+j]?=(f a)[j]?:=by
 intro l
 induction l with
 |nil=>intro i j _ a h;simp at h
 |cons b l ih=>
  intro i j hj a h;cases i with
  |zero=>simp at h;subst h;rw[qye,qXz,qXx,qyg (by rw[hf];exact hj)]
  |succ i=>
   simp at h;have e:(i+1)*k+j-(f b).length=i*k+j:=by rw[hf,Nat.add_mul];omega
   rw[qye,qyh (by rw[hf,Nat.add_mul];omega),e];exact ih i j hj a h
theorem yE{α:Type}{f:α->List Value}{k:Nat}(hf:∀a,(f a).length=k)(l:List α):(l.flatMap f).length=l.length*k:=by
 induction l with
 |nil=>simp
 |cons b l ih=>rw[qye,qyy,ih,hf,qyz,Nat.add_mul];omega
theorem Jj{α:Type}[Inhabited α](f:α->List Value)(φ:α->Prop){k:Nat}(hf:∀a,(f a).length=k)(hk:0<k){W:World}{base:Nat}{t e:TypeId}{v:Value}{d:DataW H}{p:List MemPlace}(ht:P.underlying t=some (.slice e))(hc:P.cellsOf e=k)
  (hel:∀(n:Nat) (cs:List Value) (x:DataW H×List MemPlace),DataW.trod enc P W 0 (fun _=>true) true n e cs=some x->∃a,cs=f a/\φ a)
  (hok:Value.okWide P W .any base t v) (h:DataW.Trod enc P W 0 (fun _=>true) true t v d p):
  ∃l:List α,Rd W k v l.length (l.flatMap f)/\∀a∈l,φ a:=by
 obtain⟨a0,len0,cap0,rfl⟩:=okWide_slice ht hok;obtain⟨fuel,hfu⟩:=h;rcases Deep.open_slice ht hfu with⟨hcs,hx⟩|⟨a,len,cap,m,n,D,Pl,hcs,_,hl,hm,hmm,hx,hcell⟩
 .simp only[Value.cells,List.cons.injEq,Value.slice.injEq,and_true]at hcs;obtain⟨rfl,rfl,rfl⟩:=hcs;exact⟨[],⟨oe,by simp[maxLen],none,0,rfl,fun _=>rfl,fun b hb=>by cases hb⟩,oe⟩
 .simp only[Value.cells,List.cons.injEq,Value.slice.injEq,and_true]at hcs;obtain⟨rfl,rfl,rfl⟩:=hcs;have hmc:m=cap0:=by simpa using hmm
  have hex:∀i,∃x:α,i<len0->W.cells? 0 (a.add (i*k)) k=some (f x)/\φ x:=by
   intro i;by_cases hi:i<len0
   .obtain ⟨cs',h1,h2⟩:=hcell i oM;obtain⟨x,rfl,hφ⟩:=hel _ _ _ h2;rw[hc]at h1;exact⟨x,fun _=>⟨h1,hφ⟩⟩
   .exact ⟨default,fun h=>absurd h hi⟩
  have hch:∃g:Nat->α,∀i,i<len0->W.cells? 0 (a.add (i*k)) k=some (f (g i))/\φ (g i):=⟨fun i=>Classical.choose (hex i),fun i=>Classical.choose_spec (hex i)⟩
  obtain⟨g,hg⟩:=hch;refine⟨(List.range len0).map g,⟨yE hf _,by simp;omega,some a,cap0,oe,(fun h=>by cases h),fun b hb j u hj=>?_⟩,?_⟩
  .cases hb;have hjl:=(qyl.1 hj).1;rw[yE hf,qzb,List.length_range]at hjl;have hi:j/k<len0:=(Nat.div_lt_iff_lt_mul hk).2 hjl;have hjk:j%k<k:=qXt _ hk;have he:j/k*k+j%k=j:=by rw[Nat.mul_comm];exact Nat.div_add_mod j k
   rw[<-he]at hj;rw[Zk hf _ (j/k) (j%k) hjk (g (j/k)) (by simp[hi])]at hj;obtain⟨_,_,h3⟩:=World.cells?_some (hg _ hi).1;have h4:=h3 (j%k) hjk;rw[hj]at h4;have e2:(a.add (j/k*k)).add (j%k)=a.add j:=by
    have:∀(x y:Nat),(a.add x).add y=a.add (x+y):=by
     intro x y;unfold Addr.add;by_cases h1:x=0<;>by_cases h2:y=0<;>simp[h1,h2,Nat.add_assoc]
    rw[this,he]
   rw[<-e2];exact h4
  .intro x hx;obtain⟨i,hi,rfl⟩:=qzq.1 hx;exact(hg i ox).2
end
end Go.Proofs.YtpejdgiccaijfaaGreatDoor
namespace Go.Proofs.YtpejdgiccaijfaaGreatDoor
open Go Go.RowKit Tryz
theorem zce(x y:Nat)(hx:x<18446744073709551616)(hy:y<18446744073709551616)(w:World):
  Calls prog 371 #[.int .u64 x,.int .u64 y] w fun e w'=>e=.returned (.tuple #[.int .u64 ((x*y/18446744073709551616:Nat):Int),.int .u64 ((x*y%18446744073709551616:Nat):Int)])/\w'=w:=by
 obtain⟨bd,bt,bw,hhi⟩:=Lib.mul64_hi x y hx hy;have ba:=Lib.half_mul_le (a:=x/4294967296) (b:=y/4294967296) oM oM;have bb:=Lib.half_mul_le (a:=x/4294967296) (b:=y%4294967296) oM oM;have bc:=Lib.half_mul_le (a:=x%4294967296) (b:=y/4294967296) oM oM;have ba':x/4294967296*(y/4294967296)<18446744073709551616:=oM;have bb':x/4294967296*(y%4294967296)<18446744073709551616:=oM;have bc':x%4294967296*(y/4294967296)<18446744073709551616:=oM;have bh1:x/4294967296*(y/4294967296)+(x/4294967296*(y%4294967296)+x%4294967296*(y%4294967296)/4294967296)/4294967296<18446744073709551616:=oM;have bh:x/4294967296*(y/4294967296)+(x/4294967296*(y%4294967296)+x%4294967296*(y%4294967296)/4294967296)/4294967296+((x/4294967296*(y%4294967296)+x%4294967296*(y%4294967296)/4294967296)%4294967296+x%4294967296*(y/4294967296))/4294967296<18446744073709551616:=oM;go_enter func371,ntmps371
 go_wp2
 simp only[Mul64.maskN x hx,Mul64.maskN y hy,Mul64.divN,Mul64.mulN,Mul64.addN,Mul64.wrapN _ bd,Mul64.wrapN _ bb',Mul64.wrapN _ bt,Mul64.maskN _ bt,Mul64.wrapN _ bc',Mul64.wrapN _ bw,Mul64.wrapN _ ba',Mul64.wrapN _ bh1,Mul64.wrapN _ bh,Mul64.wrapM (x*y)];rw[hhi];go_ret2
 exact⟨rfl,rfl⟩
theorem mul(x y:Nat)(hx:x<18446744073709551616)(hy:y<18446744073709551616)(w:World):
  Calls prog 281 #[.int .u64 x,.int .u64 y] w fun e w'=>e=.returned (.tuple #[.int .u64 ((x*y/18446744073709551616:Nat):Int),.int .u64 ((x*y%18446744073709551616:Nat):Int)])/\w'=w:=by
 go_enter func281,ntmps281
 go_wp2_with fail
 refine(zce x y hx hy w).mono ?_;rintro e w' ⟨rfl,rfl⟩;go_wp2
 go_ret2
 exact⟨rfl,rfl⟩
section
variable{P:Program}
theorem rN(w:World)(dT sT ty elem:TypeId)(k g o dLen dCap:Nat)(a:Addr)(sLen sCap:Nat)(cur:Array Value)(t:TypeId)(cs:List Value)
  (hu:P.underlying dT=some (.slice elem)) (hs:(P.info? elem).map (·.size)=some k)
  (hg:w.heap[g]?=some (.cells cur t (0,0))) (hn:cs.length=Nat.min sLen dLen*k)
  (hsrc:∀j v,cs[j]?=some v->w.cell? (a.add j)=some v) (hfit:o+cs.length<=cur.size) (h1:∀v∈cs,v.oneCell'=true):
  (Builtin.copy_ #[dT,sT] ty #[.slice (some ⟨g,o,none⟩) dLen dCap,.slice (some a) sLen sCap]).run P w=
   .ok (goInt (Nat.min sLen dLen:Nat)) (w.setRow g (cur.toList.take o++cs++cur.toList.drop (o+cs.length)).toArray):=by
 have hl:=run_loadCells_list (P:=P) w a cs hsrc;have hst:=run_storeCells_at P g o t cs 0 cur w hg (by simpa using hfit) h1;cases hq:P.info? elem with
 |none=>simp[hq]at hs
 |some i=>
  have hi:i.size=k:=by simpa[hq]using hs
  rw[hn]at hl;simp[Builtin.copy_,run_underlying hu,Builtin.lenOf,Builtin.firstCells,sizeOf,typeInfo,hq,hi,hl,hst]
theorem uN(w:World)(dT sT elem:TypeId)(k g o dLen dCap:Nat)(a:Addr)(sLen sCap:Nat)(cur:Array Value)(t:TypeId)(cs:List Value)
  (hu:P.underlying dT=some (.slice elem)) (hs:(P.info? elem).map (·.size)=some k)
  (hg:w.heap[g]?=some (.cells cur t (0,0))) (hn:cs.length=Nat.min sLen dLen*k)
  (hsrc:∀j v,cs[j]?=some v->w.cell? (a.add j)=some v) (hfit:o+cs.length<=cur.size) (h1:∀v∈cs,v.oneCell'=true):
  ∃w',(∀ty,(Builtin.copy_ #[dT,sT] ty #[.slice (some ⟨g,o,none⟩) dLen dCap,.slice (some a) sLen sCap]).run P w=.ok (goInt (Nat.min sLen dLen:Nat)) w')/\
   w'.heap[g]?=some (.cells (cur.toList.take o++(cs++cur.toList.drop (o+cs.length))).toArray t (0,0))/\Upd (fun j=>j=g) w w'/\w'.heap.size=w.heap.size:=
 ⟨_,fun ty=>rN w dT sT ty elem k g o dLen dCap a sLen sCap cur t cs hu hs hg hn hsrc hfit h1,by rw[<-qxw];exact setRow_heap w g cur _ t _ hg,⟨rfl,rfl,rfl,by simp[World.setRow],fun k _ hk=>setRow_other w g k _ (fun e=>hk e)⟩,by simp[World.setRow]⟩
end
def noPl(n:Nat):List Value:=(List.replicate n ()).flatMap fun _=>[.int .i64 (-1),.bool false]
theorem yH(n:Nat):(noPl n).length=n*2:=by
 have:=yE (f:=fun _:Unit=>[Value.int .i64 (-1),Value.bool false]) (k:=2) (fun _=>rfl) (List.replicate n ());rw[qzd]at this;exact this
theorem qo(a b:Nat):noPl (a+b)=noPl a++noPl b:=by
 simp only[noPl];rw[<-List.replicate_append_replicate,qyd]
theorem UF:(prog.info? 256).map (fun i=>(i.zero,i.size,i.bytes))=some (some (.agg #[.int .i64 0,.bool false]),2,16):=kR
theorem UG(n:Nat)(gx:Nat)(w:World)(h1:1<=n)(h2:n<=4096)(hx:w.heap[gx]?=some (.cells #[.int .i64 (-1),.bool false] 256)):
  Calls prog 210 #[.slice (some ⟨gx,0,none⟩) 1 1,.int .i64 n] w fun e w'=>e=.returned (.slice (some ⟨w.heap.size,0,none⟩) n n)/\
   w'.heap[w.heap.size]?=some (.cells (noPl n).toArray 256)/\Below w.heap.size w w'/\w'.heap.size=w.heap.size+1:=by
 obtain⟨i0,hi,hz0,hz1,hz2⟩:=qYs UF;have hmk:∀w:World,∃zs:List Value,zs.length=n*2/\(Instr.makeSlice 320 (.int .i64 n) (.int .i64 n)).run prog w=.ok (.slice (some ⟨w.heap.size,0,none⟩) n n) (w.alloc (.cells zs.toArray 256)):=by
  intro w;have:=run_make (P:=prog) w 320 256 i0 (.agg #[.int .i64 0,.bool false]) underlying320 hi hz0 .i64 .i64 n n oM oM jm oM;refine⟨(madeCells #[.int .i64 0,.bool false] (n*2)).toList,by simp[size_madeCells],?_⟩;rw[this];simp[hz1,Value.cells]
 obtain⟨zs,hzl,hrun⟩:=hmk w;have hn0:¬(n:Int)<0:=oM;clear hi hz0 hz1 hz2 hmk;go_enter func210,ntmps210
 go_wp2_with fail
 refine(mul 1 n de oM _).mono ?_;rintro e w' ⟨rfl,rfl⟩;rw[show 1*n/18446744073709551616=0 by omega,show 1*n%18446744073709551616=n by omega];have hgx:=zd hx;have hA:(w'.alloc (.cells zs.toArray 256)).heap[w'.heap.size]?=some (.cells zs.toArray 256):=zc _ _ rfl;have hxA:(w'.alloc (.cells zs.toArray 256)).heap[gx]?=some (.cells #[.int .i64 (-1),.bool false] 256):=(qxk _ _ _ hgx).trans hx;have hS:(prog.info? 256).map (·.size)=some 2:=kR;have HA:=qqh hA;have HX:=qqh hxA;have HRUN:=qqh hrun;clear hA hxA hx;have hmn:Nat.min 1 n=1:=Nat.min_eq_left h1;have e1:([.int .i64 (-1),.bool false]:List Value).length=Nat.min 1 n*2:=by rw[hmn];rfl
 have e2:∀(j:Nat) (v:Value),([.int .i64 (-1),.bool false]:List Value)[j]?=some v->(w'.alloc (.cells zs.toArray 256)).cell? ((⟨gx,0,none⟩:Addr).add j)=some v:=fun j v hj=>by rw[qxa,za HX.o];simpa using hj
 have e3:0+([.int .i64 (-1),.bool false]:List Value).length<=zs.toArray.size:=by simp;omega
 obtain⟨w2,hcp,hg2,hu2,hz2⟩:=uN (P:=prog) (w'.alloc (.cells zs.toArray 256)) 320 320 256 2 w'.heap.size 0 n n ⟨gx,0,none⟩ 1 1 zs.toArray 256 [.int .i64 (-1),.bool false] underlying320 hS HA.o e1 e2 e3 oQ;rw[hmn]at hcp;clear e1 e2 e3;have hg3:w2.heap[w'.heap.size]?=some (.cells (noPl 1++zs.drop 2).toArray 256):=by rw[hg2];rfl
 have hB2:Below w'.heap.size w' w2:=zj ((qxl _ _).alloc (qXo _) _) hu2 (qXo _) (fun j e=>oM);have hz3:w2.heap.size=w'.heap.size+1:=by rw[hz2];simp
 clear hg2 hu2 hz2;go_wp2
 clear hcp HX HRUN hrun;go_loopg[8] (n-1) (fun q i wr=>∃(k:Nat) (rest:List Value),1<=k/\k<=n/\q=n-k/\i=.int .i64 k/\rest.length=(n-k)*2/\wr.heap[w'.heap.size]?=some (.cells (noPl k++rest).toArray 256)/\Below w'.heap.size w' wr/\wr.heap.size=w'.heap.size+1)
 case atStart=>exact⟨1,zs.drop 2,oM,h1,rfl,rfl,by simp;omega,hg3,hB2,hz3⟩
 case round=>
  clear hg3 hB2 hz3;obtain⟨k,rest,hk1,hkn,rfl,rfl,hrl,hg,hb,hz⟩:=hrel;by_cases hlt:k<n
  .have hkk:noPl k=noPl (Nat.min k (n-k))++noPl (k-Nat.min k (n-k)):=by rw[<-qo];congr 1;have:=Nat.min_le_left k (n-k);show k=min k (n-k)+_;have:min k (n-k)<=k:=Nat.min_le_left _ _;show k=min k (n-k)+(k-min k (n-k));omega
   obtain⟨w3,hcp,hg4,hu4,hz4⟩:=uN (P:=prog) wr.drew 320 320 256 2 w'.heap.size (k*2) (n-k) (n-k) ⟨w'.heap.size,0,none⟩ k n (noPl k++rest).toArray 256 (noPl (Nat.min k (n-k))) underlying320 hS hg (by rw[yH])
    (fun j v hj=>by
     rw[qxa,za (w:=wr.drew) hg];have hjl:=(qyl.1 hj).1;rw[hkk];simp only[qyq,qXx,qxw];rw[qyg hjl];exact hj)
    (by rw[yH];simp only[qXh,qyy,yH,hrl];have:Nat.min k (n-k)<=n-k:=Nat.min_le_right _ _;omega) (by intro v hv;simp only[noPl,qzp]at hv;obtain⟨_,_,hv⟩:=hv;simp at hv;rcases hv with rfl|rfl<;>simp[Value.oneCell'])
   go_wp2
   go_region
   obtain⟨c,hce⟩:=qqe (Nat.min k (n-k));rw[<-hce]at hkk hg4;have hc1:1<=c:=by rw[hce];exact Nat.le_min.2 ⟨hk1,oM⟩
   have hc2:c<=n-k:=by rw[hce];exact Nat.min_le_right _ _
   have hg5:w3.heap[w'.heap.size]?=some (.cells (noPl (k+c)++rest.drop (c*2)).toArray 256):=by
    rw[hg4,qo];have e1:(noPl k++rest).toArray.toList.take (k*2)=noPl k:=by simp[yH]
    have e2:(noPl k++rest).toArray.toList.drop (k*2+(noPl c).length)=rest.drop (c*2):=by
     rw[yH];show(noPl k++rest).drop (k*2+c*2)=_;rw[List.drop_append,yH,List.drop_eq_nil_of_le (by rw[yH];omega)];simp
    rw[e1,e2,qxw]
   have hb3:Below w'.heap.size w' w3:=zj hb (((uur _ wr).drew).trans hu4) (qXo _) (fun j e=>oM);have hz5:w3.heap.size=w'.heap.size+1:=by rw[hz4];exact hz
   rw[<-hce];clear hg4 hu4 hz4 hg hb hz hcp hkk hce;have hkc:k+c<=4096:=oM;have hkc':∀x:Int,x=(k:Int)+c->wrap64 x=((k+c:Nat):Int):=by intro x hx;subst hx;unfold wrap64;omega
   go_wp2
   go_roundg (n-(k+c))
   case measure=>omega
   case rel=>exact⟨k+c,rest.drop (c*2),oM,oM,rfl,by rw[hkc' _ rfl],by simp;omega,hg5,hb3,hz5⟩
  .obtain rfl:k=n:=oM;obtain rfl:rest=[]:=qyb oM;rw[qxx]at hg;go_wp2
   go_ret
   exact⟨rfl,hg,hb,hz⟩
end Go.Proofs.YtpejdgiccaijfaaGreatDoor
