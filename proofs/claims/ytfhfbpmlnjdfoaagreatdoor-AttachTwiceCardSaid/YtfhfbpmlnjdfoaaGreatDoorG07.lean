/- Bounds of numb -/
import Derived.Test.YtfhfbpmlnjdfoaaGreatDoorG06
import Derived.Laws.EntriesVeiled
import Derived.Deep.Slices
import Derived.Lib.SmallJoins
import Derived.Deep.Strs
set_option maxRecDepth 100000
set_option maxHeartbeats 1000000
namespace Go.Proofs.YtfhfbpmlnjdfoaaGreatDoor
open Go Go.RowKit Tryz
def bndC(B:List (Int×Int)):List Value:=B.flatMap fun p=>[.int .i64 p.1,.int .i64 p.2]
theorem Vo{B:List (Int×Int)}{i:Nat}(hi:i<B.length):(bndC B)[i*2]?=some (.int .i64 B[i].1)/\(bndC B)[i*2+1]?=some (.int .i64 B[i].2):=by
 induction B generalizing i with
 |nil=>simp at hi
 |cons p B ih=>
  cases i with
  |zero=>exact⟨rfl,rfl⟩
  |succ i=>
   have:=ih (i:=i) (by simpa using hi);rw[show(i+1)*2=i*2+2 by omega];exact this
def inB(p:Int×Int)(x:Int):Bool:=decide (p.1<=x)&&decide (x<=p.2)
def withinB(B:List (Int×Int))(xs:List Int):Bool:=(B.zip xs).all fun q=>inB q.1 q.2
def Bnd(w:World)(v:Value)(B:List (Int×Int)):Prop:=
 ∃g h c,v=.func (.func 196) #[] #[.pointer (some ⟨g,0,none⟩)]/\w.cell? ⟨g,0,none⟩=some (.slice (some ⟨h,0,none⟩) B.length c)/\w.rangeAt h 0 (bndC B)
theorem Bnd.below{w w':World}{v:Value}{B:List (Int×Int)}(h:Bnd w v B)(hb:Below w.heap.size w w'):Bnd w' v B:=by
 obtain⟨g,k,c,hv,hc,hr⟩:=h;exact⟨g,k,c,hv,(uuo (S:=fun _=>False) hb).ja hc (fun h=>h),Below.range hb hr⟩
theorem yN{w:World}{g o:Nat}{xs:List Int}(h:w.rangeAt g o (ints xs)){i:Nat}(hi:i<xs.length):w.cell? ⟨g,o+i,none⟩=some (.int .i64 xs[i]):=h i _ (yt hi)
theorem ue{α:Type}{l:List α}{p:α->Bool}{k:Nat}(hk:k<l.length)(h:p l[k]=false):l.all p=false:=by
 rw[<-Bool.not_eq_true];intro e;rw[qxw]at e;have:=e _ (qyz hk);rw[h]at this;cases this
theorem uI{w:World}{h n c:Nat}:Calls prog 126 #[.slice (some ⟨h,0,none⟩) n c] w fun e w'=>e=.returned (.func (.func 196) #[] #[.pointer (some ⟨w.heap.size,0,none⟩)])/\w'=w.alloc (.cells #[.slice (some ⟨h,0,none⟩) n c] 321):=by
 have hmf:=qqf;go_enter func126,ntmps126
 go_wp2
 go_ret
 exact⟨rfl,rfl⟩
theorem Bnd.made{w:World}{h c:Nat}{B:List (Int×Int)}(hr:w.rangeAt h 0 (bndC B)):Bnd (w.alloc (.cells #[.slice (some ⟨h,0,none⟩) B.length c] 321)) (.func (.func 196) #[] #[.pointer (some ⟨w.heap.size,0,none⟩)]) B:=
 ⟨w.heap.size,h,c,rfl,za (zc w _ rfl) 0,qYp hr _⟩
theorem yO{w:World}{g h c gl ol m cl:Nat}(B:List (Int×Int))(xs:List Int)(hc:w.cell? ⟨g,0,none⟩=some (.slice (some ⟨h,0,none⟩) B.length c))(hr:w.rangeAt h 0 (bndC B))(hx:w.rangeAt gl ol (ints xs))(hm:xs.length=m)(hB:B.length<=m)(hm2:m<=100):
  Calls prog 196 #[.slice (some ⟨gl,ol,none⟩) m cl,.pointer (some ⟨g,0,none⟩)] w fun e w'=>e=.returned (.bool (withinB B xs))/\Below w.heap.size w w':=by
 have H:=Y3 hr hx hm;clear hr hx hm;go_enter func196,ntmps196
 go_wp2
 go_loopw[8] (fun s8 wr=>∃k:Nat,k<=B.length/\s8=.int .i64 k/\Below w.heap.size w wr/\((B.zip xs).take k).all (fun q=>inB q.1 q.2)=true) (fun s8 _=>B.length-(intOf s8).toNat)
 case atStart=>exact⟨0,qYf _,rfl,qxl _ _,by simp⟩
 case round=>
  obtain⟨k,hk,rfl,hb,ha⟩:=hrel;have HA:=Y2 ha hb;by_cases hlt:k<B.length
  .obtain ⟨hr,hx,hm⟩:=H.o;have hkx:k<xs.length:=by omega
   have r1:=(Below.range hb hr) (k*2) _ (Vo hlt).1;have r2:=(Below.range hb hr) (k*2+1) _ (Vo hlt).2;have rx:=yN (Below.range hb hx) hkx;rw[qYe]at r1 r2;have hts:Hid (((B.zip xs).take (k+1))=(B.zip xs).take k++[(B[k],xs[k])]):=by
    show _=_;rw[qXq (by rw[List.length_zip];omega),List.getElem_zip]
   obtain⟨lo,hi,hp⟩:∃lo hi,B[k]=(lo,hi):=⟨_,_,rfl⟩
   have HP:=qqh hp;rw[hp]at r1 r2;simp only at r1 r2;have b3:(0:Int)<=(k:Int)/\(k:Int)<(B.length:Int)/\(k:Int)<(m:Int):=by omega
   have hbl:wr.heap.size<=wr.heap.size:=qXv _;clear hp ha hr hx hm hb;obtain⟨b3,b4,b5⟩:=b3;obtain⟨x,hxk⟩:∃x,xs[k]=x:=⟨_,rfl⟩
   have HX:=qqh hxk;rw[hxk]at rx;have hglt:gl<wr.heap.size:=qYn wr _ rx;clear hxk;have hblw:Below w.heap.size w (wr.alloc (.cells #[.int .i64 lo,.int .i64 hi] 219)):=HA.o.2.alloc HA.o.2.size _;by_cases h1:x<lo
   .have hin:Hid (withinB B xs=false):=by
     show _=_;refine ue (k:=k) (by rw[List.length_zip];omega) ?_;rw[List.getElem_zip,HP.o,HX.o];simp[inB];omega
    have q1:decide (x<lo)=true:=by simpa using h1
    clear h1;have HB:=qqh hblw;clear hblw;go_wp2
    go_quiet(fail)
    go_wp2
    go_ret
    exact⟨by rw[hin.out];rfl,zV HB.o _⟩
   .by_cases h2:hi<x
    .have hin:Hid (withinB B xs=false):=by
      show _=_;refine ue (k:=k) (by rw[List.length_zip];omega) ?_;rw[List.getElem_zip,HP.o,HX.o];simp[inB];omega
     have q1:decide (x<lo)=false:=by simpa using h1
     have q2:decide (hi<x)=true:=by simpa using h2
     clear h1 h2;have HB:=qqh hblw;clear hblw;go_wp2
     go_quiet(fail)
     go_wp2
     go_ret
     exact⟨by rw[hin.out];rfl,zV HB.o _⟩
    .have hin:Hid (inB (B[k],xs[k]).1 (B[k],xs[k]).2=true):=by
      show _=_;rw[HP.o,HX.o];simp[inB];omega
     have q1:decide (x<lo)=false:=by simpa using h1
     have q2:decide (hi<x)=false:=by simpa using h2
     clear h1 h2;have HB:=qqh hblw;clear hblw;go_wp2
     go_quiet(fail)
     go_wp2
     go_roundw
     case rel=>exact⟨k+1,by omega,by go_num,zV HB.o _,by rw[hts.out,List.all_append,HA.o.1];simpa using hin.out⟩
     case measure=>simp[intOf];omega
  .obtain rfl:k=B.length:=by omega
   have hin:Hid (withinB B xs=true):=by
    have:=HA.o.1;rw[qXp (by rw[List.length_zip];omega)]at this;exact this
   go_wp2
   go_ret
   exact⟨by rw[hin.out];rfl,HA.o.2⟩
theorem Qd:(prog.info? 154).map (·.size)=some 4:=by kernel_rfl
theorem Qe(w:World)(A B C D E:Obj):let W:=((((w.alloc A).alloc B).alloc C).alloc D).alloc E
  W.heap[w.heap.size]?=some A/\W.heap[w.heap.size+1]?=some B/\W.heap[w.heap.size+1+1]?=some C/\W.heap[w.heap.size+1+1+1]?=some D/\W.heap[w.heap.size+1+1+1+1]?=some E/\W.heap.size=w.heap.size+5/\Upd (fun _=>False) w W:=by
 obtain⟨h1,h2,h3,h4,h5,h6⟩:=xP w A B C D;refine⟨?_,?_,?_,?_,zc _ _ (by simp),by simp,h6.alloc _⟩
 .rw [qxk _ _ _ (zf h1)];exact h1
 .rw [qxk _ _ _ (zf h2)];exact h2
 .rw [qxk _ _ _ (zf h3)];exact h3
 .rw [qxk _ _ _ (zf h4)];exact h4
def encB(l:List (Nat×Nat)):List UInt8:=l.flatMap fun p=>lowB p.1 p.2
theorem Ut(l:List (Nat×Nat))(p:Nat×Nat):encB (l++[p])=encB l++lowB p.1 p.2:=by simp[encB]
def sizes(l:List (Nat×Nat)):Nat:=(l.map (·.2)).sum
theorem ug(l:List (Nat×Nat)):(encB l).length=sizes l:=by
 induction l with
 |nil=>rfl
 |cons p l ih=>simp only[encB,sizes,qyg,qzd,yj,qzm,List.sum_cons]at ih⊢;rw[ih]
theorem XW(l:List (Nat×Nat)){i:Nat}(hi:i<l.length):sizes (l.take i)+l[i].2<=sizes l:=by
 have h:=congrArg sizes (qXo (i+1) l);rw[qXq hi]at h;simp only[sizes,qzl,List.sum_append,qzm,qzo,List.sum_cons,List.sum_nil]at h⊢;omega
def Zo(l:List (Nat×Nat)):Prop:=(∀p∈l,p.1<256^p.2/\1<=p.2/\p.2<=7)/\sizes l<=59
def numsL(l:List (Nat×Nat)):List Int:=l.map fun p=>(p.1:Int)
def wJ(l:List (Nat×Nat)):List Int:=l.map fun p=>(p.2:Int)
theorem sH{l:List (Nat×Nat)}{i:Nat}(h:i<l.length):(ints (numsL l))[i]?=some (.int .i64 (l[i].1:Int)):=by
 rw[yt (by simpa[numsL]using h)];simp[numsL]
theorem qC{l:List (Nat×Nat)}{i:Nat}(h:i<l.length):(ints (wJ l))[i]?=some (.int .i64 (l[i].2:Int)):=by
 rw[yt (by simpa[wJ]using h)];simp[wJ]
def sectB(k:Nat)(l:List (Nat×Nat)):Bk:=sealB (padB (lowB k 1++encB l))
theorem uh{k:Nat}{l:List (Nat×Nat)}(h:sizes l<=59):(padB (lowB k 1++encB l)).length=64:=wI (by simp[yj,ug];omega)
theorem vj{k:Nat}{l:List (Nat×Nat)}(h:sizes l<=59):(sectB k l).length=64:=vh (uh h)
theorem xQ(w:World)(A B C:Obj):let W:=((w.alloc A).alloc B).alloc C
  W.heap[w.heap.size]?=some A/\W.heap[w.heap.size+1]?=some B/\W.heap[w.heap.size+1+1]?=some C/\W.heap.size=w.heap.size+3/\Upd (fun _=>False) w W:=by
 refine⟨?_,?_,zc _ _ (by simp),by simp,(((uur _ w).alloc _).alloc _).alloc _⟩
 .rw [qxk _ _ _ (by simp<;>omega),qxk _ _ _ (by simp)];exact zc w _ rfl
 .rw [qxk _ _ _ (by simp)];exact zc _ _ (by simp)
open Go Go.RowKit Go.ChangeShapes Go.WideShapes Go.ChangeAt Tryz
section
variable{H:Type}{enc:TypeId×Value->H}{P:Program}
theorem sa(hl:laidOutB P=true){W W':World}(hb:Below W.heap.size W W'):∀(ts:List TypeId) (vs:List Value) (ds:List (DataW H)) (ps:List MemPlace),
  (∀t∈ts,P.readableRec t=true/\t<P.types.size)->DataW.TrodAll enc P W 0 (fun _=>true) true ts vs ds ps->(∀x∈ps,x.block<W.heap.size)->
  DataW.TrodAll enc P W' 0 (fun b=>decide (b<W.heap.size)) true ts vs ds ps:=by
 intro ts
 induction ts with
 |nil=>
  intro vs ds ps _ h _;cases vs<;>cases ds<;>simp[DataW.TrodAll]at h⊢
  exact h
 |cons t ts ih=>
  intro vs ds ps ht h hlt;cases vs<;>cases ds<;>simp only[DataW.TrodAll]at h⊢
  obtain⟨p,q,h1,h2,rfl⟩:=h;obtain⟨hr,hs⟩:=ht t (by simp);exact⟨p,q,Below.trod hl hr hs h1 hb (fun x hx=>hlt x (by simp[hx])),ih _ _ _ (fun t' ht'=>ht t' (by simp[ht'])) h2 (fun x hx=>hlt x (by simp[hx])),rfl⟩
theorem Qf{f:Func}{s:ChangeSpec}{W W':World}{args:Array Value}{ds gs:List (DataW H)}{before:List MemPlace}{T:TypeId}
  (hl:laidOutB P=true) (hts:f.params.toList.all (fun t=>P.readableRec t&&decide (t<P.types.size))=true)
  (hres:f.resultTypes= #[T]) (hbool:P.underlying T=some .bool) (hvars:s.vars=[])
  (hfn:s.fn H (ds++gs)={results:=[.lit (.bool true)],args:=ds})
  (hW:DataW.Whole enc P f.params.toList s.vars false W args.toList ds gs before) (hb:Below W.heap.size W W'):
  s.post enc P f false true false false W args (.bool true) W':=by
 have hlt:∀x∈before,x.block<W.heap.size:=fun x hx=>by simpa using hW.lt x hx
 have hW':=hW;obtain⟨p,q,hA,hV,rfl,hz,hn⟩:=hW;rw[hvars]at hV;refine⟨ds,gs,p++q,[],p,[],hW',?_,?_,?_,hb.frame _,fun h=>by cases h⟩
 .rw [hres,hfn];exact trodAll_cons_mk (shut_bool hbool true) trodAll_mk0
 .rw [hfn];exact sa hl hb _ _ _ _ (fun t ht=>by have:=qxw.1 hts t ht;simpa using this) hA (fun x hx=>hlt x (by simp[hx]))
 .rw [hvars,hfn];rfl
theorem wj{α:Type}{f:α->List Value}{k:Nat}(hf:∀a,(f a).length=k):∀(l:List α) (i j:Nat),j<k->∀a,l[i]?=some a->(l.flatMap f)[i*k+j]?=(f a)[j]?:=by
 intro l
 induction l with
 |nil=>intro i j _ a h;simp at h
 |cons b l ih=>
  intro i j hj a h;cases i with
  |zero=>simp at h;subst h;rw[qyg,qYg,qYe,qyi (by rw[hf];exact hj)]
  |succ i=>
   simp at h;have e:(i+1)*k+j-(f b).length=i*k+j:=by rw[hf,Nat.add_mul];omega
   rw[qyg,qyj (by rw[hf,Nat.add_mul];omega),e];exact ih i j hj a h
theorem yG{α:Type}{f:α->List Value}{k:Nat}(hf:∀a,(f a).length=k)(l:List α):(l.flatMap f).length=l.length*k:=by
 induction l with
 |nil=>simp
 |cons b l ih=>rw[qyg,qzd,ih,hf,qze,Nat.add_mul];omega
theorem SV{α:Type}[Inhabited α](f:α->List Value)(φ:α->Prop){k:Nat}(hf:∀a,(f a).length=k)(hk:0<k){W:World}{base:Nat}{t e:TypeId}{v:Value}{d:DataW H}{p:List MemPlace}(ht:P.underlying t=some (.slice e))(hc:P.cellsOf e=k)
  (hel:∀(n:Nat) (cs:List Value) (x:DataW H×List MemPlace),DataW.trod enc P W 0 (fun _=>true) true n e cs=some x->∃a,cs=f a/\φ a)
  (hok:Value.okWide P W .any base t v) (h:DataW.Trod enc P W 0 (fun _=>true) true t v d p):
  ∃l:List α,Rd W k v l.length (l.flatMap f)/\∀a∈l,φ a:=by
 obtain⟨a0,len0,cap0,rfl⟩:=okWide_slice ht hok;obtain⟨fuel,hfu⟩:=h;rcases Deep.open_slice ht hfu with⟨hcs,hx⟩|⟨a,len,cap,m,n,D,Pl,hcs,_,hl,hm,hmm,hx,hcell⟩
 .simp only[Value.cells,List.cons.injEq,Value.slice.injEq,and_true]at hcs;obtain⟨rfl,rfl,rfl⟩:=hcs;exact⟨[],⟨by simp,by simp[maxLen],none,0,rfl,fun _=>rfl,fun b hb=>by cases hb⟩,by simp⟩
 .simp only[Value.cells,List.cons.injEq,Value.slice.injEq,and_true]at hcs;obtain⟨rfl,rfl,rfl⟩:=hcs;have hmc:m=cap0:=by simpa using hmm
  have hex:∀i,∃x:α,i<len0->W.cells? 0 (a.add (i*k)) k=some (f x)/\φ x:=by
   intro i;by_cases hi:i<len0
   .obtain ⟨cs',h1,h2⟩:=hcell i (by omega);obtain⟨x,rfl,hφ⟩:=hel _ _ _ h2;rw[hc]at h1;exact⟨x,fun _=>⟨h1,hφ⟩⟩
   .exact ⟨default,fun h=>absurd h hi⟩
  have hch:∃g:Nat->α,∀i,i<len0->W.cells? 0 (a.add (i*k)) k=some (f (g i))/\φ (g i):=⟨fun i=>Classical.choose (hex i),fun i=>Classical.choose_spec (hex i)⟩
  obtain⟨g,hg⟩:=hch;refine⟨(List.range len0).map g,⟨yG hf _,by simp;omega,some a,cap0,by simp,(fun h=>by cases h),fun b hb j u hj=>?_⟩,?_⟩
  .cases hb;have hjl:=(qyp.1 hj).1;rw[yG hf,qzg,List.length_range]at hjl;have hi:j/k<len0:=(Nat.div_lt_iff_lt_mul hk).2 hjl;have hjk:j%k<k:=qYa _ hk;have he:j/k*k+j%k=j:=by rw[Nat.mul_comm];exact Nat.div_add_mod j k
   rw[<-he]at hj;rw[wj hf _ (j/k) (j%k) hjk (g (j/k)) (by simp[hi])]at hj;obtain⟨_,_,h3⟩:=World.cells?_some (hg _ hi).1;have h4:=h3 (j%k) hjk;rw[hj]at h4;have e2:(a.add (j/k*k)).add (j%k)=a.add j:=by
    have:∀(x y:Nat),(a.add x).add y=a.add (x+y):=by
     intro x y;unfold Addr.add;by_cases h1:x=0<;>by_cases h2:y=0<;>simp[h1,h2,Nat.add_assoc]
    rw[this,he]
   rw[<-e2];exact h4
  .intro x hx;obtain⟨i,hi,rfl⟩:=qzv.1 hx;exact(hg i (by simpa using hi)).2
end
end Go.Proofs.YtfhfbpmlnjdfoaaGreatDoor
