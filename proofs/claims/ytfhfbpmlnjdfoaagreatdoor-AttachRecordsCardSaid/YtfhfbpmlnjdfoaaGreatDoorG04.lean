/- 'Ints': are two lists the same. The clock's ro -/
import Derived.Test.YtfhfbpmlnjdfoaaGreatDoorG01
import Derived.Defers
import Derived.Recover
import Derived.Deep.Slices
import Derived.Lib.SmallJoins
import Derived.Deep.Strs
import Derived.Maps.Views
import Derived.Maps.OwnSet
import Derived.MapKept
import Derived.Shelf.SlMaps.Clone
import Derived.Maps.Range
set_option maxRecDepth 100000
namespace Go.Proofs.YtfhfbpmlnjdfoaaGreatDoor
open Go Go.RowKit
def idxI(l:List Int)(k:Int):Int:=match l.findIdx? (·==k)with|some i=>(i:Int)|none=> -1
theorem UO{l:List Int}{k:Int}{i:Nat}(hi:i<l.length)(he:l[i]=k)(hb:∀j (h:j<l.length),j<i->l[j]≠k):idxI l k=i:=by
 unfold idxI;have:l.findIdx? (·==k)=some i:=by
  rw[List.findIdx?_eq_some_iff_getElem];exact⟨hi,by simpa using he,fun j hj=>by simpa using hb j (by omega) hj⟩
 rw[this]
theorem ro{l:List Int}{k:Int}(hb:∀j (h:j<l.length),l[j]≠k):idxI l k= -1:=by
 unfold idxI;have:l.findIdx? (·==k)=none:=by
  rw[List.findIdx?_eq_none_iff];intro x hx;obtain⟨j,hj,rfl⟩:=qza hx;simpa using hb j hj
 rw[this]
theorem YX{w:World}{v:Value}{l:List Int}(h:Rd w 1 v l.length (ints l))(hle:l.length<=4096)(k:Int):
  Calls Tryz.prog 320 #[v,.int .i64 k] w fun e w'=>e=.returned (.int .i64 (idxI l k))/\w'=w:=by
 have H:=qqh h;obtain⟨ao,c,rfl⟩:=h.nil_iff;clear h;go_enter Tryz.func320,Tryz.ntmps320
 go_wp2
 go_loopg[8] l.length (fun g i wr=>∃j:Nat,j+g=l.length/\i=.int .i64 j/\(∀m (h:m<l.length),m<j->l[m]≠k)/\wr=w)
 case atStart=>exact⟨0,by omega,rfl,fun m h hm=>by omega,rfl⟩
 case round=>
  obtain⟨j,hj,rfl,hno,rfl⟩:=hrel;by_cases hlt:j<l.length
  .obtain ⟨g,off,c',hv,hg,hc⟩:=H.o.at (by omega);cases hv;have hcj:=hc j _ (yp hlt);have HN:=qqh hno;clear hc hno;by_cases he:l[j]=k
   .have hb:(k==l[j])=true:=by simp[he]
    have ha:Hid (idxI l k=j):=UO hlt he HN.o;clear he;go_wp2
    go_ret
    exact⟨by rw[ha.out];rfl,rfl⟩
   .have hb:(k==l[j])=false:=by simp;exact fun e=>he e.symm
    have hne:Hid (l[j]≠k):=he;clear he;go_wp2
    go_roundg (gk-1)
    case measure=>omega
    case rel=>exact⟨j+1,by omega,by go_num,fun m hm hmj=>by
     by_cases e:m=j
     .subst e;exact hne.out
     .exact HN.o m hm (by omega),rfl⟩
  .obtain rfl:j=l.length:=by omega
   have ha:Hid (idxI l k= -1):=ro (fun m hm=>hno m hm hm);clear hno;go_wp2
   go_ret
   exact⟨by rw[ha.out];rfl,rfl⟩
theorem Vk(p:Value)(w:World):
  CallsD Tryz.prog 319 #[p] .returning w fun e u' w'=>e=.returned (.tuple #[])/\u'=.returning/\w'=w:=by
 refine callsD_of_wpS Tryz.func319 rfl fun c₀ cs hu=>?_;apply wpS_seq;apply wpS_region;simp[wpOpsS,go_sem,recoverD,hu,Tryz.ntmps319,Exit.thenS];refine wpS_cond (t:=false) (by simp[Act.eval,Array.replicate]) ?_;simp only[Bool.false_eq_true,if_false];refine wpS_of_wp (wp_skip ?_);cases c₀
 simp_all[bodyPostS,results,Tryz.results319]
theorem qW(p:Value)(w:World):
  CallsD Tryz.prog 302 #[p] .returning w fun e u' w'=>e=.returned (.tuple #[])/\u'=.returning/\w'=w:=by
 refine callsD_of_wpS Tryz.func302 rfl fun c₀ cs hu=>?_;apply wpS_seq;apply wpS_region;simp[wpOpsS,go_sem,recoverD,hu,Tryz.ntmps302,Exit.thenS];refine wpS_cond (t:=false) (by simp[Act.eval,Array.replicate]) ?_;simp only[Bool.false_eq_true,if_false];refine wpS_of_wp (wp_skip ?_);cases c₀
 simp_all[bodyPostS,results,Tryz.results302]
theorem YY(p:Value)(w:World):
  CallsD Tryz.prog 234 #[p] .returning w fun e u' w'=>e=.returned (.tuple #[])/\u'=.returning/\w'=w:=by
 refine callsD_of_wpS Tryz.func234 rfl fun c₀ cs hu=>?_;apply wpS_seq;apply wpS_region;simp[wpOpsS,go_sem,recoverD,hu,Tryz.ntmps234,Exit.thenS];refine wpS_cond (t:=false) (by simp[Act.eval,Array.replicate]) ?_;simp only[Bool.false_eq_true,if_false];refine wpS_of_wp (wp_skip ?_);cases c₀
 simp_all[bodyPostS,results,Tryz.results234]
theorem xf{w:World}{v:Value}{l:List Int}(h:Rd w 1 v l.length (ints l))(hle:l.length<=4096)(k:Int):
  Calls Tryz.prog 273 #[v,.int .i64 k] w fun e w'=>e=.returned (.int .i64 (idxI l k))/\Below w.heap.size w w':=by
 have hmf:=qqf;have HF:=qqh (fun(w1:World) (h1:Rd w1 1 v l.length (ints l))=>YX h1 hle k);have H:=qqh h;clear h
 go_enter_defers Tryz.func273,Tryz.ntmps273
 go_wp2_with fail
 refine(HF.o _ (H.o.keep ((uur (fun _=>False) w).alloc _) (fun _ _ h=>h))).mono ?_;rintro e w1 ⟨rfl,rfl⟩;go_wp2
 refine leaves_cons (f:=319) (args:= #[.pointer (some ⟨w.heap.size,0,none⟩)]) (by simp) (by simp[go_sem]) ?_;refine(Vk _ _).mono ?_;rintro e u' w'' ⟨rfl,rfl,rfl⟩;simp[Leaves,settle,results,Tryz.results273,go_sem];exact(qxl _ _).alloc (qXv _) _
open Go Go.RowKit Go.ChangeShapes Go.WideShapes Go.ChangeAt
section
variable{H:Type}{enc:TypeId×Value->H}{P:Program}
theorem qX(hl:laidOutB P=true){W W':World}(hb:Below W.heap.size W W'):∀(ts:List TypeId) (vs:List Value) (ds:List (DataW H)) (ps:List MemPlace),
  (∀t∈ts,P.readableRec t=true/\t<P.types.size)->DataW.TrodAll enc P W 0 (fun _=>true) true ts vs ds ps->(∀x∈ps,x.block<W.heap.size)->
  DataW.TrodAll enc P W' 0 (fun b=>decide (b<W.heap.size)) true ts vs ds ps:=by
 intro ts
 induction ts with
 |nil=>
  intro vs ds ps _ h _;cases vs<;>cases ds<;>simp[DataW.TrodAll]at h⊢
  exact h
 |cons t ts ih=>
  intro vs ds ps ht h hlt;cases vs<;>cases ds<;>simp only[DataW.TrodAll]at h⊢
  obtain⟨p,q,h1,h2,rfl⟩:=h;obtain⟨hr,hs⟩:=ht t (by simp);exact⟨p,q,Below.trod hl hr hs h1 hb (fun x hx=>hlt x (by simp[hx])),ih _ _ _ (fun t' ht'=>ht t' (by simp[ht'])) h2 (fun x hx=>hlt x (by simp[hx])),rfl⟩
theorem UP{f:Func}{s:ChangeSpec}{W W':World}{args:Array Value}{ds gs:List (DataW H)}{before:List MemPlace}{T:TypeId}
  (hl:laidOutB P=true) (hts:f.params.toList.all (fun t=>P.readableRec t&&decide (t<P.types.size))=true)
  (hres:f.resultTypes= #[T]) (hbool:P.underlying T=some .bool) (hvars:s.vars=[])
  (hfn:s.fn H (ds++gs)={results:=[.lit (.bool true)],args:=ds})
  (hW:DataW.Whole enc P f.params.toList s.vars false W args.toList ds gs before) (hb:Below W.heap.size W W'):
  s.post enc P f false true false false W args (.bool true) W':=by
 have hlt:∀x∈before,x.block<W.heap.size:=fun x hx=>by simpa using hW.lt x hx
 have hW':=hW;obtain⟨p,q,hA,hV,rfl,hz,hn⟩:=hW;rw[hvars]at hV;refine⟨ds,gs,p++q,[],p,[],hW',?_,?_,?_,hb.frame _,fun h=>by cases h⟩
 .rw [hres,hfn];exact trodAll_cons_mk (shut_bool hbool true) trodAll_mk0
 .rw [hfn];exact qX hl hb _ _ _ _ (fun t ht=>by have:=qxw.1 hts t ht;simpa using this) hA (fun x hx=>hlt x (by simp[hx]))
 .rw [hvars,hfn];rfl
theorem we{α:Type}{f:α->List Value}{k:Nat}(hf:∀a,(f a).length=k):∀(l:List α) (i j:Nat),j<k->∀a,l[i]?=some a->(l.flatMap f)[i*k+j]?=(f a)[j]?:=by
 intro l
 induction l with
 |nil=>intro i j _ a h;simp at h
 |cons b l ih=>
  intro i j hj a h;cases i with
  |zero=>simp at h;subst h;rw[qyg,qYg,qYe,qyi (by rw[hf];exact hj)]
  |succ i=>
   simp at h;have e:(i+1)*k+j-(f b).length=i*k+j:=by rw[hf,Nat.add_mul];omega
   rw[qyg,qyj (by rw[hf,Nat.add_mul];omega),e];exact ih i j hj a h
theorem yE{α:Type}{f:α->List Value}{k:Nat}(hf:∀a,(f a).length=k)(l:List α):(l.flatMap f).length=l.length*k:=by
 induction l with
 |nil=>simp
 |cons b l ih=>rw[qyg,qzd,ih,hf,qze,Nat.add_mul];omega
theorem Ru{α:Type}[Inhabited α](f:α->List Value)(φ:α->Prop){k:Nat}(hf:∀a,(f a).length=k)(hk:0<k){W:World}{base:Nat}{t e:TypeId}{v:Value}{d:DataW H}{p:List MemPlace}(ht:P.underlying t=some (.slice e))(hc:P.cellsOf e=k)
  (hel:∀(n:Nat) (cs:List Value) (x:DataW H×List MemPlace),DataW.trod enc P W 0 (fun _=>true) true n e cs=some x->∃a,cs=f a/\φ a)
  (hok:Value.okWide P W .any base t v) (h:DataW.Trod enc P W 0 (fun _=>true) true t v d p):
  ∃l:List α,Rd W k v l.length (l.flatMap f)/\∀a∈l,φ a:=by
 obtain⟨a0,len0,cap0,rfl⟩:=okWide_slice ht hok;obtain⟨fuel,hfu⟩:=h;rcases Deep.open_slice ht hfu with⟨hcs,hx⟩|⟨a,len,cap,m,n,D,Pl,hcs,_,hl,hm,hmm,hx,hcell⟩
 .simp only[Value.cells,List.cons.injEq,Value.slice.injEq,and_true]at hcs;obtain⟨rfl,rfl,rfl⟩:=hcs;exact⟨[],⟨by simp,by simp[maxLen],none,0,rfl,fun _=>rfl,fun b hb=>by cases hb⟩,by simp⟩
 .simp only[Value.cells,List.cons.injEq,Value.slice.injEq,and_true]at hcs;obtain⟨rfl,rfl,rfl⟩:=hcs;have hmc:m=cap0:=by simpa using hmm
  have hex:∀i,∃x:α,i<len0->W.cells? 0 (a.add (i*k)) k=some (f x)/\φ x:=by
   intro i;by_cases hi:i<len0
   .obtain ⟨cs',h1,h2⟩:=hcell i (by omega);obtain⟨x,rfl,hφ⟩:=hel _ _ _ h2;rw[hc]at h1;exact⟨x,fun _=>⟨h1,hφ⟩⟩
   .exact ⟨default,fun h=>absurd h hi⟩
  have hch:∃g:Nat->α,∀i,i<len0->W.cells? 0 (a.add (i*k)) k=some (f (g i))/\φ (g i):=⟨fun i=>Classical.choose (hex i),fun i=>Classical.choose_spec (hex i)⟩
  obtain⟨g,hg⟩:=hch;refine⟨(List.range len0).map g,⟨yE hf _,by simp;omega,some a,cap0,by simp,(fun h=>by cases h),fun b hb j u hj=>?_⟩,?_⟩
  .cases hb;have hjl:=(qyp.1 hj).1;rw[yE hf,qzg,List.length_range]at hjl;have hi:j/k<len0:=(Nat.div_lt_iff_lt_mul hk).2 hjl;have hjk:j%k<k:=qYa _ hk;have he:j/k*k+j%k=j:=by rw[Nat.mul_comm];exact Nat.div_add_mod j k
   rw[<-he]at hj;rw[we hf _ (j/k) (j%k) hjk (g (j/k)) (by simp[hi])]at hj;obtain⟨_,_,h3⟩:=World.cells?_some (hg _ hi).1;have h4:=h3 (j%k) hjk;rw[hj]at h4;have e2:(a.add (j/k*k)).add (j%k)=a.add j:=by
    have:∀(x y:Nat),(a.add x).add y=a.add (x+y):=by
     intro x y;unfold Addr.add;by_cases h1:x=0<;>by_cases h2:y=0<;>simp[h1,h2,Nat.add_assoc]
    rw[this,he]
   rw[<-e2];exact h4
  .intro x hx;obtain⟨i,hi,rfl⟩:=qzv.1 hx;exact(hg i (by simpa using hi)).2
end
end Go.Proofs.YtfhfbpmlnjdfoaaGreatDoor
namespace Go.Proofs.YtfhfbpmlnjdfoaaGreatDoor
def upd1(f:Int->Option Nat)(s:Int)(o:Option Nat):Int->Option Nat:=fun x=>if x=s then o else f x
def atOf(ps:List (Int×Bool))(s:Int):Option Nat:=if s<0 then none else ps.findIdx? (fun p=>p.1==s)
structure Good(ps:List (Int×Bool))(slots:Nat):Prop where
 each:∀k (h:k<ps.length),ps[k]=(-1,false)\/(0<=ps[k].1/\ps[k].1<slots)
 inj:∀i j (hi:i<ps.length) (hj:j<ps.length),0<=ps[i].1->ps[i].1=ps[j].1->i=j
theorem yP{ps:List (Int×Bool)}{s:Int}{k:Nat}(h:atOf ps s=some k):0<=s/\∃h:k<ps.length,ps[k].1=s:=by
 unfold atOf at h;split at h
 .cases h
 .rw [List.findIdx?_eq_some_iff_getElem]at h;obtain⟨hk,h1,_⟩:=h;exact⟨by omega,hk,by simpa using h1⟩
theorem rt{ps:List (Int×Bool)}{s:Int}(h:atOf ps s=none)(hs:0<=s){k:Nat}(hk:k<ps.length):ps[k].1≠s:=by
 unfold atOf at h;rw[if_neg (by omega),List.findIdx?_eq_none_iff]at h;have:=h ps[k] (qyz hk);simpa using this
theorem Good.at{ps:List (Int×Bool)}{slots:Nat}(h:Good ps slots){k:Nat}(hk:k<ps.length)(h0:0<=ps[k].1):atOf ps ps[k].1=some k:=by
 cases ha:atOf ps ps[k].1 with
 |none=>exact absurd rfl (rt ha h0 hk)
 |some j=>
  obtain⟨_,hj,he⟩:=yP ha;rw[h.inj k j hk hj h0 he.symm]
theorem Good.iff{ps:List (Int×Bool)}{slots:Nat}(h:Good ps slots){s:Int}{k:Nat}:atOf ps s=some k↔0<=s/\∃h:k<ps.length,ps[k].1=s:=
 ⟨yP,fun⟨h0,hk,he⟩=>by subst he;exact h.at hk h0⟩
theorem sB{α:Type}{o p:Option α}(h:∀a,o=some a↔p=some a):o=p:=by
 cases o with
 |none=>cases p with
  |none=>rfl
  |some b=>exact absurd ((h b).2 rfl) (by simp)
 |some a=>exact((h a).1 rfl).symm
theorem Good.start(n slots:Nat):Good (List.replicate n (-1,false)) slots:=
 ⟨fun k h=> .inl (by simp),fun i j hi hj h0 _=>by simp at h0⟩
theorem YZ(n:Nat):atOf (List.replicate n (-1,false))=fun _=>none:=by
 funext s
 cases h:atOf (List.replicate n (-1,false)) s with
 |none=>rfl
 |some k=>
  obtain⟨h0,hk,he⟩:=yP h;simp at he;omega
section
variable{ps:List (Int×Bool)}{slots k:Nat}
theorem Good.drop(h:Good ps slots)(k:Nat):Good (ps.set k (-1,false)) slots:=by
 refine⟨fun i hi=>?_,fun i j hi hj h0 he=>?_⟩
 .rw [qzb];split
  .exact .inl rfl
  .exact h.each i (by simpa using hi)
 .rw [qzb]at h0 he;rw[qzb]at he;by_cases h1:k=i
  .simp [h1]at h0
  .by_cases h2:k=j
   .rw [if_neg h1,if_pos h2]at he;rw[if_neg h1]at h0;simp at he;omega
   .rw [if_neg h1,if_neg h2]at he;rw[if_neg h1]at h0;exact h.inj i j (by simpa using hi) (by simpa using hj) h0 he
theorem Good.atOf_drop(h:Good ps slots)(hk:k<ps.length):atOf (ps.set k (-1,false))=upd1 (atOf ps) ps[k].1 none:=by
 funext s
 refine sB fun a=>?_;rw[(h.drop k).iff];unfold upd1;constructor
 .rintro ⟨h0,ha,he⟩;rw[qzb]at he;split at he
  .simp at he;omega
  .rename_i hne
   have ha':a<ps.length:=by simpa using ha
   subst he;split
   .rename_i e
    exact absurd (h.inj a k ha' hk h0 e) (fun e=>hne e.symm)
   .exact h.at ha' h0
 .intro e;split at e
  .cases e
  .rename_i hne
   obtain⟨h0,ha,he⟩:=yP e;refine⟨h0,by simpa using ha,?_⟩;rw[qzb];split
   .rename_i e2
    subst e2;exact absurd he.symm hne
   .exact he
def mayPut(ps:List (Int×Bool))(k:Nat)(s:Int):Prop:=atOf ps s=none\/atOf ps s=some k
theorem uq(h:Good ps slots){s:Int}(hm:mayPut ps k s)(h0:0<=s){i:Nat}(hi:i<ps.length)(hne:i≠k):ps[i].1≠s:=by
 rcases hm with hm|hm
 .exact rt hm h0 hi
 .intro e;subst e;have:=h.at hi h0;rw[this]at hm;exact hne (by injection hm)
theorem Good.put(h:Good ps slots)(_:k<ps.length){s:Int}(d:Bool)(h0:0<=s)(h1:s<slots)(hm:mayPut ps k s):Good (ps.set k (s,d)) slots:=by
 refine⟨fun i hi=>?_,fun i j hi hj h2 he=>?_⟩
 .rw [qzb];split
  .exact .inr ⟨h0,h1⟩
  .exact h.each i (by simpa using hi)
 .have hi':i<ps.length:=by simpa using hi
  have hj':j<ps.length:=by simpa using hj
  rw[qzb]at h2 he;rw[qzb]at he;by_cases e1:k=i
  .by_cases e2:k=j
   .exact e1.symm.trans e2
   .rw [if_pos e1,if_neg e2]at he;exact absurd he.symm (uq h hm h0 hj' (fun e=>e2 e.symm))
  .by_cases e2:k=j
   .rw [if_neg e1,if_pos e2]at he;exact absurd he (uq h hm h0 hi' (fun e=>e1 e.symm))
   .rw [if_neg e1,if_neg e2]at he;rw[if_neg e1]at h2;exact h.inj i j hi' hj' h2 he
theorem Good.atOf_put(h:Good ps slots)(hk:k<ps.length){s:Int}(d:Bool)(h0:0<=s)(h1:s<slots)(hm:mayPut ps k s):atOf (ps.set k (s,d))=upd1 (upd1 (atOf ps) ps[k].1 none) s (some k):=by
 funext x
 refine sB fun a=>?_;rw[(h.put hk d h0 h1 hm).iff];simp only[upd1];constructor
 .rintro ⟨hx,ha,he⟩;have ha':a<ps.length:=by simpa using ha
  rw[qzb]at he;by_cases e:k=a
  .rw [if_pos e]at he;simp at he;rw[if_pos he.symm,e]
  .rw [if_neg e]at he;subst he;rw[if_neg (uq h hm h0 ha' (fun e'=>e e'.symm))];split
   .rename_i e3
    exact absurd (h.inj a k ha' hk hx e3) (fun e'=>e e'.symm)
   .exact h.at ha' hx
 .intro e;by_cases hxs:x=s
  .rw [if_pos hxs]at e;cases e;refine⟨by omega,by simpa using hk,?_⟩;rw[qzb,if_pos rfl];exact hxs.symm
  .rw [if_neg hxs]at e;split at e
   .cases e
   .rename_i hne
    obtain⟨hx,ha,he⟩:=yP e;refine⟨hx,by simpa using ha,?_⟩;rw[qzb];split
    .rename_i e2
     subst e2;exact absurd he.symm hne
    .exact he
theorem Good.clean(h:Good ps slots)(hk:k<ps.length)(h0:0<=ps[k].1):Good (ps.set k (ps[k].1,false)) slots:=by
 refine⟨fun i hi=>?_,fun i j hi hj h2 he=>?_⟩
 .rw [qzb];split
  .rcases h.each k hk with e|e
   .rw [e]at h0;simp at h0
   .exact .inr e
  .exact h.each i (by simpa using hi)
 .have e1:∀(x:Nat) (hx:x<(ps.set k (ps[k].1,false)).length),((ps.set k (ps[k].1,false))[x]).1=(ps[x]'(by simpa using hx)).1:=by
   intro x hx;rw[qzb];split
   .rename_i e;subst e;rfl
   .rfl
  rw[e1]at h2 he;rw[e1]at he;exact h.inj i j (by simpa using hi) (by simpa using hj) h2 he
theorem Good.atOf_clean(h:Good ps slots)(hk:k<ps.length)(h0:0<=ps[k].1):atOf (ps.set k (ps[k].1,false))=atOf ps:=by
 funext x
 refine sB fun a=>?_;rw[(h.clean hk h0).iff,h.iff];have e1:∀(x:Nat) (hx:x<(ps.set k (ps[k].1,false)).length),((ps.set k (ps[k].1,false))[x]).1=(ps[x]'(by simpa using hx)).1:=by
  intro x hx;rw[qzb];split
  .rename_i e;subst e;rfl
  .rfl
 constructor
 .rintro ⟨hx,ha,he⟩;rw[e1]at he;exact⟨hx,by simpa using ha,he⟩
 .rintro ⟨hx,ha,he⟩;exact⟨hx,by simpa using ha,by rw[e1];exact he⟩
end
open Go Go.RowKit Go.Maps
def MapAt(w:World)(mb N:Nat)(f:Int->Option Nat):Prop:=
 ∃D:DataW Unit,w.ownsMap Tryz.prog 3 (plainElem Tryz.prog 3) mb N D/\
  ∀s:Int,Maps.has D (.int .i64 s)=(f s).isSome/\∀c,f s=some c->∀z,D.atKey (.int .i64 s) z=.lit (.int .i64 (c:Int))
theorem yx:Keyed Tryz.prog 3:=int_keyed Tryz.underlying3
theorem wfI{x:Int}(h1: -9223372036854775808<=x)(h2:x<9223372036854775808):(Lit.int .i64 x).wf=true:=by
 have e1:IntKind.i64.min= -9223372036854775808:=by decide
 have e2:IntKind.i64.max=9223372036854775807:=by decide
 simp only[Lit.wf,e1,e2,qxo,qYz];omega
theorem tr{x:Int}(h1: -9223372036854775808<=x)(h2:x<9223372036854775808):keyOf Tryz.prog 3 (.int .i64 x)=some (.int .i64 x):=keyOf_int_mk Tryz.underlying3 (wfI h1 h2)
theorem MapAt.lt{w:World}{mb N:Nat}{f:Int->Option Nat}(h:MapAt w mb N f):mb<w.heap.size:=by obtain⟨D,h,_⟩:=h;exact h.lt
theorem MapAt.keep{w w':World}{mb N:Nat}{f:Int->Option Nat}(h:MapAt w mb N f){S:Nat->Prop}(hu:Upd S w w')(hs:¬S mb):MapAt w' mb N f:=by
 obtain⟨D,⟨es,clock,hb,r⟩,hf⟩:=h;exact⟨D,⟨es,clock,(hu.block _ (zd hb) hs).trans hb,r⟩,hf⟩
theorem MapAt.mono{w:World}{mb N N':Nat}{f:Int->Option Nat}(h:MapAt w mb N f)(hn:N<=N'):MapAt w mb N' f:=by obtain⟨D,h,hf⟩:=h;exact⟨D,h.mono hn,hf⟩
theorem MapAt.made(w:World):MapAt (w.alloc (.map #[] 0)) w.heap.size 0 (fun _=>none):=
 ⟨.map [],World.ownsMap_made w _ _ _,fun s=>⟨rfl,fun c h=>by cases h⟩⟩
theorem yy{w w':World}{b:Nat}(h:w.mapTurned w' b):Upd (fun j=>j=b) w w':=by
 obtain⟨a,b',c,d,e⟩:=h.grown;exact⟨a,b',c,d,fun i hi hs=>e i hi (fun e=>hs (by simpa using e))⟩
theorem yt{w w':World}{b:Nat}(h:w.mapTurned w' b):w'.heap.size=w.heap.size:=by
 obtain⟨es,clock,es',clock',hb,rfl⟩:=h;simp[Go.ChangeMaps.setBlock]
theorem UQ(w:World):(zeroValue 3).run Tryz.prog w=.ok (.int .i64 0) w:=by
 exact Tryz.zeroValue3 w
theorem MapAt.look{w:World}{mb N:Nat}{f:Int->Option Nat}(h:MapAt w mb N f){x:Int}(h1: -9223372036854775808<=x)(h2:x<9223372036854775808):
  (Instr.lookup 116 (.map (some mb)) (.int .i64 x) true).run Tryz.prog w=.ok (.tuple #[.int .i64 (((f x).getD 0:Nat):Int),.bool (f x).isSome]) w:=by
 obtain⟨D,ho,hf⟩:=h;obtain⟨v,ps,hr,hv⟩:=ho.look_ok yx Tryz.underlying116 (UQ w) (plainElem_int Tryz.underlying3 (by decide)) (tr h1 h2);obtain⟨c,rfl,hc,hwc⟩:=plainElem_int_inv Tryz.underlying3 hv;simp only[qYk]at hc;rw[hr,(hf x).1];have:c=(((f x).getD 0:Nat):Int):=by
  cases hx:f x with
  |none=>
   have h0:=(hf x).1;rw[hx]at h0;have:=atKey_of_not_has (D:=D) h0 (.lit (.int .i64 0));rw[this]at hc;simp at hc;simpa using hc.1.symm
  |some c'=>
   have:=(hf x).2 c' hx (.lit (.int .i64 0));rw[this]at hc;simp at hc;simpa using hc.1.symm
 rw[this]
theorem MapAt.drop{w:World}{mb N:Nat}{f:Int->Option Nat}(h:MapAt w mb N f){x:Int}(h1: -9223372036854775808<=x)(h2:x<9223372036854775808)(ty:TypeId):
  ∃w',(Builtin.delete_ #[116,3] ty #[.map (some mb),.int .i64 x]).run Tryz.prog w=.ok (.tuple #[]) w'/\MapAt w' mb N (upd1 f x none)/\Upd (fun j=>j=mb) w w'/\w'.heap.size=w.heap.size:=by
 obtain⟨D,ho,hf⟩:=h;obtain⟨w',hr,ho',ht⟩:=ho.drop yx Tryz.underlying116 (tr h1 h2) ty;refine⟨w',hr,⟨_,ho',fun s=>?_⟩,yy ht,yt ht⟩;by_cases hs:s=x
 .subst hs;simp[upd1,has_del_same]
 .have hne:Lit.int .i64 s≠Lit.int .i64 x:=fun e=>hs (by injection e);simp only[upd1,if_neg hs,has_del_other hne];exact⟨(hf s).1,fun c hc z=>by rw[atKey_del_other hne];exact(hf s).2 c hc z⟩
theorem MapAt.store{w:World}{mb N:Nat}{f:Int->Option Nat}(h:MapAt w mb N f){x:Int}(h1: -9223372036854775808<=x)(h2:x<9223372036854775808)(c:Nat)(hc:c<9223372036854775808)(hn:N<maxLen):
  ∃w',(Instr.mapUpdate 116 (.map (some mb)) (.int .i64 x) (.int .i64 (c:Int))).run Tryz.prog w=.ok () w'/\MapAt w' mb (N+1) (upd1 f x (some c))/\Upd (fun j=>j=mb) w w'/\w'.heap.size=w.heap.size:=by
 obtain⟨D,ho,hf⟩:=h;have hM:=ho.isMap;have hK:∀y:Int,WideAt.IsKeyLit (.int .i64 y):=fun _=>trivial;obtain⟨w',hr,ho',ht⟩:=ho.store (ps:=[]) (d:=.lit (.int .i64 (c:Int))) yx Tryz.underlying116 hn (tr h1 h2) (plainElem_int Tryz.underlying3 (wfI (by omega) (by omega)));refine⟨w',hr,⟨_,ho',fun s=>?_⟩,yy ht,yt ht⟩;by_cases hs:s=x
 .subst hs;simp only[upd1];exact⟨by rw[has_put_same hM (hK _)];simp,fun c' hc' z=>by simp at hc';subst hc';exact atKey_put_same hM (hK _) _ _⟩
 .have hne:Lit.int .i64 s≠Lit.int .i64 x:=fun e=>hs (by injection e);simp only[upd1,if_neg hs,has_put_other hne];exact⟨(hf s).1,fun c hc z=>by rw[atKey_put_other hne];exact(hf s).2 c hc z⟩
def SetAt(w:World)(mb N:Nat)(A:Int->Bool):Prop:=
 ∃D:DataW Unit,w.ownsMap Tryz.prog 3 unitElem mb N D/\∀s:Int,Maps.has D (.int .i64 s)=A s
theorem SetAt.lt{w:World}{mb N:Nat}{A:Int->Bool}(h:SetAt w mb N A):mb<w.heap.size:=by obtain⟨D,h,_⟩:=h;exact h.lt
theorem SetAt.keep{w w':World}{mb N:Nat}{A:Int->Bool}(h:SetAt w mb N A){S:Nat->Prop}(hu:Upd S w w')(hs:¬S mb):SetAt w' mb N A:=by
 obtain⟨D,⟨es,clock,hb,r⟩,hf⟩:=h;exact⟨D,⟨es,clock,(hu.block _ (zd hb) hs).trans hb,r⟩,hf⟩
theorem SetAt.mono{w:World}{mb N N':Nat}{A:Int->Bool}(h:SetAt w mb N A)(hn:N<=N'):SetAt w mb N' A:=by obtain⟨D,h,hf⟩:=h;exact⟨D,h.mono hn,hf⟩
theorem SetAt.made(w:World):SetAt (w.alloc (.map #[] 0)) w.heap.size 0 (fun _=>false):=
 ⟨.map [],World.ownsMap_made w _ _ _,fun _s=>rfl⟩
def updB(A:Int->Bool)(x:Int)(v:Bool):Int->Bool:=fun s=>if s=x then v else A s
def InR(x:Int):Prop:= -9223372036854775808<=x/\x<9223372036854775808
theorem Au(w:World):(zeroValue 370).run Tryz.prog w=.ok (.agg #[]) w:=by
 exact Tryz.zeroValue370 w
theorem SetAt.look{w:World}{mb N:Nat}{A:Int->Bool}(h:SetAt w mb N A){x:Int}(hx:InR x):
  (Instr.lookup 331 (.map (some mb)) (.int .i64 x) true).run Tryz.prog w=.ok (.tuple #[.agg #[],.bool (A x)]) w:=by
 obtain⟨D,ho,hf⟩:=h;obtain⟨v,ps,hr,hv⟩:=ho.look_ok yx Tryz.underlying331 (Au w) unitElem_mk (tr hx.1 hx.2);obtain⟨rfl,_⟩:=unitElem_inv hv;rw[hr,hf x]
theorem SetAt.drop{w:World}{mb N:Nat}{A:Int->Bool}(h:SetAt w mb N A){x:Int}(hx:InR x)(ty:TypeId):
  ∃w',(Builtin.delete_ #[331,3] ty #[.map (some mb),.int .i64 x]).run Tryz.prog w=.ok (.tuple #[]) w'/\SetAt w' mb N (updB A x false)/\Upd (fun j=>j=mb) w w'/\w'.heap.size=w.heap.size:=by
 obtain⟨D,ho,hf⟩:=h;obtain⟨w',hr,ho',ht⟩:=ho.drop yx Tryz.underlying331 (tr hx.1 hx.2) ty;refine⟨w',hr,⟨_,ho',fun s=>?_⟩,yy ht,yt ht⟩;by_cases hs:s=x
 .subst hs;simp[updB,has_del_same]
 .have hne:Lit.int .i64 s≠Lit.int .i64 x:=fun e=>hs (by injection e);simp only[updB,if_neg hs,has_del_other hne];exact hf s
theorem SetAt.store{w:World}{mb N:Nat}{A:Int->Bool}(h:SetAt w mb N A){x:Int}(hx:InR x)(hn:N<maxLen):
  ∃w',(Instr.mapUpdate 331 (.map (some mb)) (.int .i64 x) (.agg #[])).run Tryz.prog w=.ok () w'/\SetAt w' mb (N+1) (updB A x true)/\Upd (fun j=>j=mb) w w'/\w'.heap.size=w.heap.size:=by
 obtain⟨D,ho,hf⟩:=h;have hM:=ho.isMap;have hK:∀y:Int,WideAt.IsKeyLit (.int .i64 y):=fun _=>trivial;obtain⟨w',hr,ho',ht⟩:=ho.store (ps:=[]) (d:=.agg []) yx Tryz.underlying331 hn (tr hx.1 hx.2) unitElem_mk;refine⟨w',hr,⟨_,ho',fun s=>?_⟩,yy ht,yt ht⟩;by_cases hs:s=x
 .subst hs;simp only[updB,if_true];rw[has_put_same hM (hK _)]
 .have hne:Lit.int .i64 s≠Lit.int .i64 x:=fun e=>hs (by injection e);simp only[updB,if_neg hs,has_put_other hne];exact hf s
theorem yQ{w:World}{mb N:Nat}{A:Int->Bool}(h:SetAt w mb N A):
  Calls Tryz.prog 235 #[.map (some mb)] w fun e w'=>e=.returned (.map (some w.heap.size))/\SetAt w' w.heap.size N A/\Below w.heap.size w w':=by
 obtain⟨D,⟨es,clock,hb,hF,hs,hD⟩,hf⟩:=h;have hq:=fun w=>run_eql_map_nil_sl (P:=Tryz.prog) w 331 _ _ (some mb) Tryz.underlying331;have hend:SetAt (w.alloc (.map es clock)) w.heap.size N A:=⟨D,⟨es,clock,(MapKept.heap_alloc w _).1,hF,hs,hD⟩,hf⟩
 have HE:=qqh hend;clear hend hf hD hs hF;go_enter Tryz.func235,Tryz.ntmps235
 go_wp2
 rw[run_callFunc_extern Tryz.func301 (by kernel_rfl) (by kernel_rfl) (by kernel_rfl) (e:=Extern.MapsClone.clone) (by kernel_rfl),run_maps_clone_sl w 331 hb];simp only[Result.andThen];rw[Oper.upon_value];go_wp2
 rw[run_typeAssert_map_sl _ 331 _ _ _ _ Tryz.underlying331];simp only[Result.andThen];rw[Oper.upon_value];go_wp2
 go_ret
 exact⟨rfl,HE.o,(qxl _ _).alloc (qXv _) _⟩
theorem vH{w:World}{mb N:Nat}{A:Int->Bool}(h:SetAt w mb N A)(k:Int)(hk:InR k):
  Calls Tryz.prog 236 #[.map (some mb),.int .i64 k] w fun e w'=>e=.returned (.bool (A k))/\Below w.heap.size w w':=by
 have hmf:=qqf;have hl:=(SetAt.keep h ((uur (fun _=>False) w).alloc (.cells #[.bool false] 4)) (fun h=>h)).look hk;clear h
 go_enter_defers Tryz.func236,Tryz.ntmps236
 go_wp2
 refine leaves_cons (f:=302) (args:= #[.pointer (some ⟨w.heap.size,0,none⟩)]) (by simp) (by simp[go_sem]) ?_;refine(qW _ _).mono ?_;rintro e u' w'' ⟨rfl,rfl,rfl⟩;simp[Leaves,settle,results,Tryz.results236,go_sem];exact(qxl _ _).alloc (qXv _) _
end Go.Proofs.YtfhfbpmlnjdfoaaGreatDoor
namespace Go.Proofs.YtfhfbpmlnjdfoaaGreatDoor
open Go Go.RowKit Go.Maps Go.WideElems
theorem ZI:∀(n:Nat) (l:List Int),l.Nodup->(∀x∈l,-1<=x/\x<(n:Int))->l.length<=n+1:=by
 intro n
 induction n with
 |zero=>
  intro l hd hr
  match l,hd,hr with
  |[],_,_=>simp
  |[_],_,_=>simp
  |a::b::l,hd,hr=>
   have h1:=hr a (by simp);have h2:=hr b (by simp);have:a=b:=by omega
   simp[this]at hd
 |succ n ih=>
  intro l hd hr;have h1:=ih (l.erase (n:Int)) (hd.erase _) (fun x hx=>by
   have h2:=hr x (qzw hx);have h3:x≠(n:Int):=fun e=>by subst e;exact(List.Nodup.not_mem_erase hd) hx
   omega)
  have h4:l.length<=(l.erase (n:Int)).length+1:=by
   rw[List.length_erase];split<;>omega
  omega
theorem Xa{R:Value->Option (DataW Unit×List MemPlace)}{w:World}{mb N:Nat}{D:DataW Unit}(h:w.ownsMap Tryz.prog 3 R mb N D)(n:Nat)(hr:∀s:Int,Maps.has D (.int .i64 s)=true->-1<=s/\s<(n:Int)):
  w.ownsMap Tryz.prog 3 R mb (n+1) D:=by
 obtain⟨es,clock,hb,F,hs,rfl⟩:=h;refine⟨es,clock,hb,F,?_,rfl⟩;have hk:∀x∈es.toList,∃c:Int,x.key=.int .i64 c/\Maps.has (DataW.map ((es.toList.map (rg Tryz.prog 3 R)).foldr DataW.insert [])) (.int .i64 c)=true:=by
  intro x hx;obtain⟨y,hy⟩:=F.reads x hx;obtain⟨c,h1,h2⟩:=Maps.keyOf_int_inv Tryz.underlying3 (rd_key hy);refine⟨c,h1,?_⟩;have h3:(rg Tryz.prog 3 R x).1=.int .i64 c:=by rw[rg_of hy];exact h2.1
  exact List.any_eq_true.2 ⟨rg Tryz.prog 3 R x,mem_sorted.2 (qzv.2 ⟨x,hx,rfl⟩),by rw[h3];exact WideAt.sameKey_self trivial⟩
 let g:MapEntry->Int:=fun x=>match x.key with| .int _ c=>c|_=>0
 have hg:∀x∈es.toList,x.key=.int .i64 (g x):=by
  intro x hx;obtain⟨c,h1,-⟩:=hk x hx;simp only[g,h1]
 have hnd:(es.toList.map g).Nodup:=by
  rw[List.Nodup,qXf];have:=((MapKept.stamped_iff es clock).1 F.stamped).2.2;refine List.Pairwise.imp_of_mem (fun{a b} ha hb' hne e=>hne ?_) this;rw[hg a ha,hg b hb',e]
 have:=ZI n _ hnd (fun s hs=>by
  obtain⟨x,hx,rfl⟩:=qzv.1 hs;obtain⟨c,h1,h2⟩:=hk x hx;have h3:g x=c:=by have:=hg x hx;rw[h1]at this;injection this with _ h;exact h.symm
  rw[h3];exact hr c h2)
 simpa using this
theorem SetAt.tight{w:World}{mb N:Nat}{A:Int->Bool}(h:SetAt w mb N A)(n:Nat)(hr:∀s:Int,A s=true->-1<=s/\s<(n:Int)):SetAt w mb (n+1) A:=by
 obtain⟨D,ho,hf⟩:=h;exact⟨D,Xa ho n (fun s hs=>hr s (by rw[<-hf];exact hs)),hf⟩
theorem SetAt.clear{w:World}{mb N:Nat}{A:Int->Bool}(h:SetAt w mb N A):
  ∃w',(∀ty,(Builtin.clear_ #[331] ty #[.map (some mb)]).run Tryz.prog w=.ok (.tuple #[]) w')/\SetAt w' mb N (fun _=>false)/\Upd (fun j=>j=mb) w w'/\w'.heap.size=w.heap.size:=by
 obtain⟨D,⟨es,clock,hb,F,hs,rfl⟩,hf⟩:=h;refine⟨ChangeMaps.setBlock w mb (.map #[] clock),?_,⟨.map [],⟨#[],clock,(MapKept.heap_set hb).1,⟨by simp,MapKept.stamped_empty _,by simp⟩,by simp,rfl⟩,fun s=>rfl⟩,?_,by simp[ChangeMaps.setBlock]⟩
 .intro ty;simp[Builtin.clear_,run_underlying Tryz.underlying331,MapKept.run_getObj_map hb,MapKept.run_setObj_map _ hb,Result.andThen,ChangeMaps.setBlock]
 .exact ⟨rfl,rfl,rfl,by simp[ChangeMaps.setBlock],fun k _ hk=>(MapKept.heap_set hb).2 k hk⟩
end Go.Proofs.YtfhfbpmlnjdfoaaGreatDoor
