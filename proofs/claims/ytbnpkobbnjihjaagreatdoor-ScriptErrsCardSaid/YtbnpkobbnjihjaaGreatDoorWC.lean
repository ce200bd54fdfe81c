/- An array of integers as an argument of a card: -/
import Derived.Test.YtbnpkobbnjihjaaGreatDoorWT
import Derived.Test.YtbnpkobbnjihjaaGreatDoorWY
set_option maxRecDepth 100000
namespace Go.Proofs.YtbnpkobbnjihjaaGreatDoor
open Go Go.RowKit
variable{v:Value}
section
variable{H:Type}{enc:TypeId×Value->H}{P:Program}{W:World}{base:Nat}{sp:Nat->Bool}{held:Bool}{t e:TypeId}{n:Nat}{q:IntKind}
theorem ZA(j:P.underlying e=some (.int q)){m:Nat}{cs:List Value}:∀(L:List Nat) (xs:List (DataW H×List MemPlace)),
  L.mapM (fun i=>DataW.trod enc P W base sp held m e ((cs.drop (i*1)).take 1))=some xs->
  ∃l:List Int,l.length=L.length/\xs=l.map (fun x=>(.lit (.int q x),[]))/\(∀x∈l,(Lit.int q x).wf=true)/\∀(p i:Nat),L[p]?=some i->cs[i]?=(l[p]?).map (Value.int q)
 |[],xs,h=>by
  simp at h;subst h;exact⟨[],rfl,rfl,fun _ h=>by simp at h,fun _ _ h=>by simp at h⟩
 |i::L,xs,h=>by
  rw[List.mapM_cons]at h;simp only[bind,Option.bind_eq_some_iff,pure,Option.some.injEq]at h;obtain⟨y,hy,k,s,rfl⟩:=h;obtain⟨l,h1,rfl,w,A⟩:=ZA j L k s;obtain⟨a,D,rfl,E⟩:=DataW.trod_int j hy;refine⟨a::l,by simp[h1],rfl,fun x hx=>?_,fun p F b=>?_⟩
  .rcases qzm.1 hx with rfl|hx
   .exact E
   .exact w x hx
  .cases p with
   |zero=>
    simp at b;subst b;have:((cs.drop (i*1)).take 1)[0]?=some (.int q a):=by rw[D];rfl
    rw[List.getElem?_take_of_lt oM,qyi]at this;simpa using this
   |succ p=>simpa using A p F (by simpa using b)
theorem sK{r:Reach}{A:Nat}{d:DataW H}{ps:List MemPlace}(k:P.underlying t=some (.array n e))(D:P.underlying e=some (.int q))(p:P.cellsOf t=n)(E:P.cellsOf e=1)(s:Value.okWide P W r A t v)(F:DataW.Trod enc P W base sp held t v d ps):
  ∃l:List Int,l.length=n/\v=.agg (l.map (Value.int q)).toArray/\d=.agg (l.map fun x=> .lit (.int q x))/\ps=[]/\∀x∈l,(Lit.int q x).wf=true:=by
 simp only[Value.okWide,k]at s;obtain⟨cs,rfl,h2,-⟩:=s;rw[p]at h2;obtain⟨G,b⟩:=F;cases G with
 |zero=>simp[DataW.trod]at b
 |succ m=>
  rw[DataW.trod_step]at b;unfold DataW.trodStep at b;simp only[k,Value.cells]at b;rw[if_pos (by rw[p];simpa using h2)]at b;simp only[qYc,E]at b;obtain⟨J,hy,j⟩:=b;obtain⟨l,w,rfl,K,L⟩:=ZA D _ J hy;rw[List.length_range]at w;simp only[qYe]at j;refine⟨l,w,?_,by rw[<-j.1];simp[Function.comp_def],by rw[<-j.2];simp[List.flatMap_eq_nil_iff],K⟩
  congr 1
  apply qxd
  intro i;by_cases M:i<n
  .have:=L i i (by rw[List.getElem?_range M]);simpa using this
  .rw [qxf oM,qxf og]
end
open Go Go.RowKit Go.ChangeShapes Go.WideShapes Go.ChangeAt
theorem zbR:Tryz.prog.cellsOf 25=5:=kR
instance:Inhabited O21:=⟨⟨0,0,0,0,.slice none 0 0⟩⟩
section
variable{H:Type}{enc:TypeId×Value->H}{W:World}
theorem zbS(n:Nat)(cs:List Value)(x:DataW H×List MemPlace)(p:DataW.trod enc Tryz.prog W 0 (fun _=>true) true n 25 cs=some x):∃a:O21,cs=opC21 a/\(a.kp.oneCell'=true/\∃s c,a.kp=.slice s (kpN a.kp) c):=by
 obtain⟨w,m,_,rfl,j,A,b⟩:=DataW.trod_struct Tryz.underlying25 p;rw[zbR]at j
 match cs,j,w,A with
 |[M,c1,c2,N,O],_,[Q,R,S,T,U],_=>
  have D:=b 0 _ rfl;have h1:=b 1 _ rfl;have h2:=b 2 _ rfl;have E:=b 3 _ rfl;have F:=b 4 _ rfl;obtain⟨a,G,_,_⟩:=DataW.trod_int Tryz.underlying3 D;obtain⟨k,J,_,_⟩:=DataW.trod_int Tryz.underlying3 h1;obtain⟨c,K,_,_⟩:=DataW.trod_int Tryz.underlying3 h2;obtain⟨d,L,_,_⟩:=DataW.trod_int Tryz.underlying3 E;cases G;cases J;cases K;cases L;rcases DataW.trod_slice Tryz.underlying23 F with⟨h,-⟩|⟨V,len,X,Y,Z,a6,-,h,-⟩
  .cases h;exact⟨⟨a,k,c,d,_⟩,rfl,rfl,_,_,rfl⟩
  .cases h;exact⟨⟨a,k,c,d,_⟩,rfl,rfl,_,_,rfl⟩
theorem YM{base:Nat}{d:DataW H}{p:List MemPlace}(b:Value.okWide Tryz.prog W .any base 22 v)(h:DataW.Trod enc Tryz.prog W 0 (fun _=>true) true 22 v d p):∃x y z:Int,v=.agg #[.int .i64 x,.int .i64 y,.int .i64 z]:=by
 obtain⟨j,k,rfl,rfl,rfl,s⟩:=sK Tryz.underlying22 Tryz.underlying3 kR kR b h
 match j,k with
 |[x,y,z],_=>exact⟨x,y,z,rfl⟩
end
section
variable{H:Type}{enc:TypeId×Value->H}{W:World}
theorem RE{base:Nat}{d:DataW H}{p:List MemPlace}(b:Value.okWide Tryz.prog W .any base 25 v)(w:DataW.Trod enc Tryz.prog W 0 (fun _=>true) true 25 v d p):
  ∃(d fr m fi:Int) (ak:Option Addr) (nk ck:Nat),v=.agg #[.int .i64 d,.int .i64 fr,.int .i64 m,.int .i64 fi,.slice ak nk ck]:=by
 have A:∃cs,v=.agg cs:=by
  unfold Value.okWide at b;rw[Tryz.underlying25]at b;obtain⟨cs,h1,_⟩:=b;exact⟨cs,h1⟩
 obtain⟨cs,rfl⟩:=A;obtain⟨D,k⟩:=w;simp only[Value.cells]at k;obtain⟨a,E,-,s,c,h⟩:=zbS D cs.toList _ k;have e:cs=(opC21 a).toArray:=by rw[<- @Array.toArray_toList _ cs,E]
 obtain⟨d,fr,m,fi,j⟩:=a;replace h:j=.slice s (kpN j) c:=h;exact⟨d,fr,m,fi,s,kpN j,c,by rw[e,<-h];rfl⟩
end
end Go.Proofs.YtbnpkobbnjihjaaGreatDoor
namespace Go.Proofs.YtbnpkobbnjihjaaGreatDoor.scriptErrs
open Go Go.RowKit Go.ChangeShapes Go.WideShapes Go.ChangeAt Go.Proofs.YtbnpkobbnjihjaaGreatDoor
theorem own:ownKnob Tryz.prog.godebug=none:=kR
theorem tp(H:Type)(enc:TypeId×Value->H)(W:World)(base:Nat)(args:Array Value)(k gs:List (DataW H))(E:List MemPlace)
  (b:∀(j:Nat) t v,Tryz.f3.params[j]?=some t->args[j]?=some v->Value.okWide Tryz.prog W .any base t v)
  (p:DataW.Whole enc Tryz.prog Tryz.f3.params.toList Rows.scriptErrsSpec.vars false W args.toList k gs E) (s:laidMetH Tryz.prog Rows.scriptErrsRow.laid W):
  Calls Tryz.prog 3 args W fun e w=>∃v,e=.returned v/\Rows.scriptErrsSpec.post enc Tryz.prog Tryz.f3 false true false false W args v w:=by
 have F:=p;obtain⟨G,q,J,K,rfl,Z,a6⟩:=p;have A:DataW.TrodAll enc Tryz.prog W 0 (fun _=>true) true Tryz.f3.params.toList args.toList k G:=J;rw[Tryz.params3]at A b;obtain⟨v0,a7,a8,aa,ab,ad,ae,rfl,rfl,L,M⟩:=trodAll_cons A;obtain⟨D,af,ag,ah,ai,q1,rfl,rfl,rfl,h1,N⟩:=trodAll_cons M;obtain⟨rfl,rfl,rfl⟩:=trodAll_nil N;obtain rfl:args= #[v0,D]:=by cases args;simp_all
 obtain⟨rfl,rfl⟩:=trodVars_none K;obtain⟨t0,O,Q,rfl⟩:=YM (b 0 22 v0 rfl rfl) L;obtain⟨d,R,m,S,U,V,ck,rfl⟩:=RE (b 1 25 D rfl rfl) h1;refine(RH t0 O Q d R m S U V ck W (Az s).1 (Az s).2).mono fun e w ⟨X,Y⟩=>?_;subst X;exact⟨_,rfl,RJ (T:=4) kR kR rfl Tryz.underlying4 rfl rfl F Y⟩
theorem Au(os:Os):laidMet Tryz.prog Rows.scriptErrsRow.laid ((laidWorld os).forCall (fun _ _=>0) ⟨#[],#[.agg #[.int .i64 0,.int .i64 0,.int .i64 0],.agg #[.int .i64 0,.int .i64 0,.int .i64 0,.int .i64 0,.slice none 0 0]],[]⟩).memory:=
 laidMet_of_run' 8 kR kR
theorem reads(os:Os){H:Type}(enc:TypeId×Value->H):∃b,DataW.whole enc Tryz.prog ((laidWorld os).forCall (fun _ _=>0) ⟨#[],#[.agg #[.int .i64 0,.int .i64 0,.int .i64 0],.agg #[.int .i64 0,.int .i64 0,.int .i64 0,.int .i64 0,.slice none 0 0]],[]⟩).memory Tryz.f3.params.toList Rows.scriptErrsSpec.vars false (#[.agg #[.int .i64 0,.int .i64 0,.int .i64 0],.agg #[.int .i64 0,.int .i64 0,.int .i64 0,.int .i64 0,.slice none 0 0]]:Array Value).toList 8=some ([.agg [.lit (.int .i64 0),.lit (.int .i64 0),.lit (.int .i64 0)],.agg [.lit (.int .i64 0),.lit (.int .i64 0),.lit (.int .i64 0),.lit (.int .i64 0),.nil]],[],b):=
 ⟨[],kR⟩
theorem lifted(os:Os)(b:os.Started)(H:Type)(enc:TypeId×Value->H)(F:Stop.Interp):
  ReturnsInHanded {} Tryz.checked os 3 .any ((OpenSpec.ofChange Rows.scriptErrsSpec).preRow enc Tryz.prog Tryz.f3 Rows.scriptErrsRow.domain false Rows.scriptErrsRow.laid) (((OpenSpec.ofChange Rows.scriptErrsSpec).at F).post enc Tryz.prog Tryz.f3 false true false false):=by
 obtain⟨G,hx⟩:=reads os enc;refine returnsInHanded_of_row (C:=Tryz.checked) (s:=OpenSpec.ofChange Rows.scriptErrsSpec) own b kR Tryz.func3
  (witness_row_at (enc:=enc) (C:=Tryz.checked) false (laidWorld os) #[.agg #[.int .i64 0,.int .i64 0,.int .i64 0],.agg #[.int .i64 0,.int .i64 0,.int .i64 0,.int .i64 0,.slice none 0 0]] rfl kR kR kR
   (OpenSpec.preRow_of_cond 8 hx kR (fun J j=>by cases j) kR (Au os))) ?_
 intro W base k p gs w A D _ _ _ E _ _;exact tp H enc W base k p gs w A D E
end Go.Proofs.YtbnpkobbnjihjaaGreatDoor.scriptErrs
