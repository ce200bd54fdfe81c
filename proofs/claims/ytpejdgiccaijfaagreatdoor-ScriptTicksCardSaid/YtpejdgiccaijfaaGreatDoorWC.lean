/- An array of integers as an argument of a card: -/
import Derived.Test.YtpejdgiccaijfaaGreatDoorWT
import Derived.Test.YtpejdgiccaijfaaGreatDoorWY
set_option maxRecDepth 100000
namespace Go.Proofs.YtpejdgiccaijfaaGreatDoor
open Go Go.RowKit
variable{v:Value}
section
variable{H:Type}{enc:TypeId×Value->H}{P:Program}{W:World}{base:Nat}{sp:Nat->Bool}{held:Bool}{t e:TypeId}{n:Nat}{q:IntKind}
theorem Yd(b:P.underlying e=some (.int q)){m:Nat}{cs:List Value}:∀(L:List Nat) (xs:List (DataW H×List MemPlace)),
  L.mapM (fun i=>DataW.trod enc P W base sp held m e ((cs.drop (i*1)).take 1))=some xs->
  ∃l:List Int,l.length=L.length/\xs=l.map (fun x=>(.lit (.int q x),[]))/\(∀x∈l,(Lit.int q x).wf=true)/\∀(p i:Nat),L[p]?=some i->cs[i]?=(l[p]?).map (Value.int q)
 |[],xs,h=>by
  simp at h;subst h;exact⟨[],rfl,rfl,fun _ h=>by simp at h,fun _ _ h=>by simp at h⟩
 |i::L,xs,h=>by
  rw[List.mapM_cons]at h;simp only[bind,Option.bind_eq_some_iff,pure,Option.some.injEq]at h;obtain⟨y,hy,k,s,rfl⟩:=h;obtain⟨l,h1,rfl,w,A⟩:=Yd b L k s;obtain⟨j,D,rfl,E⟩:=DataW.trod_int b hy;refine⟨j::l,by simp[h1],rfl,fun x hx=>?_,fun p F a=>?_⟩
  .rcases qzn.1 hx with rfl|hx
   .exact E
   .exact w x hx
  .cases p with
   |zero=>
    simp at a;subst a;have:((cs.drop (i*1)).take 1)[0]?=some (.int q j):=by rw[D];rfl
    rw[List.getElem?_take_of_lt oM,qyj]at this;simpa using this
   |succ p=>simpa using A p F (by simpa using a)
theorem Zs{r:Reach}{w:Nat}{d:DataW H}{ps:List MemPlace}(j:P.underlying t=some (.array n e))(A:P.underlying e=some (.int q))(k:P.cellsOf t=n)(D:P.cellsOf e=1)(p:Value.okWide P W r w t v)(E:DataW.Trod enc P W base sp held t v d ps):
  ∃l:List Int,l.length=n/\v=.agg (l.map (Value.int q)).toArray/\d=.agg (l.map fun x=> .lit (.int q x))/\ps=[]/\∀x∈l,(Lit.int q x).wf=true:=by
 simp only[Value.okWide,j]at p;obtain⟨cs,rfl,h2,-⟩:=p;rw[k]at h2;obtain⟨F,a⟩:=E;cases F with
 |zero=>simp[DataW.trod]at a
 |succ m=>
  rw[DataW.trod_step]at a;unfold DataW.trodStep at a;simp only[j,Value.cells]at a;rw[if_pos (by rw[k];simpa using h2)]at a;simp only[qYc,D]at a;obtain⟨G,hy,b⟩:=a;obtain⟨l,s,rfl,J,L⟩:=Yd A _ G hy;rw[List.length_range]at s;simp only[qYe]at b;refine⟨l,s,?_,by rw[<-b.1];simp[Function.comp_def],by rw[<-b.2];simp[List.flatMap_eq_nil_iff],J⟩
  congr 1
  apply qxd
  intro i;by_cases M:i<n
  .have:=L i i (by rw[List.getElem?_range M]);simpa using this
  .rw [qxf oM,qxf og]
end
open Go Go.RowKit Go.ChangeShapes Go.WideShapes Go.ChangeAt
theorem TZ:Tryz.prog.cellsOf 30=5:=kR
instance:Inhabited O21:=⟨⟨0,0,0,0,.slice none 0 0⟩⟩
section
variable{H:Type}{enc:TypeId×Value->H}{W:World}
theorem zbA(n:Nat)(cs:List Value)(x:DataW H×List MemPlace)(p:DataW.trod enc Tryz.prog W 0 (fun _=>true) true n 30 cs=some x):∃a:O21,cs=sS a/\(a.kp.oneCell'=true/\∃s c,a.kp=.slice s (kpN a.kp) c):=by
 obtain⟨w,m,_,rfl,j,A,b⟩:=DataW.trod_struct Tryz.underlying30 p;rw[TZ]at j
 match cs,j,w,A with
 |[N,c1,c2,O,Q],_,[S,T,U,V,X],_=>
  have D:=b 0 _ rfl;have h1:=b 1 _ rfl;have h2:=b 2 _ rfl;have E:=b 3 _ rfl;have F:=b 4 _ rfl;obtain⟨a,G,_,_⟩:=DataW.trod_int Tryz.underlying3 D;obtain⟨k,J,_,_⟩:=DataW.trod_int Tryz.underlying3 h1;obtain⟨c,L,_,_⟩:=DataW.trod_int Tryz.underlying3 h2;obtain⟨d,M,_,_⟩:=DataW.trod_int Tryz.underlying3 E;cases G;cases J;cases L;cases M;rcases DataW.trod_slice Tryz.underlying28 F with⟨h,-⟩|⟨Y,len,Z,a6,a7,a8,-,h,-⟩
  .cases h;exact⟨⟨a,k,c,d,_⟩,rfl,rfl,_,_,rfl⟩
  .cases h;exact⟨⟨a,k,c,d,_⟩,rfl,rfl,_,_,rfl⟩
theorem Vf{base:Nat}{d:DataW H}{p:List MemPlace}(j:Value.okWide Tryz.prog W .any base 23 v)(h:DataW.Trod enc Tryz.prog W 0 (fun _=>true) true 23 v d p):∃l:List O21,Rd W 5 v l.length (zdz l)/\zbP l/\EG l:=by
 obtain⟨l,s,h1⟩:=Az sS (fun a=>a.kp.oneCell'=true/\∃w c,a.kp=.slice w (kpN a.kp) c) (k:=5) (fun _=>rfl) de Tryz.underlying23 TZ zbA j h;exact⟨l,s,fun o b=>(h1 o b).1,fun o b=>(h1 o b).2⟩
theorem Xk{base:Nat}{d:DataW H}{p:List MemPlace}(a:Value.okWide Tryz.prog W .any base 22 v)(h:DataW.Trod enc Tryz.prog W 0 (fun _=>true) true 22 v d p):∃x y z:Int,v=.agg #[.int .i64 x,.int .i64 y,.int .i64 z]:=by
 obtain⟨b,j,rfl,rfl,rfl,k⟩:=Zs Tryz.underlying22 Tryz.underlying3 kR kR a h
 match b,j with
 |[x,y,z],_=>exact⟨x,y,z,rfl⟩
end
end Go.Proofs.YtpejdgiccaijfaaGreatDoor
namespace Go.Proofs.YtpejdgiccaijfaaGreatDoor.scriptTicks
open Go Go.RowKit Go.ChangeShapes Go.WideShapes Go.ChangeAt Go.Proofs.YtpejdgiccaijfaaGreatDoor
theorem own:ownKnob Tryz.prog.godebug=none:=kR
theorem tN(H:Type)(enc:TypeId×Value->H)(W:World)(base:Nat)(args:Array Value)(k gs:List (DataW H))(D:List MemPlace)
  (a:∀(j:Nat) t v,Tryz.f3.params[j]?=some t->args[j]?=some v->Value.okWide Tryz.prog W .any base t v)
  (p:DataW.Whole enc Tryz.prog Tryz.f3.params.toList Rows.scriptTicksSpec.vars false W args.toList k gs D) (s:laidMetH Tryz.prog Rows.scriptTicksRow.laid W):
  Calls Tryz.prog 3 args W fun e w=>∃v,e=.returned v/\Rows.scriptTicksSpec.post enc Tryz.prog Tryz.f3 false true false false W args v w:=by
 have E:=p;obtain⟨F,q,G,J,rfl,Z,a6⟩:=p;have A:DataW.TrodAll enc Tryz.prog W 0 (fun _=>true) true Tryz.f3.params.toList args.toList k F:=G;rw[Tryz.params3]at A a;obtain⟨v0,a7,a8,aa,ab,ad,ae,rfl,rfl,L,M⟩:=trodAll_cons A;obtain⟨b,af,ag,ah,ai,q1,rfl,rfl,rfl,h1,N⟩:=trodAll_cons M;obtain⟨rfl,rfl,rfl⟩:=trodAll_nil N;obtain rfl:args= #[v0,b]:=by cases args;simp_all
 obtain⟨rfl,rfl⟩:=trodVars_none J;obtain⟨t0,O,Q,rfl⟩:=Xk (a 0 22 v0 rfl rfl) L;obtain⟨l,S,U,V⟩:=Vf (a 1 23 b rfl rfl) h1;refine(zgc t0 O Q l b W S U V (Ai s).1 (Ai s).2).mono fun e w ⟨X,Y⟩=>?_;subst X;exact⟨_,rfl,Sf (T:=4) kR kR rfl Tryz.underlying4 rfl rfl E Y⟩
theorem Ad(os:Os):laidMet Tryz.prog Rows.scriptTicksRow.laid ((laidWorld os).forCall (fun _ _=>0) ⟨#[],#[.agg #[.int .i64 0,.int .i64 0,.int .i64 0],.slice none 0 0],[]⟩).memory:=
 laidMet_of_run' 8 kR kR
theorem reads(os:Os){H:Type}(enc:TypeId×Value->H):∃a,DataW.whole enc Tryz.prog ((laidWorld os).forCall (fun _ _=>0) ⟨#[],#[.agg #[.int .i64 0,.int .i64 0,.int .i64 0],.slice none 0 0],[]⟩).memory Tryz.f3.params.toList Rows.scriptTicksSpec.vars false (#[.agg #[.int .i64 0,.int .i64 0,.int .i64 0],.slice none 0 0]:Array Value).toList 8=some ([.agg [.lit (.int .i64 0),.lit (.int .i64 0),.lit (.int .i64 0)],.nil],[],a):=
 ⟨[],kR⟩
theorem lifted(os:Os)(a:os.Started)(H:Type)(enc:TypeId×Value->H)(F:Stop.Interp):
  ReturnsInHanded {} Tryz.checked os 3 .any ((OpenSpec.ofChange Rows.scriptTicksSpec).preRow enc Tryz.prog Tryz.f3 Rows.scriptTicksRow.domain false Rows.scriptTicksRow.laid) (((OpenSpec.ofChange Rows.scriptTicksSpec).at F).post enc Tryz.prog Tryz.f3 false true false false):=by
 obtain⟨E,hx⟩:=reads os enc;refine returnsInHanded_of_row (C:=Tryz.checked) (s:=OpenSpec.ofChange Rows.scriptTicksSpec) own a kR Tryz.func3
  (witness_row_at (enc:=enc) (C:=Tryz.checked) false (laidWorld os) #[.agg #[.int .i64 0,.int .i64 0,.int .i64 0],.slice none 0 0] rfl kR kR kR
   (OpenSpec.preRow_of_cond 8 hx kR (fun G b=>by cases b) kR (Ad os))) ?_
 intro W base j k gs p w A _ _ _ D _ _;exact tN H enc W base j k gs p w A D
end Go.Proofs.YtpejdgiccaijfaaGreatDoor.scriptTicks
