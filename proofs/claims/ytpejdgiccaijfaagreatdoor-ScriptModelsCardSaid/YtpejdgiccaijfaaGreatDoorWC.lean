/- An array of integers as an argument of a card: -/
import Derived.Test.YtpejdgiccaijfaaGreatDoorWT
import Derived.Test.YtpejdgiccaijfaaGreatDoorWY
set_option maxRecDepth 100000
namespace Go.Proofs.YtpejdgiccaijfaaGreatDoor
open Go Go.RowKit
section
variable{H:Type}{enc:TypeId×Value->H}{P:Program}{W:World}{base:Nat}{sp:Nat->Bool}{held:Bool}{t e:TypeId}{n:Nat}{q:IntKind}
theorem Zg(he:P.underlying e=some (.int q)){m:Nat}{cs:List Value}:∀(L:List Nat) (xs:List (DataW H×List MemPlace)),
  L.mapM (fun i=>DataW.trod enc P W base sp held m e ((cs.drop (i*1)).take 1))=some xs->
  ∃l:List Int,l.length=L.length/\xs=l.map (fun x=>(.lit (.int q x),[]))/\(∀x∈l,(Lit.int q x).wf=true)/\∀(p i:Nat),L[p]?=some i->cs[i]?=(l[p]?).map (Value.int q)
 |[],xs,h=>by
  simp at h;subst h;exact⟨[],rfl,rfl,fun _ h=>by simp at h,fun _ _ h=>by simp at h⟩
 |i::L,xs,h=>by
  rw[List.mapM_cons]at h;simp only[bind,Option.bind_eq_some_iff,pure,Option.some.injEq]at h;obtain⟨y,hy,ys,hys,rfl⟩:=h;obtain⟨l,h1,rfl,h3,h4⟩:=Zg he L ys hys;obtain⟨a,ea,rfl,wa⟩:=DataW.trod_int he hy;refine⟨a::l,by simp[h1],rfl,fun x hx=>?_,fun p j hp=>?_⟩
  .rcases qzm.1 hx with rfl|hx
   .exact wa
   .exact h3 x hx
  .cases p with
   |zero=>
    simp at hp;subst hp;have:((cs.drop (i*1)).take 1)[0]?=some (.int q a):=by rw[ea];rfl
    rw[List.getElem?_take_of_lt oM,qyi]at this;simpa using this
   |succ p=>simpa using h4 p j (by simpa using hp)
theorem sg{r:Reach}{b0:Nat}{v:Value}{d:DataW H}{ps:List MemPlace}(ht:P.underlying t=some (.array n e))(he:P.underlying e=some (.int q))(hc:P.cellsOf t=n)(he1:P.cellsOf e=1)(hval:Value.okWide P W r b0 t v)(hd:DataW.Trod enc P W base sp held t v d ps):
  ∃l:List Int,l.length=n/\v=.agg (l.map (Value.int q)).toArray/\d=.agg (l.map fun x=> .lit (.int q x))/\ps=[]/\∀x∈l,(Lit.int q x).wf=true:=by
 simp only[Value.okWide,ht]at hval;obtain⟨cs,rfl,h2,-⟩:=hval;rw[hc]at h2;obtain⟨fuel,hf⟩:=hd;cases fuel with
 |zero=>simp[DataW.trod]at hf
 |succ m=>
  rw[DataW.trod_step]at hf;unfold DataW.trodStep at hf;simp only[ht,Value.cells]at hf;rw[if_pos (by rw[hc];simpa using h2)]at hf;simp only[qYb,he1]at hf;obtain⟨ys,hy,e1⟩:=hf;obtain⟨l,h3,rfl,h5,h6⟩:=Zg he _ ys hy;rw[List.length_range]at h3;simp only[qYd]at e1;refine⟨l,h3,?_,by rw[<-e1.1];simp[Function.comp_def],by rw[<-e1.2];simp[List.flatMap_eq_nil_iff],h5⟩
  congr 1
  apply qxd
  intro i;by_cases hi:i<n
  .have:=h6 i i (by rw[List.getElem?_range hi]);simpa using this
  .rw [qxf oM,qxf og]
end
open Go Go.RowKit Go.ChangeShapes Go.WideShapes Go.ChangeAt
theorem Uw:Tryz.prog.cellsOf 30=5:=kR
instance:Inhabited O21:=⟨⟨0,0,0,0,.slice none 0 0⟩⟩
section
variable{H:Type}{enc:TypeId×Value->H}{W:World}
theorem zbo(n:Nat)(cs:List Value)(x:DataW H×List MemPlace)(h:DataW.trod enc Tryz.prog W 0 (fun _=>true) true n 30 cs=some x):∃a:O21,cs=rt a/\a.kp.oneCell'=true:=by
 obtain⟨xs,m,_,rfl,hl,hlen,hf⟩:=DataW.trod_struct Tryz.underlying30 h;rw[Uw]at hl
 match cs,hl,xs,hlen with
 |[c0,c1,c2,c3,c4],_,[y0,y1,y2,y3,y4],_=>
  have h0:=hf 0 _ rfl;have h1:=hf 1 _ rfl;have h2:=hf 2 _ rfl;have h3:=hf 3 _ rfl;have h4:=hf 4 _ rfl;obtain⟨a,ha,_,_⟩:=DataW.trod_int Tryz.underlying3 h0;obtain⟨b,hb,_,_⟩:=DataW.trod_int Tryz.underlying3 h1;obtain⟨c,hc,_,_⟩:=DataW.trod_int Tryz.underlying3 h2;obtain⟨d,hd,_,_⟩:=DataW.trod_int Tryz.underlying3 h3;cases ha;cases hb;cases hc;cases hd;rcases DataW.trod_slice Tryz.underlying28 h4 with⟨he,-⟩|⟨aa,len,cap,e1,e2,m2,-,he,-⟩
  .cases he;exact⟨⟨a,b,c,d,_⟩,rfl,rfl⟩
  .cases he;exact⟨⟨a,b,c,d,_⟩,rfl,rfl⟩
theorem Va{base:Nat}{v:Value}{d:DataW H}{p:List MemPlace}(hok:Value.okWide Tryz.prog W .any base 23 v)(h:DataW.Trod enc Tryz.prog W 0 (fun _=>true) true 23 v d p):∃l:List O21,Rd W 5 v l.length (Sm l)/\Ul l:=by
 obtain⟨l,hl,h1⟩:=Jj rt (fun a=>a.kp.oneCell'=true) (k:=5) (fun _=>rfl) de Tryz.underlying23 Uw zbo hok h;exact⟨l,hl,h1⟩
theorem Vb{base:Nat}{v:Value}{d:DataW H}{p:List MemPlace}(hok:Value.okWide Tryz.prog W .any base 54 v)(h:DataW.Trod enc Tryz.prog W 0 (fun _=>true) true 54 v d p):∃x y:Int,v=.agg #[.int .i64 x,.int .i64 y]:=by
 obtain⟨l0,hl0,rfl,rfl,rfl,hw0⟩:=sg Tryz.underlying54 Tryz.underlying3 kR kR hok h
 match l0,hl0 with
 |[x,y],_=>exact⟨x,y,rfl⟩
end
end Go.Proofs.YtpejdgiccaijfaaGreatDoor
namespace Go.Proofs.YtpejdgiccaijfaaGreatDoor.scriptModels
open Go Go.RowKit Go.ChangeShapes Go.WideShapes Go.ChangeAt Go.Proofs.YtpejdgiccaijfaaGreatDoor
theorem own:ownKnob Tryz.prog.godebug=none:=kR
theorem uL(H:Type)(enc:TypeId×Value->H)(W:World)(base:Nat)(args:Array Value)(ds gs:List (DataW H))(before:List MemPlace)
  (hval:∀(j:Nat) t v,Tryz.f5.params[j]?=some t->args[j]?=some v->Value.okWide Tryz.prog W .any base t v)
  (hW:DataW.Whole enc Tryz.prog Tryz.f5.params.toList Rows.scriptModelsSpec.vars false W args.toList ds gs before) (hL:laidMetH Tryz.prog Rows.scriptModelsRow.laid W):
  Calls Tryz.prog 5 args W fun e W'=>∃v,e=.returned v/\Rows.scriptModelsSpec.post enc Tryz.prog Tryz.f5 false true false false W args v W':=by
 have hW':=hW;obtain⟨p,q,hA0,hV,rfl,hfz,hnd⟩:=hW;have hA:DataW.TrodAll enc Tryz.prog W 0 (fun _=>true) true Tryz.f5.params.toList args.toList ds p:=hA0;rw[Tryz.params5]at hA hval;obtain⟨v0,vs0,d0,ds0,p0,q0,hargs,rfl,rfl,h0,r0⟩:=trodAll_cons hA;obtain⟨v1,vs1,d1,ds1,p1,q1,rfl,rfl,rfl,h1,r1⟩:=trodAll_cons r0;obtain⟨v2,vs2,d2,ds2,p2,q2,rfl,rfl,rfl,h2,r2⟩:=trodAll_cons r1;obtain⟨rfl,rfl,rfl⟩:=trodAll_nil r2;obtain rfl:args= #[v0,v1,v2]:=by cases args;simp_all
 obtain⟨rfl,rfl⟩:=trodVars_none hV;obtain⟨b,rfl,rfl,rfl,w0⟩:=open_int Tryz.underlying3 (hval 0 3 v0 rfl rfl) h0;obtain⟨l,hl,ho⟩:=Va (hval 1 23 v1 rfl rfl) h1;obtain⟨x,y,rfl⟩:=Vb (hval 2 54 v2 rfl rfl) h2;refine(zdy b x y l v1 W hl ho (SV hL).1 (SV hL).2).mono fun e W' ⟨he,hb⟩=>?_;subst he;exact⟨_,rfl,Ql (T:=4) kR kR rfl Tryz.underlying4 rfl rfl hW' hb⟩
theorem SQ(os:Os):laidMet Tryz.prog Rows.scriptModelsRow.laid ((laidWorld os).forCall (fun _ _=>0) ⟨#[],#[.int .i64 0,.slice none 0 0,.agg #[.int .i64 0,.int .i64 0]],[]⟩).memory:=
 laidMet_of_run' 8 kR kR
theorem reads(os:Os){H:Type}(enc:TypeId×Value->H):∃places,DataW.whole enc Tryz.prog ((laidWorld os).forCall (fun _ _=>0) ⟨#[],#[.int .i64 0,.slice none 0 0,.agg #[.int .i64 0,.int .i64 0]],[]⟩).memory Tryz.f5.params.toList Rows.scriptModelsSpec.vars false (#[.int .i64 0,.slice none 0 0,.agg #[.int .i64 0,.int .i64 0]]:Array Value).toList 8=some ([.lit (.int .i64 0),.nil,.agg [.lit (.int .i64 0),.lit (.int .i64 0)]],[],places):=
 ⟨[],kR⟩
theorem lifted(os:Os)(started:os.Started)(H:Type)(enc:TypeId×Value->H)(F:Stop.Interp):
  ReturnsInHanded {} Tryz.checked os 5 .any ((OpenSpec.ofChange Rows.scriptModelsSpec).preRow enc Tryz.prog Tryz.f5 Rows.scriptModelsRow.domain false Rows.scriptModelsRow.laid) (((OpenSpec.ofChange Rows.scriptModelsSpec).at F).post enc Tryz.prog Tryz.f5 false true false false):=by
 obtain⟨places,hx⟩:=reads os enc;refine returnsInHanded_of_row (C:=Tryz.checked) (s:=OpenSpec.ofChange Rows.scriptModelsSpec) own started kR Tryz.func5
  (witness_row_at (enc:=enc) (C:=Tryz.checked) false (laidWorld os) #[.int .i64 0,.slice none 0 0,.agg #[.int .i64 0,.int .i64 0]] rfl kR kR kR
   (OpenSpec.preRow_of_cond 8 hx kR (fun k hk=>by cases hk) kR (SQ os))) ?_
 intro W base args ds gs before hval hW _ _ _ hL _ _;exact uL H enc W base args ds gs before hval hW hL
end Go.Proofs.YtpejdgiccaijfaaGreatDoor.scriptModels
