/- The clock's ro -/
import Derived.Defers
import Derived.Recover
import Derived.Maps.Views
import Derived.Maps.OwnSet
import Derived.MapKept
import Derived.Shelf.SlMaps.Clone
import Derived.Maps.Range
import Derived.Test.YtfhfbpmlnjdfoaaGreatDoorG11
import Derived.Deep.RegionLaw
set_option maxRecDepth 100000
set_option maxHeartbeats 1000000
namespace Go.Proofs.YtfhfbpmlnjdfoaaGreatDoor
open Go Go.RowKit Tryz
def idxI(l:List Int)(k:Int):Int:=match l.findIdx? (·==k)with|some i=>(i:Int)|none=> -1
theorem QB{l:List Int}{k:Int}{i:Nat}(hi:i<l.length)(he:l[i]=k)(hb:∀j (h:j<l.length),j<i->l[j]≠k):idxI l k=i:=by
 unfold idxI;have:l.findIdx? (·==k)=some i:=by
  rw[List.findIdx?_eq_some_iff_getElem];exact⟨hi,by simpa using he,fun j hj=>by simpa using hb j (by omega) hj⟩
 rw[this]
theorem sP{l:List Int}{k:Int}(hb:∀j (h:j<l.length),l[j]≠k):idxI l k= -1:=by
 unfold idxI;have:l.findIdx? (·==k)=none:=by
  rw[List.findIdx?_eq_none_iff];intro x hx;obtain⟨j,hj,rfl⟩:=qza hx;simpa using hb j hj
 rw[this]
theorem Wn{w:World}{v:Value}{l:List Int}(h:Rd w 1 v l.length (ints l))(hle:l.length<=4096)(k:Int):
  Calls prog 320 #[v,.int .i64 k] w fun e w'=>e=.returned (.int .i64 (idxI l k))/\w'=w:=by
 have H:=qqh h;obtain⟨ao,c,rfl⟩:=h.jd;clear h;go_enter func320,ntmps320
 go_wp2
 go_loopg[8] l.length (fun g i wr=>∃j:Nat,j+g=l.length/\i=.int .i64 j/\(∀m (h:m<l.length),m<j->l[m]≠k)/\wr=w)
 case atStart=>exact⟨0,by omega,rfl,fun m h hm=>by omega,rfl⟩
 case round=>
  obtain⟨j,hj,rfl,hno,rfl⟩:=hrel;by_cases hlt:j<l.length
  .obtain ⟨g,off,c',hv,hg,hc⟩:=H.o.at (by omega);cases hv;have hcj:=hc j _ (yt hlt);have HN:=qqh hno;clear hc hno;by_cases he:l[j]=k
   .have hb:(k==l[j])=true:=by simp[he]
    have ha:Hid (idxI l k=j):=QB hlt he HN.o;clear he;go_wp2
    go_ret
    exact⟨by rw[ha.out];rfl,rfl⟩
   .have hb:(k==l[j])=false:=by simp;exact fun e=>he e.symm
    have hne:Hid (l[j]≠k):=he;clear he;go_wp2
    go_roundg (gk-1)
    case measure=>omega
    case rel=>exact⟨j+1,by omega,by go_num,fun m hm hmj=>by
     by_cases e:m=j
     .subst e;exact hne.out
     .exact HN.o m hm (by omega),rfl⟩
  .obtain rfl:j=l.length:=by omega
   have ha:Hid (idxI l k= -1):=sP (fun m hm=>hno m hm hm);clear hno;go_wp2
   go_ret
   exact⟨by rw[ha.out];rfl,rfl⟩
theorem UI(p:Value)(w:World):
  CallsD prog 319 #[p] .returning w fun e u' w'=>e=.returned (.tuple #[])/\u'=.returning/\w'=w:=by
 refine callsD_of_wpS func319 rfl fun c₀ cs hu=>?_;apply wpS_seq;apply wpS_region;simp[wpOpsS,go_sem,recoverD,hu,ntmps319,Exit.thenS];refine wpS_cond (t:=false) (by simp[Act.eval,Array.replicate]) ?_;simp only[Bool.false_eq_true,if_false];refine wpS_of_wp (wp_skip ?_);cases c₀
 simp_all[bodyPostS,results,results319]
theorem sh(p:Value)(w:World):
  CallsD prog 302 #[p] .returning w fun e u' w'=>e=.returned (.tuple #[])/\u'=.returning/\w'=w:=by
 refine callsD_of_wpS func302 rfl fun c₀ cs hu=>?_;apply wpS_seq;apply wpS_region;simp[wpOpsS,go_sem,recoverD,hu,ntmps302,Exit.thenS];refine wpS_cond (t:=false) (by simp[Act.eval,Array.replicate]) ?_;simp only[Bool.false_eq_true,if_false];refine wpS_of_wp (wp_skip ?_);cases c₀
 simp_all[bodyPostS,results,results302]
theorem Wo(p:Value)(w:World):
  CallsD prog 234 #[p] .returning w fun e u' w'=>e=.returned (.tuple #[])/\u'=.returning/\w'=w:=by
 refine callsD_of_wpS func234 rfl fun c₀ cs hu=>?_;apply wpS_seq;apply wpS_region;simp[wpOpsS,go_sem,recoverD,hu,ntmps234,Exit.thenS];refine wpS_cond (t:=false) (by simp[Act.eval,Array.replicate]) ?_;simp only[Bool.false_eq_true,if_false];refine wpS_of_wp (wp_skip ?_);cases c₀
 simp_all[bodyPostS,results,results234]
theorem xg{w:World}{v:Value}{l:List Int}(h:Rd w 1 v l.length (ints l))(hle:l.length<=4096)(k:Int):
  Calls prog 273 #[v,.int .i64 k] w fun e w'=>e=.returned (.int .i64 (idxI l k))/\Below w.heap.size w w':=by
 have hmf:=qqf;have HF:=qqh (fun(w1:World) (h1:Rd w1 1 v l.length (ints l))=>Wn h1 hle k);have H:=qqh h;clear h
 go_enter_defers func273,ntmps273
 go_wp2_with fail
 refine(HF.o _ (H.o.keep ((uur (fun _=>False) w).alloc _) (fun _ _ h=>h))).mono ?_;rintro e w1 ⟨rfl,rfl⟩;go_wp2
 refine leaves_cons (f:=319) (args:= #[.pointer (some ⟨w.heap.size,0,none⟩)]) (by simp) (by simp[go_sem]) ?_;refine(UI _ _).mono ?_;rintro e u' w'' ⟨rfl,rfl,rfl⟩;simp[Leaves,settle,results,results273,go_sem];exact(qxl _ _).alloc (qXv _) _
def upd1(f:Int->Option Nat)(s:Int)(o:Option Nat):Int->Option Nat:=fun x=>if x=s then o else f x
def atOf(ps:List (Int×Bool))(s:Int):Option Nat:=if s<0 then none else ps.findIdx? (fun p=>p.1==s)
structure Good(ps:List (Int×Bool))(slots:Nat):Prop where
 each:∀k (h:k<ps.length),ps[k]=(-1,false)\/(0<=ps[k].1/\ps[k].1<slots)
 inj:∀i j (hi:i<ps.length) (hj:j<ps.length),0<=ps[i].1->ps[i].1=ps[j].1->i=j
theorem yQ{ps:List (Int×Bool)}{s:Int}{k:Nat}(h:atOf ps s=some k):0<=s/\∃h:k<ps.length,ps[k].1=s:=by
 unfold atOf at h;split at h
 .cases h
 .rw [List.findIdx?_eq_some_iff_getElem]at h;obtain⟨hk,h1,_⟩:=h;exact⟨by omega,hk,by simpa using h1⟩
theorem sQ{ps:List (Int×Bool)}{s:Int}(h:atOf ps s=none)(hs:0<=s){k:Nat}(hk:k<ps.length):ps[k].1≠s:=by
 unfold atOf at h;rw[if_neg (by omega),List.findIdx?_eq_none_iff]at h;have:=h ps[k] (qyz hk);simpa using this
theorem Good.at{ps:List (Int×Bool)}{slots:Nat}(h:Good ps slots){k:Nat}(hk:k<ps.length)(h0:0<=ps[k].1):atOf ps ps[k].1=some k:=by
 cases ha:atOf ps ps[k].1 with
 |none=>exact absurd rfl (sQ ha h0 hk)
 |some j=>
  obtain⟨_,hj,he⟩:=yQ ha;rw[h.inj k j hk hj h0 he.symm]
theorem Good.iff{ps:List (Int×Bool)}{slots:Nat}(h:Good ps slots){s:Int}{k:Nat}:atOf ps s=some k↔0<=s/\∃h:k<ps.length,ps[k].1=s:=
 ⟨yQ,fun⟨h0,hk,he⟩=>by subst he;exact h.at hk h0⟩
theorem Zv{α:Type}{o p:Option α}(h:∀a,o=some a↔p=some a):o=p:=by
 cases o with
 |none=>cases p with
  |none=>rfl
  |some b=>exact absurd ((h b).2 rfl) (by simp)
 |some a=>exact((h a).1 rfl).symm
theorem Good.start(n slots:Nat):Good (List.replicate n (-1,false)) slots:=
 ⟨fun k h=> .inl (by simp),fun i j hi hj h0 _=>by simp at h0⟩
theorem Wp(n:Nat):atOf (List.replicate n (-1,false))=fun _=>none:=by
 funext s
 cases h:atOf (List.replicate n (-1,false)) s with
 |none=>rfl
 |some k=>
  obtain⟨h0,hk,he⟩:=yQ h;simp at he;omega
section
variable{ps:List (Int×Bool)}{slots k:Nat}
theorem Good.drop(h:Good ps slots)(k:Nat):Good (ps.set k (-1,false)) slots:=by
 refine⟨fun i hi=>?_,fun i j hi hj h0 he=>?_⟩
 .rw [qzb];split
  .exact .inl rfl
  .exact h.each i (by simpa using hi)
 .rw [qzb]at h0 he;rw[qzb]at he;by_cases h1:k=i
  .simp [h1]at h0
  .by_cases h2:k=j
   .rw [if_neg h1,if_pos h2]at he;rw[if_neg h1]at h0;simp at he;omega
   .rw [if_neg h1,if_neg h2]at he;rw[if_neg h1]at h0;exact h.inj i j (by simpa using hi) (by simpa using hj) h0 he
theorem Good.atOf_drop(h:Good ps slots)(hk:k<ps.length):atOf (ps.set k (-1,false))=upd1 (atOf ps) ps[k].1 none:=by
 funext s
 refine Zv fun a=>?_;rw[(h.drop k).iff];unfold upd1;constructor
 .rintro ⟨h0,ha,he⟩;rw[qzb]at he;split at he
  .simp at he;omega
  .rename_i hne
   have ha':a<ps.length:=by simpa using ha
   subst he;split
   .rename_i e
    exact absurd (h.inj a k ha' hk h0 e) (fun e=>hne e.symm)
   .exact h.at ha' h0
 .intro e;split at e
  .cases e
  .rename_i hne
   obtain⟨h0,ha,he⟩:=yQ e;refine⟨h0,by simpa using ha,?_⟩;rw[qzb];split
   .rename_i e2
    subst e2;exact absurd he.symm hne
   .exact he
def mayPut(ps:List (Int×Bool))(k:Nat)(s:Int):Prop:=atOf ps s=none\/atOf ps s=some k
theorem uU(h:Good ps slots){s:Int}(hm:mayPut ps k s)(h0:0<=s){i:Nat}(hi:i<ps.length)(hne:i≠k):ps[i].1≠s:=by
 rcases hm with hm|hm
 .exact sQ hm h0 hi
 .intro e;subst e;have:=h.at hi h0;rw[this]at hm;exact hne (by injection hm)
theorem Good.put(h:Good ps slots)(_:k<ps.length){s:Int}(d:Bool)(h0:0<=s)(h1:s<slots)(hm:mayPut ps k s):Good (ps.set k (s,d)) slots:=by
 refine⟨fun i hi=>?_,fun i j hi hj h2 he=>?_⟩
 .rw [qzb];split
  .exact .inr ⟨h0,h1⟩
  .exact h.each i (by simpa using hi)
 .have hi':i<ps.length:=by simpa using hi
  have hj':j<ps.length:=by simpa using hj
  rw[qzb]at h2 he;rw[qzb]at he;by_cases e1:k=i
  .by_cases e2:k=j
   .exact e1.symm.trans e2
   .rw [if_pos e1,if_neg e2]at he;exact absurd he.symm (uU h hm h0 hj' (fun e=>e2 e.symm))
  .by_cases e2:k=j
   .rw [if_neg e1,if_pos e2]at he;exact absurd he (uU h hm h0 hi' (fun e=>e1 e.symm))
   .rw [if_neg e1,if_neg e2]at he;rw[if_neg e1]at h2;exact h.inj i j hi' hj' h2 he
theorem Good.atOf_put(h:Good ps slots)(hk:k<ps.length){s:Int}(d:Bool)(h0:0<=s)(h1:s<slots)(hm:mayPut ps k s):atOf (ps.set k (s,d))=upd1 (upd1 (atOf ps) ps[k].1 none) s (some k):=by
 funext x
 refine Zv fun a=>?_;rw[(h.put hk d h0 h1 hm).iff];simp only[upd1];constructor
 .rintro ⟨hx,ha,he⟩;have ha':a<ps.length:=by simpa using ha
  rw[qzb]at he;by_cases e:k=a
  .rw [if_pos e]at he;simp at he;rw[if_pos he.symm,e]
  .rw [if_neg e]at he;subst he;rw[if_neg (uU h hm h0 ha' (fun e'=>e e'.symm))];split
   .rename_i e3
    exact absurd (h.inj a k ha' hk hx e3) (fun e'=>e e'.symm)
   .exact h.at ha' hx
 .intro e;by_cases hxs:x=s
  .rw [if_pos hxs]at e;cases e;refine⟨by omega,by simpa using hk,?_⟩;rw[qzb,if_pos rfl];exact hxs.symm
  .rw [if_neg hxs]at e;split at e
   .cases e
   .rename_i hne
    obtain⟨hx,ha,he⟩:=yQ e;refine⟨hx,by simpa using ha,?_⟩;rw[qzb];split
    .rename_i e2
     subst e2;exact absurd he.symm hne
    .exact he
theorem Good.clean(h:Good ps slots)(hk:k<ps.length)(h0:0<=ps[k].1):Good (ps.set k (ps[k].1,false)) slots:=by
 refine⟨fun i hi=>?_,fun i j hi hj h2 he=>?_⟩
 .rw [qzb];split
  .rcases h.each k hk with e|e
   .rw [e]at h0;simp at h0
   .exact .inr e
  .exact h.each i (by simpa using hi)
 .have e1:∀(x:Nat) (hx:x<(ps.set k (ps[k].1,false)).length),((ps.set k (ps[k].1,false))[x]).1=(ps[x]'(by simpa using hx)).1:=by
   intro x hx;rw[qzb];split
   .rename_i e;subst e;rfl
   .rfl
  rw[e1]at h2 he;rw[e1]at he;exact h.inj i j (by simpa using hi) (by simpa using hj) h2 he
theorem Good.atOf_clean(h:Good ps slots)(hk:k<ps.length)(h0:0<=ps[k].1):atOf (ps.set k (ps[k].1,false))=atOf ps:=by
 funext x
 refine Zv fun a=>?_;rw[(h.clean hk h0).iff,h.iff];have e1:∀(x:Nat) (hx:x<(ps.set k (ps[k].1,false)).length),((ps.set k (ps[k].1,false))[x]).1=(ps[x]'(by simpa using hx)).1:=by
  intro x hx;rw[qzb];split
  .rename_i e;subst e;rfl
  .rfl
 constructor
 .rintro ⟨hx,ha,he⟩;rw[e1]at he;exact⟨hx,by simpa using ha,he⟩
 .rintro ⟨hx,ha,he⟩;exact⟨hx,by simpa using ha,by rw[e1];exact he⟩
end
open Go Go.RowKit Go.Maps Tryz
def MapAt(w:World)(mb N:Nat)(f:Int->Option Nat):Prop:=
 ∃D:DataW Unit,w.ownsMap prog 3 (plainElem prog 3) mb N D/\
  ∀s:Int,Maps.has D (.int .i64 s)=(f s).isSome/\∀c,f s=some c->∀z,D.atKey (.int .i64 s) z=.lit (.int .i64 (c:Int))
theorem yz:Keyed prog 3:=int_keyed underlying3
theorem wfI{x:Int}(h1: -9223372036854775808<=x)(h2:x<9223372036854775808):(Lit.int .i64 x).wf=true:=by
 have e1:IntKind.i64.min= -9223372036854775808:=by decide
 have e2:IntKind.i64.max=9223372036854775807:=by decide
 simp only[Lit.wf,e1,e2,qxo,qYz];omega
theorem tT{x:Int}(h1: -9223372036854775808<=x)(h2:x<9223372036854775808):keyOf prog 3 (.int .i64 x)=some (.int .i64 x):=keyOf_int_mk underlying3 (wfI h1 h2)
theorem MapAt.lt{w:World}{mb N:Nat}{f:Int->Option Nat}(h:MapAt w mb N f):mb<w.heap.size:=by obtain⟨D,h,_⟩:=h;exact h.lt
theorem MapAt.keep{w w':World}{mb N:Nat}{f:Int->Option Nat}(h:MapAt w mb N f){S:Nat->Prop}(hu:Upd S w w')(hs:¬S mb):MapAt w' mb N f:=by
 obtain⟨D,⟨es,clock,hb,r⟩,hf⟩:=h;exact⟨D,⟨es,clock,(hu.block _ (zf hb) hs).trans hb,r⟩,hf⟩
theorem MapAt.mono{w:World}{mb N N':Nat}{f:Int->Option Nat}(h:MapAt w mb N f)(hn:N<=N'):MapAt w mb N' f:=by obtain⟨D,h,hf⟩:=h;exact⟨D,h.mono hn,hf⟩
theorem MapAt.made(w:World):MapAt (w.alloc (.map #[] 0)) w.heap.size 0 (fun _=>none):=
 ⟨.map [],World.ownsMap_made w _ _ _,fun s=>⟨rfl,fun c h=>by cases h⟩⟩
theorem yA{w w':World}{b:Nat}(h:w.mapTurned w' b):Upd (fun j=>j=b) w w':=by
 obtain⟨a,b',c,d,e⟩:=h.grown;exact⟨a,b',c,d,fun i hi hs=>e i hi (fun e=>hs (by simpa using e))⟩
theorem yv{w w':World}{b:Nat}(h:w.mapTurned w' b):w'.heap.size=w.heap.size:=by
 obtain⟨es,clock,es',clock',hb,rfl⟩:=h;simp[Go.ChangeMaps.setBlock]
theorem QC(w:World):(zeroValue 3).run prog w=.ok (.int .i64 0) w:=by
 exact Tryz.zeroValue3 w
theorem MapAt.look{w:World}{mb N:Nat}{f:Int->Option Nat}(h:MapAt w mb N f){x:Int}(h1: -9223372036854775808<=x)(h2:x<9223372036854775808):
  (Instr.lookup 116 (.map (some mb)) (.int .i64 x) true).run prog w=.ok (.tuple #[.int .i64 (((f x).getD 0:Nat):Int),.bool (f x).isSome]) w:=by
 obtain⟨D,ho,hf⟩:=h;obtain⟨v,ps,hr,hv⟩:=ho.look_ok yz underlying116 (QC w) (plainElem_int underlying3 (by decide)) (tT h1 h2);obtain⟨c,rfl,hc,hwc⟩:=plainElem_int_inv underlying3 hv;simp only[qYk]at hc;rw[hr,(hf x).1];have:c=(((f x).getD 0:Nat):Int):=by
  cases hx:f x with
  |none=>
   have h0:=(hf x).1;rw[hx]at h0;have:=atKey_of_not_has (D:=D) h0 (.lit (.int .i64 0));rw[this]at hc;simp at hc;simpa using hc.1.symm
  |some c'=>
   have:=(hf x).2 c' hx (.lit (.int .i64 0));rw[this]at hc;simp at hc;simpa using hc.1.symm
 rw[this]
theorem MapAt.drop{w:World}{mb N:Nat}{f:Int->Option Nat}(h:MapAt w mb N f){x:Int}(h1: -9223372036854775808<=x)(h2:x<9223372036854775808)(ty:TypeId):
  ∃w',(Builtin.delete_ #[116,3] ty #[.map (some mb),.int .i64 x]).run prog w=.ok (.tuple #[]) w'/\MapAt w' mb N (upd1 f x none)/\Upd (fun j=>j=mb) w w'/\w'.heap.size=w.heap.size:=by
 obtain⟨D,ho,hf⟩:=h;obtain⟨w',hr,ho',ht⟩:=ho.drop yz underlying116 (tT h1 h2) ty;refine⟨w',hr,⟨_,ho',fun s=>?_⟩,yA ht,yv ht⟩;by_cases hs:s=x
 .subst hs;simp[upd1,has_del_same]
 .have hne:Lit.int .i64 s≠Lit.int .i64 x:=fun e=>hs (by injection e);simp only[upd1,if_neg hs,has_del_other hne];exact⟨(hf s).1,fun c hc z=>by rw[atKey_del_other hne];exact(hf s).2 c hc z⟩
theorem MapAt.store{w:World}{mb N:Nat}{f:Int->Option Nat}(h:MapAt w mb N f){x:Int}(h1: -9223372036854775808<=x)(h2:x<9223372036854775808)(c:Nat)(hc:c<9223372036854775808)(hn:N<maxLen):
  ∃w',(Instr.mapUpdate 116 (.map (some mb)) (.int .i64 x) (.int .i64 (c:Int))).run prog w=.ok () w'/\MapAt w' mb (N+1) (upd1 f x (some c))/\Upd (fun j=>j=mb) w w'/\w'.heap.size=w.heap.size:=by
 obtain⟨D,ho,hf⟩:=h;have hM:=ho.isMap;have hK:∀y:Int,WideAt.IsKeyLit (.int .i64 y):=fun _=>trivial;obtain⟨w',hr,ho',ht⟩:=ho.store (ps:=[]) (d:=.lit (.int .i64 (c:Int))) yz underlying116 hn (tT h1 h2) (plainElem_int underlying3 (wfI (by omega) (by omega)));refine⟨w',hr,⟨_,ho',fun s=>?_⟩,yA ht,yv ht⟩;by_cases hs:s=x
 .subst hs;simp only[upd1];exact⟨by rw[has_put_same hM (hK _)];simp,fun c' hc' z=>by simp at hc';subst hc';exact atKey_put_same hM (hK _) _ _⟩
 .have hne:Lit.int .i64 s≠Lit.int .i64 x:=fun e=>hs (by injection e);simp only[upd1,if_neg hs,has_put_other hne];exact⟨(hf s).1,fun c hc z=>by rw[atKey_put_other hne];exact(hf s).2 c hc z⟩
def SetAt(w:World)(mb N:Nat)(A:Int->Bool):Prop:=
 ∃D:DataW Unit,w.ownsMap prog 3 unitElem mb N D/\∀s:Int,Maps.has D (.int .i64 s)=A s
theorem SetAt.lt{w:World}{mb N:Nat}{A:Int->Bool}(h:SetAt w mb N A):mb<w.heap.size:=by obtain⟨D,h,_⟩:=h;exact h.lt
theorem SetAt.keep{w w':World}{mb N:Nat}{A:Int->Bool}(h:SetAt w mb N A){S:Nat->Prop}(hu:Upd S w w')(hs:¬S mb):SetAt w' mb N A:=by
 obtain⟨D,⟨es,clock,hb,r⟩,hf⟩:=h;exact⟨D,⟨es,clock,(hu.block _ (zf hb) hs).trans hb,r⟩,hf⟩
theorem SetAt.mono{w:World}{mb N N':Nat}{A:Int->Bool}(h:SetAt w mb N A)(hn:N<=N'):SetAt w mb N' A:=by obtain⟨D,h,hf⟩:=h;exact⟨D,h.mono hn,hf⟩
theorem SetAt.made(w:World):SetAt (w.alloc (.map #[] 0)) w.heap.size 0 (fun _=>false):=
 ⟨.map [],World.ownsMap_made w _ _ _,fun _s=>rfl⟩
def updB(A:Int->Bool)(x:Int)(v:Bool):Int->Bool:=fun s=>if s=x then v else A s
def InR(x:Int):Prop:= -9223372036854775808<=x/\x<9223372036854775808
theorem zbw(w:World):(zeroValue 370).run prog w=.ok (.agg #[]) w:=by
 exact Tryz.zeroValue370 w
theorem SetAt.look{w:World}{mb N:Nat}{A:Int->Bool}(h:SetAt w mb N A){x:Int}(hx:InR x):
  (Instr.lookup 331 (.map (some mb)) (.int .i64 x) true).run prog w=.ok (.tuple #[.agg #[],.bool (A x)]) w:=by
 obtain⟨D,ho,hf⟩:=h;obtain⟨v,ps,hr,hv⟩:=ho.look_ok yz underlying331 (zbw w) unitElem_mk (tT hx.1 hx.2);obtain⟨rfl,_⟩:=unitElem_inv hv;rw[hr,hf x]
theorem SetAt.drop{w:World}{mb N:Nat}{A:Int->Bool}(h:SetAt w mb N A){x:Int}(hx:InR x)(ty:TypeId):
  ∃w',(Builtin.delete_ #[331,3] ty #[.map (some mb),.int .i64 x]).run prog w=.ok (.tuple #[]) w'/\SetAt w' mb N (updB A x false)/\Upd (fun j=>j=mb) w w'/\w'.heap.size=w.heap.size:=by
 obtain⟨D,ho,hf⟩:=h;obtain⟨w',hr,ho',ht⟩:=ho.drop yz underlying331 (tT hx.1 hx.2) ty;refine⟨w',hr,⟨_,ho',fun s=>?_⟩,yA ht,yv ht⟩;by_cases hs:s=x
 .subst hs;simp[updB,has_del_same]
 .have hne:Lit.int .i64 s≠Lit.int .i64 x:=fun e=>hs (by injection e);simp only[updB,if_neg hs,has_del_other hne];exact hf s
theorem SetAt.store{w:World}{mb N:Nat}{A:Int->Bool}(h:SetAt w mb N A){x:Int}(hx:InR x)(hn:N<maxLen):
  ∃w',(Instr.mapUpdate 331 (.map (some mb)) (.int .i64 x) (.agg #[])).run prog w=.ok () w'/\SetAt w' mb (N+1) (updB A x true)/\Upd (fun j=>j=mb) w w'/\w'.heap.size=w.heap.size:=by
 obtain⟨D,ho,hf⟩:=h;have hM:=ho.isMap;have hK:∀y:Int,WideAt.IsKeyLit (.int .i64 y):=fun _=>trivial;obtain⟨w',hr,ho',ht⟩:=ho.store (ps:=[]) (d:=.agg []) yz underlying331 hn (tT hx.1 hx.2) unitElem_mk;refine⟨w',hr,⟨_,ho',fun s=>?_⟩,yA ht,yv ht⟩;by_cases hs:s=x
 .subst hs;simp only[updB,if_true];rw[has_put_same hM (hK _)]
 .have hne:Lit.int .i64 s≠Lit.int .i64 x:=fun e=>hs (by injection e);simp only[updB,if_neg hs,has_put_other hne];exact hf s
theorem yR{w:World}{mb N:Nat}{A:Int->Bool}(h:SetAt w mb N A):
  Calls prog 235 #[.map (some mb)] w fun e w'=>e=.returned (.map (some w.heap.size))/\SetAt w' w.heap.size N A/\Below w.heap.size w w':=by
 obtain⟨D,⟨es,clock,hb,hF,hs,hD⟩,hf⟩:=h;have hq:=fun w=>run_eql_map_nil_sl (P:=prog) w 331 _ _ (some mb) underlying331;have hend:SetAt (w.alloc (.map es clock)) w.heap.size N A:=⟨D,⟨es,clock,(MapKept.heap_alloc w _).1,hF,hs,hD⟩,hf⟩
 have HE:=qqh hend;clear hend hf hD hs hF;go_enter func235,ntmps235
 go_wp2
 rw[run_callFunc_extern func301 (by kernel_rfl) (by kernel_rfl) (by kernel_rfl) (e:=Extern.MapsClone.clone) (by kernel_rfl),run_maps_clone_sl w 331 hb];simp only[Result.andThen];rw[Oper.upon_value];go_wp2
 rw[run_typeAssert_map_sl _ 331 _ _ _ _ underlying331];simp only[Result.andThen];rw[Oper.upon_value];go_wp2
 go_ret
 exact⟨rfl,HE.o,(qxl _ _).alloc (qXv _) _⟩
theorem um{w:World}{mb N:Nat}{A:Int->Bool}(h:SetAt w mb N A)(k:Int)(hk:InR k):
  Calls prog 236 #[.map (some mb),.int .i64 k] w fun e w'=>e=.returned (.bool (A k))/\Below w.heap.size w w':=by
 have hmf:=qqf;have hl:=(SetAt.keep h ((uur (fun _=>False) w).alloc (.cells #[.bool false] 4)) (fun h=>h)).look hk;clear h
 go_enter_defers func236,ntmps236
 go_wp2
 refine leaves_cons (f:=302) (args:= #[.pointer (some ⟨w.heap.size,0,none⟩)]) (by simp) (by simp[go_sem]) ?_;refine(sh _ _).mono ?_;rintro e u' w'' ⟨rfl,rfl,rfl⟩;simp[Leaves,settle,results,results236,go_sem];exact(qxl _ _).alloc (qXv _) _
end Go.Proofs.YtfhfbpmlnjdfoaaGreatDoor
namespace Go.Proofs.YtfhfbpmlnjdfoaaGreatDoor
open Go Go.RowKit Go.Maps Go.WideElems Tryz
theorem YQ:∀(n:Nat) (l:List Int),l.Nodup->(∀x∈l,-1<=x/\x<(n:Int))->l.length<=n+1:=by
 intro n
 induction n with
 |zero=>
  intro l hd hr
  match l,hd,hr with
  |[],_,_=>simp
  |[_],_,_=>simp
  |a::b::l,hd,hr=>
   have h1:=hr a (by simp);have h2:=hr b (by simp);have:a=b:=by omega
   simp[this]at hd
 |succ n ih=>
  intro l hd hr;have h1:=ih (l.erase (n:Int)) (hd.erase _) (fun x hx=>by
   have h2:=hr x (qzw hx);have h3:x≠(n:Int):=fun e=>by subst e;exact(List.Nodup.not_mem_erase hd) hx
   omega)
  have h4:l.length<=(l.erase (n:Int)).length+1:=by
   rw[List.length_erase];split<;>omega
  omega
theorem Wq{R:Value->Option (DataW Unit×List MemPlace)}{w:World}{mb N:Nat}{D:DataW Unit}(h:w.ownsMap prog 3 R mb N D)(n:Nat)(hr:∀s:Int,Maps.has D (.int .i64 s)=true->-1<=s/\s<(n:Int)):
  w.ownsMap prog 3 R mb (n+1) D:=by
 obtain⟨es,clock,hb,F,hs,rfl⟩:=h;refine⟨es,clock,hb,F,?_,rfl⟩;have hk:∀x∈es.toList,∃c:Int,x.key=.int .i64 c/\Maps.has (DataW.map ((es.toList.map (rg prog 3 R)).foldr DataW.insert [])) (.int .i64 c)=true:=by
  intro x hx;obtain⟨y,hy⟩:=F.reads x hx;obtain⟨c,h1,h2⟩:=Maps.keyOf_int_inv underlying3 (rd_key hy);refine⟨c,h1,?_⟩;have h3:(rg prog 3 R x).1=.int .i64 c:=by rw[rg_of hy];exact h2.1
  exact List.any_eq_true.2 ⟨rg prog 3 R x,mem_sorted.2 (qzv.2 ⟨x,hx,rfl⟩),by rw[h3];exact WideAt.sameKey_self trivial⟩
 let g:MapEntry->Int:=fun x=>match x.key with| .int _ c=>c|_=>0
 have hg:∀x∈es.toList,x.key=.int .i64 (g x):=by
  intro x hx;obtain⟨c,h1,-⟩:=hk x hx;simp only[g,h1]
 have hnd:(es.toList.map g).Nodup:=by
  rw[List.Nodup,qXf];have:=((MapKept.stamped_iff es clock).1 F.stamped).2.2;refine List.Pairwise.imp_of_mem (fun{a b} ha hb' hne e=>hne ?_) this;rw[hg a ha,hg b hb',e]
 have:=YQ n _ hnd (fun s hs=>by
  obtain⟨x,hx,rfl⟩:=qzv.1 hs;obtain⟨c,h1,h2⟩:=hk x hx;have h3:g x=c:=by have:=hg x hx;rw[h1]at this;injection this with _ h;exact h.symm
  rw[h3];exact hr c h2)
 simpa using this
theorem SetAt.tight{w:World}{mb N:Nat}{A:Int->Bool}(h:SetAt w mb N A)(n:Nat)(hr:∀s:Int,A s=true->-1<=s/\s<(n:Int)):SetAt w mb (n+1) A:=by
 obtain⟨D,ho,hf⟩:=h;exact⟨D,Wq ho n (fun s hs=>hr s (by rw[<-hf];exact hs)),hf⟩
theorem SetAt.clear{w:World}{mb N:Nat}{A:Int->Bool}(h:SetAt w mb N A):
  ∃w',(∀ty,(Builtin.clear_ #[331] ty #[.map (some mb)]).run prog w=.ok (.tuple #[]) w')/\SetAt w' mb N (fun _=>false)/\Upd (fun j=>j=mb) w w'/\w'.heap.size=w.heap.size:=by
 obtain⟨D,⟨es,clock,hb,F,hs,rfl⟩,hf⟩:=h;refine⟨ChangeMaps.setBlock w mb (.map #[] clock),?_,⟨.map [],⟨#[],clock,(MapKept.heap_set hb).1,⟨by simp,MapKept.stamped_empty _,by simp⟩,by simp,rfl⟩,fun s=>rfl⟩,?_,by simp[ChangeMaps.setBlock]⟩
 .intro ty;simp[Builtin.clear_,run_underlying underlying331,MapKept.run_getObj_map hb,MapKept.run_setObj_map _ hb,Result.andThen,ChangeMaps.setBlock]
 .exact ⟨rfl,rfl,rfl,by simp[ChangeMaps.setBlock],fun k _ hk=>(MapKept.heap_set hb).2 k hk⟩
end Go.Proofs.YtfhfbpmlnjdfoaaGreatDoor
namespace Go.Proofs.YtfhfbpmlnjdfoaaGreatDoor
open Go Go.RowKit Tryz
abbrev LgC(M:List (Nat×(Int->Bool))):List Value:=M.map fun p=> .map (some p.1)
structure LgAt(w:World)(b:Nat)(v:Value)(blocks:Nat)(M:List (Nat×(Int->Bool))):Prop where
 str:w.heap[b]?=some (.cells #[.int .i64 blocks,v] 330 (0,0))
 sl:Sl w 331 1 v M.length (LgC M)
 sets:∀p∈M,SetAt w p.1 4097 p.2
 nd:(M.map (·.1)).Nodup
 mb:∀p∈M,p.1≠b/\v.ownBlock≠some p.1
 vb:v.ownBlock≠some b
 len:M.length<=1024
 bl:1<=blocks/\blocks<=4096
 rg:∀p∈M,∀s:Int,p.2 s=true->-1<=s/\s<(blocks:Int)
def lgS(b:Nat)(v:Value)(M:List (Nat×(Int->Bool))):Nat->Prop:=fun j=>j=b\/v.ownBlock=some j\/j∈M.map (·.1)
section
variable{w w':World}{b blocks:Nat}{v:Value}{M:List (Nat×(Int->Bool))}
theorem LgAt.keep(h:LgAt w b v blocks M){S:Nat->Prop}(hu:Upd S w w')(hs:∀j,lgS b v M j->¬S j):LgAt w' b v blocks M:=
 {h with
  str:=(hu.block _ (zf h.str) (hs b (.inl rfl))).trans h.str
  sl:=h.sl.keep hu (fun g hg=>hs g (.inr (.inl hg)))
  sets:=fun p hp=>(h.sets p hp).keep hu (hs p.1 (.inr (.inr (qzv.2 ⟨p,hp,rfl⟩))))}
theorem LgAt.new(h:LgAt w b v blocks M)(hu:Upd (fun _=>False) w w'):LgAt w' b v blocks M:=h.keep hu (fun _ _ h=>h)
theorem LgAt.slt(h:LgAt w b v blocks M):∀j,lgS b v M j->j<w.heap.size:=by
 rintro j (rfl|hj|hj)
 .exact zf h.str
 .exact h.sl.lt hj
 .obtain ⟨p,hp,rfl⟩:=qzv.1 hj;exact(h.sets p hp).lt
theorem LgAt.c(h:LgAt w b v blocks M):w.cell? ⟨b,0,none⟩=some (.int .i64 blocks)/\w.cell? ⟨b,1,none⟩=some v:=by
 refine⟨?_,?_⟩<;>rw[za h.str]<;>rfl
theorem LgAt.at(h:LgAt w b v blocks M){k:Nat}(hk:k<M.length):∃g off cap,v=.slice (some ⟨g,off,none⟩) M.length cap/\w.cell? ⟨g,off+k,none⟩=some (.map (some M[k].1)):=by
 obtain⟨g,off,cap,cur,rfl,hg,hs,hc⟩:=h.sl.at (by omega);refine⟨g,off,cap,rfl,?_⟩;rw[za hg];exact hc k _ (by simp[LgC,hk])
theorem qO{M:List (Nat×(Int->Bool))}{k:Nat}(hk:k<M.length)(A:Int->Bool):(M.set k (M[k].1,A)).map (·.1)=M.map (·.1):=by
 apply qye (by simp);intro i h1 h2;simp only[qyy,qzb];split
 .rename_i e;subst e;rfl
 .rfl
theorem Ji{M:List (Nat×(Int->Bool))}{k:Nat}(hk:k<M.length)(A:Int->Bool):LgC (M.set k (M[k].1,A))=LgC M:=by
 have h:∀M:List (Nat×(Int->Bool)),LgC M=(M.map (·.1)).map fun b=>Value.map (some b):=fun M=>by simp[LgC]
 rw[h,h,qO hk]
theorem LgAt.turn(h:LgAt w b v blocks M){k:Nat}(hk:k<M.length)(hu:Upd (fun j=>j=M[k].1) w w'){A:Int->Bool}(hs:SetAt w' M[k].1 4097 A)(hr:∀s:Int,A s=true->-1<=s/\s<(blocks:Int)):
  LgAt w' b v blocks (M.set k (M[k].1,A)):=by
 have hmk:=h.mb M[k] (qyz hk);exact{h with
  str:=(hu.block _ (zf h.str) (fun e=>hmk.1 e.symm)).trans h.str
  sl:=by rw[Ji hk,qzj];exact h.sl.keep hu (fun g hg e=>hmk.2 (by rw[hg,e]))
  sets:=fun p hp=>by
   obtain⟨i,hi,rfl⟩:=qza hp;simp only[qzj]at hi;rw[qzb];split
   .exact hs
   .rename_i hne
    refine(h.sets _ (qyz hi)).keep hu (fun e=>hne ?_);have:=(List.getElem_inj (i:=i) (j:=k) (h₀:=by simpa using hi) (h₁:=by simpa using hk) h.nd).1 (by simpa using e);exact this.symm
  nd:=by rw[qO hk];exact h.nd
  mb:=fun p hp=>by
   have:p.1∈(M.set k (M[k].1,A)).map (·.1):=qzv.2 ⟨p,hp,rfl⟩;rw[qO hk]at this;obtain⟨q,hq,hqe⟩:=qzv.1 this;rw[<-hqe];exact h.mb q hq
  len:=by rw[qzj];exact h.len
  rg:=fun p hp s hps=>by
   obtain⟨i,hi,rfl⟩:=qza hp;simp only[qzj]at hi;rw[qzb]at hps;split at hps
   .exact hr s hps
   .exact h.rg _ (qyz hi) s hps}
end
def Lg(S:Nat->Prop)(w:World)(b blocks:Nat)(G:List (Int->Bool)):Prop:=∃v M,LgAt w b v blocks M/\M.map (·.2)=G/\∀j,lgS b v M j->S j
theorem Lg.jQ(b blocks:Nat)(G:List (Int->Bool)):Thing (fun S w=>Lg S w b blocks G)where
 keep:=fun h hu hs=>by
  obtain⟨v,M,h,hG,hS⟩:=h;exact⟨v,M,h.keep hu (fun j hj=>hs j (hS j hj)),hG,hS⟩
 out:=fun h hs=>by
  obtain⟨v,M,h,hG,hS⟩:=h;exact⟨v,M,h,hG,fun j hj=>hs j (h.slt j hj) (hS j hj)⟩
theorem qc{w:World}{b blocks:Nat}{v:Value}{M:List (Nat×(Int->Bool))}(h:LgAt w b v blocks M)(k:Nat)(hk:k<M.length):
  Calls prog 271 #[.pointer (some ⟨b,0,none⟩),.int .i64 (k:Int)] w fun e w'=>e=.returned (.int .i64 0)/\w=w':=by
 obtain⟨-,g1⟩:=h.c;obtain⟨g,off,cap,rfl,-⟩:=h.at hk;have hl:=h.len;have q1:decide ((k:Int)<0)=false:=by simp
 have q2:decide ((k:Int)>=(M.length:Int))=false:=by simp;omega
 have q3:decide ((M.length:Int)<=(k:Int))=false:=by simp;omega
 have q4:decide (M.length<=k)=false:=by simp;omega
 clear h;go_enter func271,ntmps271
 go_wp2
 go_ret
 exact⟨rfl,rfl⟩
theorem zbx{w:World}{mb N:Nat}{A:Int->Bool}(h:SetAt w mb N A):
  Calls prog 272 #[.map (some mb)] w fun e w'=>e=.returned (.bool (A (-1)))/\Below w.heap.size w w':=by
 have hl:=h.look (x:= -1) (by unfold InR;omega);clear h;go_enter func272,ntmps272
 go_wp2
 go_ret
 exact⟨rfl,(qxl _ _).alloc (qXv _) _⟩
def putA(A:Int->Bool)(x:Int):Int->Bool:=if x≠-1/\A (-1)=true then A else updB (if x= -1 then fun _=>false else A) x true
theorem Jj{A:Int->Bool}{x:Int}{n:Nat}(hA:∀s:Int,A s=true->-1<=s/\s<(n:Int))(hx:x= -1\/0<=x/\x<(n:Int))(hn:1<=n):∀s:Int,putA A x s=true->-1<=s/\s<(n:Int):=by
 intro s hs;unfold putA at hs;split at hs
 .exact hA s hs
 .unfold updB at hs;split at hs
  .omega
  .split at hs
   .simp at hs
   .exact hA s hs
def PutL(w:World)(b blocks:Nat)(v:Value)(M:List (Nat×(Int->Bool)))(k:Nat)(hk:k<M.length)(A:Int->Bool)(e:Ending)(w':World):Prop:=
 e=.returned (.int .i64 0)/\LgAt w' b v blocks (M.set k (M[k].1,A))/\Upd (fun j=>j=M[k].1) w w'
theorem Jk{w:World}{b blocks:Nat}{v:Value}{M:List (Nat×(Int->Bool))}(h:LgAt w b v blocks M)(k:Nat)(hk:k<M.length)(x:Int)(hx:x= -1\/(0<=x/\x<(blocks:Int))):
  Calls prog 202 #[.pointer (some ⟨b,0,none⟩),.int .i64 (k:Int),.int .i64 x] w (PutL w b blocks v M k hk (putA M[k].2 x)):=by
 have hmap:LgAt w b v blocks (M.set k (M[k].1,M[k].2)):=by
  have:M.set k (M[k].1,M[k].2)=M:=by apply qye (by simp);intro i h1 h2;rw[qzb];split;(rename_i e;subst e;rfl);rfl
  rw[this];exact h
 have hset:=h.sets M[k] (qyz hk);have hrg:=h.rg M[k] (qyz hk);have hbl:=h.bl;have hl:=h.len;obtain⟨g0,g1⟩:=h.c;obtain⟨g,off,cap,rfl,gk⟩:=h.at hk;have b1:(0:Int)<=(k:Int):=by omega
 have b2:(k:Int)<(M.length:Int):=by omega
 have hrg2:=Jj hrg hx hbl.1;have HP:=Y5 hmap hset hrg h hrg2;clear hmap hset hrg h hrg2;by_cases h1:x= -1
 .have e1:putA M[k].2 x=updB (fun _=>false) x true:=by unfold putA;rw[if_neg (fun h=>h.1 h1),if_pos h1]
  rw[e1]at HP⊢;subst h1;clear e1 hx;obtain⟨w2,hr2,hs2,hu2,hz2⟩:=(HP.o.2.1).clear;obtain⟨w3,hr3,hs3,hu3,hz3⟩:=hs2.store (x:= -1) (by unfold InR;omega) (by unfold maxLen;omega);have HE:Hid (PutL w b blocks (.slice (some ⟨g,off,none⟩) M.length cap) M k hk (updB (fun _=>false) (-1) true) (.returned (.int .i64 0)) w3):=
   ⟨rfl,HP.o.2.2.2.1.turn hk (hu2.trans hu3) ((hs3.tight blocks HP.o.2.2.2.2).mono (by omega)) HP.o.2.2.2.2,hu2.trans hu3⟩
  clear hs2 hu2 hz2 hs3 hu3 hz3;go_enter func202,ntmps202
  go_wp2_with (first
   |(go_at_call 271;refine(qc HP.o.2.2.2.1 k hk).mono ?_;rintro e w' ⟨rfl,rfl⟩)
   |fail)
  go_ret
  exact HE.o
 .have hx':0<=x/\x<(blocks:Int):=hx.resolve_left h1;obtain⟨c1,c2⟩:=hx';have q1:(x != -1)=true:=by rw[bne_iff_ne];exact h1
  have q2:decide (x<0)=false:=by simp;omega
  have q3:decide (x>=(blocks:Int))=false:=by simp;omega
  have q4:decide ((blocks:Int)<=x)=false:=by simp;omega
  have q5:(x== -1)=false:=by rw[qYv];exact h1
  by_cases h2:M[k].2 (-1)=true
  .have e1:putA M[k].2 x=M[k].2:=by unfold putA;rw[if_pos ⟨h1,h2⟩]
   rw[e1]at HP⊢;have hany:Calls prog 272 #[.map (some M[k].1)] w fun e w'=>e=.returned (.bool true)/\Below w.heap.size w w':=(zbx HP.o.2.1).mono (fun e w' h=>⟨by rw[h.1,h2],h.2⟩);clear e1 hx h1 h2;go_enter func202,ntmps202
   go_wp2_with (first
    |(go_at_call 271;refine(qc HP.o.2.2.2.1 k hk).mono ?_;rintro e w' ⟨rfl,rfl⟩)
    |(go_at_call 272;refine hany.mono ?_;rintro e w1 ⟨rfl,hb1⟩)
    |fail)
   go_ret
   exact⟨rfl,HP.o.1.new (uuo hb1),uuo hb1⟩
  .have e1:putA M[k].2 x=updB M[k].2 x true:=by unfold putA;rw[if_neg (fun h=>h2 h.2),if_neg h1]
   rw[e1]at HP⊢;have h2':M[k].2 (-1)=false:=by simpa using h2
   have hany:Calls prog 272 #[.map (some M[k].1)] w fun e w'=>e=.returned (.bool false)/\Below w.heap.size w w':=(zbx HP.o.2.1).mono (fun e w' h=>⟨by rw[h.1,h2'],h.2⟩);clear e1 hx h1 h2 h2';go_enter func202,ntmps202
   go_wp2_with (first
    |(go_at_call 271;refine(qc HP.o.2.2.2.1 k hk).mono ?_;rintro e w' ⟨rfl,rfl⟩)
    |fail)
   refine hany.mono ?_;rintro e w1 ⟨rfl,hb1⟩;have hu1:=qqb hb1;have h1:=HP.o.2.2.2.1.new hu1;obtain⟨w3,hr3,hs3,hu3,hz3⟩:=(HP.o.2.1.keep hu1 (fun h=>h)).store (x:=x) (by unfold InR;omega) (by unfold maxLen;omega);have HE:Hid (PutL w b blocks (.slice (some ⟨g,off,none⟩) M.length cap) M k hk (updB M[k].2 x true) (.returned (.int .i64 0)) w3):=
    ⟨rfl,h1.turn hk hu3 ((hs3.tight blocks HP.o.2.2.2.2).mono (by omega)) HP.o.2.2.2.2,(hu1.mono (fun _ _ h=>h.elim)).trans hu3⟩
   clear hs3 hu3 hz3 h1 hu1 hb1;go_wp2
   go_ret
   exact HE.o
def sj(G:List (Int->Bool))(k:Nat)(x:Int):List (Int->Bool):=G.modify k (fun A=>putA A x)
def scrubG(G:List (Int->Bool))(k:Nat):List (Int->Bool):=G.modify k (fun _ _=>false)
theorem sR{M:List (Nat×(Int->Bool))}{k:Nat}(hk:k<M.length)(f:(Int->Bool)->Int->Bool):(M.set k (M[k].1,f M[k].2)).map (·.2)=(M.map (·.2)).modify k f:=by
 apply qye (by simp);intro i h1 h2;simp only[qyy,qzb,List.getElem_modify];split
 .rename_i e;subst e;rfl
 .rfl
theorem zcy{S:Nat->Prop}{w:World}{b blocks:Nat}{G:List (Int->Bool)}(h:Lg S w b blocks G)(k:Nat)(hk:k<G.length)(x:Int)(hx:x= -1\/(0<=x/\x<(blocks:Int))):
  Calls prog 202 #[.pointer (some ⟨b,0,none⟩),.int .i64 (k:Int),.int .i64 x] w fun e w'=>e=.returned (.int .i64 0)/\Lg S w' b blocks (sj G k x)/\Upd S w w':=by
 obtain⟨v,M,h,rfl,hS⟩:=h;have hk':k<M.length:=by simpa using hk
 refine(Jk h k hk' x hx).mono ?_;rintro e w' ⟨rfl,h2,hu⟩;refine⟨rfl,⟨v,_,h2,sR hk' (fun A=>putA A x),fun j hj=>hS j ?_⟩,hu.mono (fun j _ hj=>hS j (.inr (.inr (by rw[hj];exact qzv.2 ⟨M[k],qyz hk',rfl⟩))))⟩;rcases hj with hj|hj|hj
 .exact .inl hj
 .exact .inr (.inl hj)
 .rw [qO hk']at hj;exact .inr (.inr hj)
theorem Al{S:Nat->Prop}{w:World}{b blocks:Nat}{G:List (Int->Bool)}(h:Lg S w b blocks G)(k:Nat)(hk:k<G.length):
  Calls prog 204 #[.pointer (some ⟨b,0,none⟩),.int .i64 (k:Int)] w fun e w'=>e=.returned (.int .i64 0)/\Lg S w' b blocks (scrubG G k)/\Upd S w w':=by
 obtain⟨v,M,h,rfl,hS⟩:=h;have hk':k<M.length:=by simpa using hk
 clear hk;have hset:=h.sets M[k] (qyz hk');obtain⟨w2,hr2,hs2,hu2,hz2⟩:=hset.clear;have h2:=h.turn hk' hu2 hs2 (fun s hs=>by simp at hs);have HE:Hid (Lg S w2 b blocks (scrubG (M.map (·.2)) k)/\Upd S w w2):=by
  refine⟨⟨v,_,h2,sR hk' (fun _ _=>false),fun j hj=>hS j ?_⟩,hu2.mono (fun j _ hj=>hS j (.inr (.inr (by rw[hj];exact qzv.2 ⟨M[k],qyz hk',rfl⟩))))⟩;rcases hj with hj|hj|hj
  .exact .inl hj
  .exact .inr (.inl hj)
  .rw [qO hk']at hj;exact .inr (.inr hj)
 have hl:=h.len;obtain⟨-,g1⟩:=h.c;obtain⟨g,off,cap,rfl,gk⟩:=h.at hk';have b1:(0:Int)<=(k:Int):=by omega
 have b2:(k:Int)<(M.length:Int):=by omega
 have HP:=qqh h;clear h hset hs2 hu2 hz2 h2 hS;go_enter func204,ntmps204
 go_wp2_with (first
  |(go_at_call 271;refine(qc HP.o k hk').mono ?_;rintro e w' ⟨rfl,rfl⟩)
  |fail)
 go_ret
 exact⟨rfl,HE.o⟩
theorem vn:(prog.info? 3).map (fun i=>(i.zero,i.size,i.bytes))=some (some (.int .i64 0),1,8):=by kernel_rfl
theorem un(l:List Int):∀u∈ints l,u.oneCell'=true:=by intro u hu;simp only[ints,qzv]at hu;obtain⟨p,_,rfl⟩:=hu;rfl
theorem yB{w:World}{v:Value}{l:List Int}(h:Rd w 1 v l.length (ints l))(hle:l.length<=4096):
  Calls prog 113 #[v] w fun e w'=>∃v',e=.returned v'/\Sl w' 3 1 v' l.length (ints l)/\From w.heap.size v'/\Below w.heap.size w w':=by
 obtain⟨i0,hi,hz0,hz1,hz2⟩:=qZa vn;have H:=qqh h;obtain⟨hl,hm,ao,c,rfl,h0,_⟩:=h;have q34:=fun(w:World) (a:Option Addr) (n c:Nat)=>Lib.run_eql_slice_nil (P:=prog) w 87 3 a n c 0 0 underlying87;cases ao with
 |none=>
  have hn:=h0 rfl;have hE:Hid (Sl w 3 1 (.slice none 0 0) l.length (ints l)):=by
   have:l=[]:=List.length_eq_zero_iff.1 hn;subst this;exact Sl.nil _ _ _
  clear h0 hl H hm;go_enter func113,ntmps113
  go_wp2
  go_ret
  exact⟨_,rfl,hE.out,From.nil _ _ _,qxl _ _⟩
 |some a=>
  clear h0 hl;have hs0:Sl (w.alloc (.cells #[] 3)) 3 1 (.slice (some ⟨w.heap.size,0,none⟩) 0 0) 0 []:=
   ⟨by simp,.inr ⟨w.heap.size,0,0,#[],rfl,zc _ _ rfl,by simp,by simp[maxLen],by simp,by simp⟩⟩
  have HR:Hid (Rd (w.alloc (.cells #[] 3)) 1 (.slice (some a) l.length c) l.length (ints l)):=H.o.keep ((uur (fun _=>False) _).alloc _) (fun _ _ h=>h);have hone:=un l;go_enter func113,ntmps113
  go_wp2_with (at_builtin;refine zD rfl _ _ 87 rfl i0 (.int .i64 0) 8 underlying87 hi hz0 hz1 hz2 rfl (by decide) rfl hs0 _ l.length (ints l) rfl HR.o hone (by unfold maxLen;omega) (by omega) ?_)
  intro v' w2 hs2 hu2 hb2;go_wp2
  go_ret
  refine⟨_,rfl,by simpa using hs2,?_,?_⟩
  .exact hb2.ge (by simp) (by intro g hg;simp[Value.ownBlock]at hg;omega)
  .refine zl ((qxl _ _).alloc (qXv _) _) hu2 (qXv _) (by intro k hk;simp[ownS,Value.ownBlock]at hk;omega)
theorem sk(l:List Int)(i j:Nat):(l.eraseIdx i)[j]?=if j<i then l[j]? else l[j+1]?:=by
 rw[List.getElem?_eraseIdx]
theorem Zw{w:World}{v:Value}{l:List Int}(h:Sl w 3 1 v l.length (ints l))(hle:l.length<=4096){i:Nat}(hi:i<l.length):
  Calls prog 238 #[v,.int .i64 i,.int .i64 ((i:Int)+1)] w fun e w'=>∃v',e=.returned v'/\v'.ownBlock=v.ownBlock/\Sl w' 3 1 v' (l.eraseIdx i).length (ints (l.eraseIdx i))/\Upd (ownS v) w w':=by
 obtain⟨i0,hi0,hz0,hz1,hz2⟩:=qZa vn;obtain⟨hl,⟨rfl,h0⟩|⟨g,off,cap,cur,rfl,hg,hn,hm,hs,hc⟩⟩:=h
 .omega
 have hlen:(l.eraseIdx i).length=l.length-1:=List.length_eraseIdx_of_lt hi;obtain⟨news,hnews⟩:=qqe (ints (l.drop (i+1)));have hnl:news.length=l.length-(i+1):=by rw[hnews];simp
 have hg':w.drew.heap[g]?=some (.cells cur 3 (0,0)):=hg;obtain⟨A,hA,hsrc⟩:∃A:Addr,(if cap=i+1 then some (⟨g,off,none⟩:Addr)else some ⟨g,off+(i+1),none⟩)=some A/\Hid (∀t u,news[t]?=some u->w.drew.cell? (A.add t)=some u):=by
  by_cases h:cap=i+1
  .refine ⟨⟨g,off,none⟩,by simp[h],fun t u hu=>?_⟩;have h0:news.length=0:=by omega
   rw[List.length_eq_zero_iff.1 h0]at hu;simp at hu
  .refine ⟨⟨g,off+(i+1),none⟩,by simp[h],fun t u hu=>?_⟩;rw[qxa,za hg'];rw[hnews]at hu;have:(ints l)[i+1+t]?=some u:=by
    rw[<-hu];simp[ints,List.getElem?_drop]
   rw[show off+(i+1)+t=off+(i+1+t) by omega];exact hc _ _ this
 have s1:Hid (news.length=(l.length-(i+1))*1):=by rw[Nat.mul_one];exact hnl
 have s2:Hid (∀u∈news,u.oneCell'=true):=by rw[hnews];exact un _
 have s3:Hid (∀t,t<news.length->(w.drew.cell? ⟨g,off+i*1+t,none⟩).isSome=true/\w.drew.frozen? ⟨g,off+i*1+t,none⟩=false):=by
  intro t ht;rw[za hg',zg hg'];refine⟨?_,rfl⟩;rw[qxe (by omega)];rfl
 obtain⟨cur1,hb1,hz1',hget1⟩:=zA news (off+i*1) w.drew g cur 3 (0,0) hg';obtain⟨W1,hW1⟩:=qqe (w.drew.setCells g (off+i*1) news);rw[<-hW1]at hb1;have hk1:∀t,t<l.length-(i+(l.length-(i+1)))->(W1.cell? ⟨g,off+(i+(l.length-(i+1)))+t,none⟩).isSome=true:=by
  intro t ht;rw[za hb1,qxe (by omega)];rfl
 have hcl:∀ty,(Builtin.clear_ #[87] ty #[.slice (some ⟨g,off+(i+(l.length-(i+1))),none⟩) (l.length-(i+(l.length-(i+1)))) (cap-(i+(l.length-(i+1))))]).run prog W1=.ok (.tuple #[]) (W1.setCells g (off+(i+(l.length-(i+1)))) (List.replicate (l.length-(i+(l.length-(i+1)))) (.int .i64 0))):=
  fun ty=>Lib.run_clear_slice W1 _ 3 ty (.int .i64 0) underlying87 (fun w=>Tryz.zeroValue3 w) rfl rfl g (off+(i+(l.length-(i+1)))) _ _ (by omega) hk1 (fun t _=>zg hb1 _)
 obtain⟨cur2,hb2,hz2',hget2⟩:=zA (List.replicate (l.length-(i+(l.length-(i+1)))) (Value.int .i64 0)) (off+(i+(l.length-(i+1)))) W1 g cur1 3 (0,0) hb1;have hU:Upd (ownS (.slice (some ⟨g,off,none⟩) l.length cap)) w (W1.setCells g (off+(i+(l.length-(i+1)))) (List.replicate (l.length-(i+(l.length-(i+1)))) (.int .i64 0))):=by
  refine Upd.trans (b:=W1) ?_ (yp _ _ _ _ _ rfl);rw[hW1];exact((uur _ w).drew).trans (yp _ _ _ _ _ rfl)
 have hend:Sl (W1.setCells g (off+(i+(l.length-(i+1)))) (List.replicate (l.length-(i+(l.length-(i+1)))) (.int .i64 0))) 3 1 (.slice (some ⟨g,off,none⟩) (i+(l.length-(i+1))) cap) (l.eraseIdx i).length (ints (l.eraseIdx i)):=by
  refine⟨by simp,.inr ⟨g,off,cap,cur2,by rw[hlen,show i+(l.length-(i+1))=l.length-1 by omega],hb2,by omega,hm,by omega,fun j u hu=>?_⟩⟩;have hj:=(qyp.1 hu).1;rw[yZ,hlen]at hj;rw[hget2,if_neg (by omega),hget1];simp only[ints,qyq,sk]at hu;by_cases hji:j<i
  .rw [if_neg (by omega)];rw[if_pos hji]at hu;exact hc j u (by simpa[ints]using hu)
  .rw [if_neg hji]at hu;rw[if_pos ⟨by omega,by omega,by omega⟩,hnews,show off+j-(off+i*1)=j-i by omega];simp only[ints,qyq,qym];rw[show i+1+(j-i)=j+1 by omega];exact hu
 have HU:=qqh hU;have HE:=qqh hend;have hW:Hid (W1=w.drew.setCells g (off+i*1) news):=hW1;have hic:i<=cap:=by omega
 have hjc:i+1<=cap:=by omega
 have hj0:(0:Int)<=(i:Int)+1:=by omega
 have hj1:(i:Int)+1<=(l.length:Int):=by omega
 have hj2:0<=(i:Int)+1/\(i:Int)+1<=(l.length:Int):=⟨hj0,hj1⟩
 have hb:((i:Int)==(i:Int)+1)=false:=by simp;omega
 clear hk1 hU hend hget2 hget1 hb2 hb1 hW1 hc hg hg' hnews hnl hs;go_enter func238,ntmps238
 go_wp2_with fail
 go_region_law (refine step_append_room rfl (.tmp 22) (.tmp 25) 87 rfl 3 i0 1 underlying87 hi0 hz1 g off i cap (by simp[Act.eval,Act.put]) A (l.length-(i+1)) (cap-(i+1)) news (by simp[Act.eval,Act.put]) s1.out hsrc.out s2.out (by omega) s3.out ?_;rw[<-hW.out])
 go_wp2
 go_ret
 exact⟨_,rfl,rfl,HE.o,HU.o⟩
end Go.Proofs.YtfhfbpmlnjdfoaaGreatDoor
