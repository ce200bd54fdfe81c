/- Maps from ints -/
import Derived.Test.YtpejdgiccaijfaaGreatDoorG04
import Derived.Test.YtpejdgiccaijfaaGreatDoorG03
import Derived.Maps.Views
import Derived.Maps.OwnSet
import Derived.MapKept
import Derived.Test.YtpejdgiccaijfaaGreatDoorG05
import Derived.Shelf.SlMaps.Clone
import Derived.Maps.Range
import Derived.Deep.RegionLaw
import Derived.Lib.SliceRun
import Derived.Lib.AppendZeros
set_option maxRecDepth 100000
set_option maxHeartbeats 1000000
namespace Go.Proofs.YtpejdgiccaijfaaGreatDoor
open Go Go.RowKit Tryz
variable{w w':World}{N mb b slots k most few N' blocks:Nat}{A:Int->Bool}{S:Nat->Prop}{v:Value}{x:Int}{ps:List (Int×Bool)}{K G l:List Int}{f:Int->Option Nat}{M:List (Nat×(Int->Bool))}
section
open Go.Maps
def MapAt(w:World)(mb N:Nat)(f:Int->Option Nat):Prop:=
 ∃D:DataW Unit,w.ownsMap prog 3 (plainElem prog 3) mb N D/\
  ∀s:Int,Maps.has D (.int .i64 s)=(f s).isSome/\∀c,f s=some c->∀z,D.atKey (.int .i64 s) z=.lit (.int .i64 (c:Int))
theorem yC:Keyed prog 3:=int_keyed underlying3
theorem wfI(h1: -9223372036854775808<=x)(h2:x<9223372036854775808):(Lit.int .i64 x).wf=true:=by
 have a:IntKind.i64.min= -9223372036854775808:=de;have j:IntKind.i64.max=9223372036854775807:=de;simp only[Lit.wf,a,j,qxo,decide_eq_true_eq];omega
theorem qM(h1: -9223372036854775808<=x)(h2:x<9223372036854775808):keyOf prog 3 (.int .i64 x)=some (.int .i64 x):=keyOf_int_mk underlying3 (wfI h1 h2)
theorem MapAt.lt(h:MapAt w mb N f):mb<w.heap.size:=by obtain⟨D,h,_⟩:=h;exact h.lt
theorem MapAt.keep(h:MapAt w mb N f)(hu:Upd S w w')(j:¬S mb):MapAt w' mb N f:=by
 obtain⟨n,⟨p,q,a,r⟩,s⟩:=h;exact⟨n,⟨p,q,(hu.block _ (zd a) j).trans a,r⟩,s⟩
theorem MapAt.mono(a:MapAt w mb N f)(h:N<=N'):MapAt w mb N' f:=by obtain⟨j,a,n⟩:=a;exact⟨j,a.mono h,n⟩
theorem MapAt.made(w:World):MapAt (w.alloc (.map #[] 0)) w.heap.size 0 (fun _=>none):=
 ⟨.map [],World.ownsMap_made w _ _ _,fun s=>⟨rfl,fun c h=>by cases h⟩⟩
theorem yD(a:w.mapTurned w' b):Upd (fun h=>h=b) w w':=by
 obtain⟨j,n,c,d,e⟩:=a.grown;exact⟨j,n,c,d,fun i p q=>e i p (fun e=>q (by simpa using e))⟩
theorem yn(a:w.mapTurned w' b):w'.heap.size=w.heap.size:=by
 obtain⟨h,j,n,p,q,rfl⟩:=a;simp[Go.ChangeMaps.setBlock]
theorem Sm(w:World):(zeroValue 3).run prog w=.ok (.int .i64 0) w:=by
 exact Tryz.zeroValue3 w
theorem MapAt.look(h:MapAt w mb N f)(h1: -9223372036854775808<=x)(h2:x<9223372036854775808):
  (Instr.lookup 168 (.map (some mb)) (.int .i64 x) true).run prog w=.ok (.tuple #[.int .i64 (((f x).getD 0:Nat):Int),.bool (f x).isSome]) w:=by
 obtain⟨p,q,j⟩:=h;obtain⟨v,ps,s,E⟩:=q.look_ok yC underlying168 (Sm w) (plainElem_int underlying3 de) (qM h1 h2);obtain⟨c,rfl,a,H⟩:=plainElem_int_inv underlying3 E;simp only[qYe]at a;rw[s,(j x).1];have:c=(((f x).getD 0:Nat):Int):=by
  cases hx:f x with
  |none=>
   have n:=(j x).1;rw[hx]at n;have:=atKey_of_not_has (D:=p) n (.lit (.int .i64 0));rw[this]at a;simp at a;simpa using a.1.symm
  |some F=>
   have:=(j x).2 F hx (.lit (.int .i64 0));rw[this]at a;simp at a;simpa using a.1.symm
 rw[this]
theorem MapAt.drop(s:MapAt w mb N f)(h1: -9223372036854775808<=x)(h2:x<9223372036854775808)(j:TypeId):
  ∃w',(Builtin.delete_ #[168,3] j #[.map (some mb),.int .i64 x]).run prog w=.ok (.tuple #[]) w'/\MapAt w' mb N (yP f x none)/\Upd (fun D=>D=mb) w w'/\w'.heap.size=w.heap.size:=by
 obtain⟨L,E,n⟩:=s;obtain⟨w',F,H,p⟩:=E.drop yC underlying168 (qM h1 h2) j;refine⟨w',F,⟨_,H,fun a=>?_⟩,yD p,yn p⟩;by_cases h:a=x
 .subst h;simp[yP,has_del_same]
 .have q:Lit.int .i64 a≠Lit.int .i64 x:=fun e=>h (by injection e);simp only[yP,if_neg h,has_del_other q];exact⟨(n a).1,fun c J z=>by rw[atKey_del_other q];exact(n a).2 c J z⟩
theorem MapAt.store(h:MapAt w mb N f)(h1: -9223372036854775808<=x)(h2:x<9223372036854775808)(c:Nat)(n:c<9223372036854775808)(J:N<maxLen):
  ∃w',(Instr.mapUpdate 168 (.map (some mb)) (.int .i64 x) (.int .i64 (c:Int))).run prog w=.ok () w'/\MapAt w' mb (N+1) (yP f x (some c))/\Upd (fun L=>L=mb) w w'/\w'.heap.size=w.heap.size:=by
 obtain⟨T,p,q⟩:=h;have s:=p.isMap;have D:∀y:Int,WideAt.IsKeyLit (.int .i64 y):=fun _=>trivial;obtain⟨w',O,Q,E⟩:=p.store (ps:=[]) (d:=.lit (.int .i64 (c:Int))) yC underlying168 J (qM h1 h2) (plainElem_int underlying3 (wfI oM oM));refine⟨w',O,⟨_,Q,fun a=>?_⟩,yD E,yn E⟩;by_cases j:a=x
 .subst j;simp only[yP];exact⟨by rw[has_put_same s (D _)];simp,fun U F z=>by simp at F;subst F;exact atKey_put_same s (D _) _ _⟩
 .have H:Lit.int .i64 a≠Lit.int .i64 x:=fun e=>j (by injection e);simp only[yP,if_neg j,has_put_other H];exact⟨(q a).1,fun c n z=>by rw[atKey_put_other H];exact(q a).2 c n z⟩
def SetAt(w:World)(mb N:Nat)(A:Int->Bool):Prop:=
 ∃D:DataW Unit,w.ownsMap prog 3 unitElem mb N D/\∀s:Int,Maps.has D (.int .i64 s)=A s
theorem SetAt.lt(h:SetAt w mb N A):mb<w.heap.size:=by obtain⟨D,h,_⟩:=h;exact h.lt
theorem SetAt.keep(h:SetAt w mb N A)(hu:Upd S w w')(j:¬S mb):SetAt w' mb N A:=by
 obtain⟨n,⟨p,q,a,r⟩,s⟩:=h;exact⟨n,⟨p,q,(hu.block _ (zd a) j).trans a,r⟩,s⟩
theorem SetAt.mono(a:SetAt w mb N A)(h:N<=N'):SetAt w mb N' A:=by obtain⟨j,a,n⟩:=a;exact⟨j,a.mono h,n⟩
theorem SetAt.made(w:World):SetAt (w.alloc (.map #[] 0)) w.heap.size 0 (fun _=>false):=
 ⟨.map [],World.ownsMap_made w _ _ _,fun _s=>rfl⟩
def updB(A:Int->Bool)(x:Int)(v:Bool):Int->Bool:=fun s=>if s=x then v else A s
def InR(x:Int):Prop:= -9223372036854775808<=x/\x<9223372036854775808
theorem zeH(w:World):(zeroValue 412).run prog w=.ok (.agg #[]) w:=by
 exact Tryz.zeroValue412 w
theorem SetAt.look(a:SetAt w mb N A)(hx:InR x):
  (Instr.lookup 330 (.map (some mb)) (.int .i64 x) true).run prog w=.ok (.tuple #[.agg #[],.bool (A x)]) w:=by
 obtain⟨q,h,j⟩:=a;obtain⟨v,ps,n,p⟩:=h.look_ok yC underlying330 (zeH w) unitElem_mk (qM hx.1 hx.2);obtain⟨rfl,_⟩:=unitElem_inv p;rw[n,j x]
theorem SetAt.drop(p:SetAt w mb N A)(hx:InR x)(j:TypeId):
  ∃w',(Builtin.delete_ #[330,3] j #[.map (some mb),.int .i64 x]).run prog w=.ok (.tuple #[]) w'/\SetAt w' mb N (updB A x false)/\Upd (fun q=>q=mb) w w'/\w'.heap.size=w.heap.size:=by
 obtain⟨J,s,D⟩:=p;obtain⟨w',E,F,n⟩:=s.drop yC underlying330 (qM hx.1 hx.2) j;refine⟨w',E,⟨_,F,fun a=>?_⟩,yD n,yn n⟩;by_cases h:a=x
 .subst h;simp[updB,has_del_same]
 .have H:Lit.int .i64 a≠Lit.int .i64 x:=fun e=>h (by injection e);simp only[updB,if_neg h,has_del_other H];exact D a
theorem SetAt.store(p:SetAt w mb N A)(hx:InR x)(q:N<maxLen):
  ∃w',(Instr.mapUpdate 330 (.map (some mb)) (.int .i64 x) (.agg #[])).run prog w=.ok () w'/\SetAt w' mb (N+1) (updB A x true)/\Upd (fun s=>s=mb) w w'/\w'.heap.size=w.heap.size:=by
 obtain⟨O,j,D⟩:=p;have E:=j.isMap;have F:∀y:Int,WideAt.IsKeyLit (.int .i64 y):=fun _=>trivial;obtain⟨w',H,J,n⟩:=j.store (ps:=[]) (d:=.agg []) yC underlying330 q (qM hx.1 hx.2) unitElem_mk;refine⟨w',H,⟨_,J,fun a=>?_⟩,yD n,yn n⟩;by_cases h:a=x
 .subst h;simp only[updB,if_true];rw[has_put_same E (F _)]
 .have L:Lit.int .i64 a≠Lit.int .i64 x:=fun e=>h (by injection e);simp only[updB,if_neg h,has_put_other L];exact D a
theorem yW(h:SetAt w mb N A):
  Calls prog 446 #[.map (some mb)] w fun e w'=>e=.returned (.map (some w.heap.size))/\SetAt w' w.heap.size N A/\Below w.heap.size w w':=by
 obtain⟨E,⟨a,j,F,n,p,q⟩,s⟩:=h;have J:=fun w=>run_eql_map_nil_sl (P:=prog) w 330 _ _ (some mb) underlying330;have D:SetAt (w.alloc (.map a j)) w.heap.size N A:=⟨E,⟨a,j,(MapKept.heap_alloc w _).1,n,p,q⟩,s⟩
 have H:=qqh D;clear D s q p n;go_enter func446,ntmps446
 go_wp2
 rw[run_callFunc_extern func469 kR kR kR (e:=Extern.MapsClone.clone) kR,run_maps_clone_sl w 330 F];simp only[Result.andThen];rw[Oper.upon_value];go_wp2
 rw[run_typeAssert_map_sl _ 330 _ _ _ _ underlying330];simp only[Result.andThen];rw[Oper.upon_value];go_wp2
 go_ret
 exact⟨rfl,H.o,(qxl _ _).alloc (qXp _) _⟩
theorem uX(h:SetAt w mb N A)(k:Int)(a:InR k):
  Calls prog 447 #[.map (some mb),.int .i64 k] w fun e w'=>e=.returned (.bool (A k))/\Below w.heap.size w w':=by
 have j:=qqf;have n:=(SetAt.keep h ((uur (fun _=>False) w).alloc (.cells #[.bool false] 4)) id).look a;clear h
 go_enter_defers func447,ntmps447
 go_wp2
 refine leaves_cons (f:=470) (args:= #[.pointer (some ⟨w.heap.size,0,none⟩)]) oe jZ ?_;refine(Zg _ _).mono ?_;rintro e p q ⟨rfl,rfl,rfl⟩;simp[Leaves,settle,results,results447,go_sem];exact(qxl _ _).alloc (qXp _) _
end
section
open Go.Maps Go.WideElems
theorem XM:∀(n:Nat) (l:List Int),l.Nodup->(∀x∈l,-1<=x/\x<(n:Int))->l.length<=n+1:=by
 intro n
 induction n with
 |zero=>
  intro l a j
  match l,a,j with
  |[],_,_=>simp
  |[_],_,_=>simp
  |p::b::l,a,j=>
   have h1:=j p oe;have h2:=j b oe;have:p=b:=oM;simp[this]at a
 |succ n q=>
  intro l a j;have h1:=q (l.erase (n:Int)) (a.erase _) (fun x hx=>by
   have h2:=j x (qzs hx);have s:x≠(n:Int):=fun e=>by subst e;exact(List.Nodup.not_mem_erase a) hx
   omega)
  have D:l.length<=(l.erase (n:Int)).length+1:=by
   rw[List.length_erase];split<;>omega
  omega
theorem Vu{R:Value->Option (DataW Unit×List MemPlace)}{D:DataW Unit}(j:w.ownsMap prog 3 R mb N D)(n:Nat)(J:∀h:Int,Maps.has D (.int .i64 h)=true->-1<=h/\h<(n:Int)):
  w.ownsMap prog 3 R mb (n+1) D:=by
 obtain⟨a,E,L,p,F,rfl⟩:=j;refine⟨a,E,L,p,?_,rfl⟩;have H:∀x∈a.toList,∃c:Int,x.key=.int .i64 c/\Maps.has (DataW.map ((a.toList.map (rg prog 3 R)).foldr DataW.insert [])) (.int .i64 c)=true:=by
  intro x hx;obtain⟨y,hy⟩:=p.reads x hx;obtain⟨c,h1,h2⟩:=Maps.keyOf_int_inv underlying3 (rd_key hy);refine⟨c,h1,?_⟩;have q:(rg prog 3 R x).1=.int .i64 c:=by rw[rg_of hy];exact h2.1
  exact List.any_eq_true.2 ⟨rg prog 3 R x,mem_sorted.2 (qzr.2 ⟨x,hx,rfl⟩),by rw[q];exact WideAt.sameKey_self trivial⟩
 let g:MapEntry->Int:=fun x=>match x.key with| .int _ c=>c|_=>0
 have s:∀x∈a.toList,x.key=.int .i64 (g x):=by
  intro x hx;obtain⟨c,h1,-⟩:=H x hx;simp only[g,h1]
 have O:(a.toList.map g).Nodup:=by
  rw[List.Nodup,qXb];have:=((MapKept.stamped_iff a E).1 p.stamped).2.2;refine List.Pairwise.imp_of_mem (fun{P b} Q T U e=>U ?_) this;rw[s P Q,s b T,e]
 have:=XM n _ O (fun h F=>by
  obtain⟨x,hx,rfl⟩:=qzr.1 F;obtain⟨c,h1,h2⟩:=H x hx;have q:g x=c:=by have:=s x hx;rw[h1]at this;injection this with _ j;exact j.symm
  rw[q];exact J c h2)
 simpa using this
theorem SetAt.tight(j:SetAt w mb N A)(n:Nat)(p:∀a:Int,A a=true->-1<=a/\a<(n:Int)):SetAt w mb (n+1) A:=by
 obtain⟨q,s,h⟩:=j;exact⟨q,Vu s n (fun a D=>p a (by rw[<-h];exact D)),h⟩
theorem SetAt.clear(h:SetAt w mb N A):
  ∃w',(∀j,(Builtin.clear_ #[330] j #[.map (some mb)]).run prog w=.ok (.tuple #[]) w')/\SetAt w' mb N (fun _=>false)/\Upd (fun p=>p=mb) w w'/\w'.heap.size=w.heap.size:=by
 obtain⟨s,⟨D,n,a,E,F,rfl⟩,H⟩:=h;refine⟨ChangeMaps.setBlock w mb (.map #[] n),?_,⟨.map [],⟨#[],n,(MapKept.heap_set a).1,⟨oe,MapKept.stamped_empty _,oe⟩,oe,rfl⟩,fun J=>rfl⟩,?_,by simp[ChangeMaps.setBlock]⟩
 .intro j;simp[Builtin.clear_,run_underlying underlying330,MapKept.run_getObj_map a,MapKept.run_setObj_map _ a,Result.andThen,ChangeMaps.setBlock]
 .exact ⟨rfl,rfl,rfl,by simp[ChangeMaps.setBlock],fun k _ q=>(MapKept.heap_set a).2 k q⟩
end
abbrev LgC(M:List (Nat×(Int->Bool))):List Value:=M.map fun p=> .map (some p.1)
structure LgAt(w:World)(b:Nat)(v:Value)(blocks:Nat)(M:List (Nat×(Int->Bool))):Prop where
 str:w.heap[b]?=some (.cells #[.int .i64 blocks,v] 329 (0,0))
 sl:Sl w 330 1 v M.length (LgC M)
 sets:∀p∈M,SetAt w p.1 4097 p.2
 nd:(M.map (·.1)).Nodup
 mb:∀p∈M,p.1≠b/\v.ownBlock≠some p.1
 vb:v.ownBlock≠some b
 len:M.length<=1024
 bl:1<=blocks/\blocks<=4096
 rg:∀p∈M,∀s:Int,p.2 s=true->-1<=s/\s<(blocks:Int)
def lgS(b:Nat)(v:Value)(M:List (Nat×(Int->Bool))):Nat->Prop:=fun j=>j=b\/v.ownBlock=some j\/j∈M.map (·.1)
section
variable{w w':World}{b blocks:Nat}{v:Value}{M:List (Nat×(Int->Bool))}
theorem LgAt.keep(a:LgAt w b v blocks M)(hu:Upd S w w')(h:∀n,lgS b v M n->¬S n):LgAt w' b v blocks M:=
 {a with
  str:=(hu.block _ (zd a.str) (h b (.inl rfl))).trans a.str
  sl:=a.sl.keep hu (fun g q=>h g (.inr (.inl q)))
  sets:=fun j p=>(a.sets j p).keep hu (h j.1 (.inr (.inr (qzr.2 ⟨j,p,rfl⟩))))}
theorem LgAt.new(h:LgAt w b v blocks M)(hu:Upd (fun _=>False) w w'):LgAt w' b v blocks M:=h.keep hu (fun _ _ h=>h)
theorem LgAt.slt(a:LgAt w b v blocks M):∀h,lgS b v M h->h<w.heap.size:=by
 rintro h (rfl|j|j)
 .exact zd a.str
 .exact a.sl.lt j
 .obtain ⟨n,p,rfl⟩:=qzr.1 j;exact(a.sets n p).lt
theorem LgAt.c(h:LgAt w b v blocks M):w.cell? ⟨b,0,none⟩=some (.int .i64 blocks)/\w.cell? ⟨b,1,none⟩=some v:=by
 refine⟨?_,?_⟩<;>rw[za h.str]<;>rfl
theorem LgAt.at(h:LgAt w b v blocks M)(n:k<M.length):∃g a j,v=.slice (some ⟨g,a,none⟩) M.length j/\w.cell? ⟨g,a+k,none⟩=some (.map (some M[k].1)):=by
 obtain⟨g,a,j,s,rfl,p,D,q⟩:=h.sl.at oM;refine⟨g,a,j,rfl,?_⟩;rw[za p];exact q k _ (by simp[LgC,n])
theorem rS(a:k<M.length)(A:Int->Bool):(M.set k (M[k].1,A)).map (·.1)=M.map (·.1):=by
 apply qyd oe;intro i h1 h2;simp only[qyu,qyx];split
 .rename_i e;subst e;rfl
 .rfl
theorem AE(h:k<M.length)(A:Int->Bool):LgC (M.set k (M[k].1,A))=LgC M:=by
 have a:∀M:List (Nat×(Int->Bool)),LgC M=(M.map (·.1)).map fun b=>Value.map (some b):=fun M=>by simp[LgC]
 rw[a,a,rS h]
theorem LgAt.turn(h:LgAt w b v blocks M)(p:k<M.length)(hu:Upd (fun F=>F=M[k].1) w w')(H:SetAt w' M[k].1 4097 A)(J:∀a:Int,A a=true->-1<=a/\a<(blocks:Int)):
  LgAt w' b v blocks (M.set k (M[k].1,A)):=by
 have E:=h.mb M[k] (qyv p);exact{h with
  str:=(hu.block _ (zd h.str) (fun e=>E.1 e.symm)).trans h.str
  sl:=by rw[AE p,qzf];exact h.sl.keep hu (fun g hg e=>E.2 kj)
  sets:=fun s q=>by
   obtain⟨i,n,rfl⟩:=qyw q;simp only[qzf]at n;rw[qyx];split
   .exact H
   .rename_i L
    refine(h.sets _ (qyv n)).keep hu (fun e=>L ?_);have:=(List.getElem_inj (i:=i) (j:=k) (h₀:=by simpa using n) (h₁:=by simpa using p) h.nd).1 (by simpa using e);exact this.symm
  nd:=by rw[rS p];exact h.nd
  mb:=fun s q=>by
   have:s.1∈(M.set k (M[k].1,A)).map (·.1):=qzr.2 ⟨s,q,rfl⟩;rw[rS p]at this;obtain⟨O,Q,T⟩:=qzr.1 this;rw[<-T];exact h.mb O Q
  len:=by rw[qzf];exact h.len
  rg:=fun s q a D=>by
   obtain⟨i,n,rfl⟩:=qyw q;simp only[qzf]at n;rw[qyx]at D;split at D
   .exact J a D
   .exact h.rg _ (qyv n) a D}
end
def Lg(S:Nat->Prop)(w:World)(b blocks:Nat)(G:List (Int->Bool)):Prop:=∃v M,LgAt w b v blocks M/\M.map (·.2)=G/\∀j,lgS b v M j->S j
theorem Lg.kQ(b blocks:Nat)(G:List (Int->Bool)):Thing (fun S w=>Lg S w b blocks G)where
 keep:=fun a s p=>by
  obtain⟨v,M,a,q,j⟩:=a;exact⟨v,M,a.keep s (fun h n=>p h (j h n)),q,j⟩
 out:=fun a p=>by
  obtain⟨v,M,a,q,j⟩:=a;exact⟨v,M,a,q,fun h n=>p h (a.slt h n) (j h n)⟩
theorem qQ(h:LgAt w b v blocks M)(k:Nat)(a:k<M.length):
  Calls prog 282 #[.pointer (some ⟨b,0,none⟩),.int .i64 (k:Int)] w fun e w'=>e=.returned (.int .i64 0)/\w=w':=by
 obtain⟨-,j⟩:=h.c;obtain⟨g,n,p,rfl,-⟩:=h.at a;have q:=h.len;have q1:decide ((k:Int)<0)=false:=oe;have q2:decide ((k:Int)>=(M.length:Int))=false:=by simp;omega
 have s:decide ((M.length:Int)<=(k:Int))=false:=by simp;omega
 have D:decide (M.length<=k)=false:=by simp;omega
 clear h;go_enter func282,ntmps282
 go_wp2
 go_ret
 exact⟨rfl,rfl⟩
theorem zeI(a:SetAt w mb N A):
  Calls prog 283 #[.map (some mb)] w fun e w'=>e=.returned (.bool (A (-1)))/\Below w.heap.size w w':=by
 have h:=a.look (x:= -1) (by unfold InR;omega);clear a;go_enter func283,ntmps283
 go_wp2
 go_ret
 exact⟨rfl,(qxl _ _).alloc (qXp _) _⟩
def putA(A:Int->Bool)(x:Int):Int->Bool:=if x≠-1/\A (-1)=true then A else updB (if x= -1 then fun _=>false else A) x true
theorem AF{n:Nat}(j:∀a:Int,A a=true->-1<=a/\a<(n:Int))(hx:x= -1\/0<=x/\x<(n:Int))(p:1<=n):∀a:Int,putA A x a=true->-1<=a/\a<(n:Int):=by
 intro a h;unfold putA at h;split at h
 .exact j a h
 .unfold updB at h;split at h
  .omega
  .split at h
   .simp at h
   .exact j a h
def PutL(w:World)(b blocks:Nat)(v:Value)(M:List (Nat×(Int->Bool)))(k:Nat)(hk:k<M.length)(A:Int->Bool)(e:Ending)(w':World):Prop:=
 e=.returned (.int .i64 0)/\LgAt w' b v blocks (M.set k (M[k].1,A))/\Upd (fun j=>j=M[k].1) w w'
theorem AG(h:LgAt w b v blocks M)(k:Nat)(j:k<M.length)(x:Int)(hx:x= -1\/(0<=x/\x<(blocks:Int))):
  Calls prog 212 #[.pointer (some ⟨b,0,none⟩),.int .i64 (k:Int),.int .i64 x] w (PutL w b blocks v M k j (putA M[k].2 x)):=by
 have Q:LgAt w b v blocks (M.set k (M[k].1,M[k].2)):=by
  have:M.set k (M[k].1,M[k].2)=M:=by apply qyd oe;intro i h1 h2;rw[qyx];split;(rename_i e;subst e;rfl);rfl
  rw[this];exact h
 have T:=h.sets M[k] (qyv j);have E:=h.rg M[k] (qyv j);have Z:=h.bl;have aa:=h.len;obtain⟨ab,ad⟩:=h.c;obtain⟨g,U,V,rfl,gk⟩:=h.at j;have ae:(0:Int)<=(k:Int):=oM;have af:(k:Int)<(M.length:Int):=oM;have W:=AF E hx Z.1;have a:=Y5 Q T E h W;clear Q T E h W;by_cases h1:x= -1
 .have n:putA M[k].2 x=updB (fun _=>false) x true:=by unfold putA;rw[if_neg (fun h=>h.1 h1),if_pos h1]
  rw[n]at a⊢;subst h1;clear n hx;obtain⟨w2,ag,X,F,a6⟩:=(a.o.2.1).clear;obtain⟨H,a7,q,p,J⟩:=X.store (x:= -1) (by unfold InR;omega) oj;have L:Hid (PutL w b blocks (.slice (some ⟨g,U,none⟩) M.length V) M k j (updB (fun _=>false) (-1) true) (.returned (.int .i64 0)) H):=
   ⟨rfl,a.o.2.2.2.1.turn j (F.trans p) ((q.tight blocks a.o.2.2.2.2).mono oM) a.o.2.2.2.2,F.trans p⟩
  clear X F a6 q p J;go_enter func212,ntmps212
  go_wp2_with (first
   |(go_at_call 282;refine(qQ a.o.2.2.2.1 k j).mono ?_;rintro e w' ⟨rfl,rfl⟩)
   |fail)
  go_ret
  exact L.o
 .have a8:0<=x/\x<(blocks:Int):=hx.resolve_left h1;obtain⟨c1,c2⟩:=a8;have q1:(x != -1)=true:=by rw[bne_iff_ne];exact h1
  have q2:decide (x<0)=false:=by simp;omega
  have ah:decide (x>=(blocks:Int))=false:=by simp;omega
  have ai:decide ((blocks:Int)<=x)=false:=by simp;omega
  have aj:(x== -1)=false:=by rw[qYp];exact h1
  by_cases h2:M[k].2 (-1)=true
  .have n:putA M[k].2 x=M[k].2:=by unfold putA;rw[if_pos ⟨h1,h2⟩]
   rw[n]at a⊢;have O:Calls prog 283 #[.map (some M[k].1)] w fun e w'=>e=.returned (.bool true)/\Below w.heap.size w w':=(zeI a.o.2.1).mono (fun e w' h=>⟨by rw[h.1,h2],h.2⟩);clear n hx h1 h2;go_enter func212,ntmps212
   go_wp2_with (first
    |(go_at_call 282;refine(qQ a.o.2.2.2.1 k j).mono ?_;rintro e w' ⟨rfl,rfl⟩)
    |(go_at_call 283;refine O.mono ?_;rintro e w1 ⟨rfl,s⟩)
    |fail)
   go_ret
   exact⟨rfl,a.o.1.new (uuo s),uuo s⟩
  .have n:putA M[k].2 x=updB M[k].2 x true:=by unfold putA;rw[if_neg (fun h=>h2 h.2),if_neg h1]
   rw[n]at a⊢;have Y:M[k].2 (-1)=false:=by simpa using h2
   have O:Calls prog 283 #[.map (some M[k].1)] w fun e w'=>e=.returned (.bool false)/\Below w.heap.size w w':=(zeI a.o.2.1).mono (fun e w' h=>⟨by rw[h.1,Y],h.2⟩);clear n hx h1 h2 Y;go_enter func212,ntmps212
   go_wp2_with (first
    |(go_at_call 282;refine(qQ a.o.2.2.2.1 k j).mono ?_;rintro e w' ⟨rfl,rfl⟩)
    |fail)
   refine O.mono ?_;rintro e w1 ⟨rfl,s⟩;have D:=qqb s;have h1:=a.o.2.2.2.1.new D;obtain⟨H,a7,q,p,J⟩:=(a.o.2.1.keep D id).store (x:=x) (by unfold InR;omega) oj;have L:Hid (PutL w b blocks (.slice (some ⟨g,U,none⟩) M.length V) M k j (updB M[k].2 x true) (.returned (.int .i64 0)) H):=
    ⟨rfl,h1.turn j p ((q.tight blocks a.o.2.2.2.2).mono oM) a.o.2.2.2.2,(D.mono fE).trans p⟩
   clear q p J h1 D s;go_wp2
   go_ret
   exact L.o
def Zh(G:List (Int->Bool))(k:Nat)(x:Int):List (Int->Bool):=G.modify k (fun A=>putA A x)
def scrubG(G:List (Int->Bool))(k:Nat):List (Int->Bool):=G.modify k (fun _ _=>false)
theorem ZE(a:k<M.length)(f:(Int->Bool)->Int->Bool):(M.set k (M[k].1,f M[k].2)).map (·.2)=(M.map (·.2)).modify k f:=by
 apply qyd oe;intro i h1 h2;simp only[qyu,qyx,List.getElem_modify];split
 .rename_i e;subst e;rfl
 .rfl
theorem zgr{G:List (Int->Bool)}(h:Lg S w b blocks G)(k:Nat)(n:k<G.length)(x:Int)(hx:x= -1\/(0<=x/\x<(blocks:Int))):
  Calls prog 212 #[.pointer (some ⟨b,0,none⟩),.int .i64 (k:Int),.int .i64 x] w fun e w'=>e=.returned (.int .i64 0)/\Lg S w' b blocks (Zh G k x)/\Upd S w w':=by
 obtain⟨v,M,h,rfl,j⟩:=h;have hk':k<M.length:=by simpa using n
 refine(AG h k hk' x hx).mono ?_;rintro e w' ⟨rfl,h2,p⟩;refine⟨rfl,⟨v,_,h2,ZE hk' (fun A=>putA A x),fun a hj=>j a ?_⟩,p.mono (fun a _ hj=>j a (.inr (.inr je)))⟩;rcases hj with hj|hj|hj
 .exact .inl hj
 .exact .inr (.inl hj)
 .rw [rS hk']at hj;exact .inr (.inr hj)
theorem zce{G:List (Int->Bool)}(h:Lg S w b blocks G)(k:Nat)(p:k<G.length):
  Calls prog 215 #[.pointer (some ⟨b,0,none⟩),.int .i64 (k:Int)] w fun e w'=>e=.returned (.int .i64 0)/\Lg S w' b blocks (scrubG G k)/\Upd S w w':=by
 obtain⟨v,M,h,rfl,a⟩:=h;have hk':k<M.length:=by simpa using p
 clear p;have q:=h.sets M[k] (qyv hk');obtain⟨w2,J,s,j,D⟩:=q.clear;have h2:=h.turn hk' j s (fun L E=>by simp at E);have F:Hid (Lg S w2 b blocks (scrubG (M.map (·.2)) k)/\Upd S w w2):=by
  refine⟨⟨v,_,h2,ZE hk' (fun _ _=>false),fun n hj=>a n ?_⟩,j.mono (fun n _ hj=>a n (.inr (.inr je)))⟩;rcases hj with hj|hj|hj
  .exact .inl hj
  .exact .inr (.inl hj)
  .rw [rS hk']at hj;exact .inr (.inr hj)
 have O:=h.len;obtain⟨-,Q⟩:=h.c;obtain⟨g,T,U,rfl,gk⟩:=h.at hk';have V:(0:Int)<=(k:Int):=oM;have W:(k:Int)<(M.length:Int):=oM;have H:=qqh h;clear h q s j D h2 a;go_enter func215,ntmps215
 go_wp2_with (first
  |(go_at_call 282;refine(qQ H.o k hk').mono ?_;rintro e w' ⟨rfl,rfl⟩)
  |fail)
 go_ret
 exact⟨rfl,F.o⟩
theorem vR:(prog.info? 3).map (fun i=>(i.zero,i.size,i.bytes))=some (some (.int .i64 0),1,8):=kR
theorem uY(l:List Int):∀u∈ints l,u.oneCell'=true:=by intro u a;simp only[ints,qzr]at a;obtain⟨h,_,rfl⟩:=a;rfl
theorem yE(h:Rd w 1 v l.length (ints l))(a6:l.length<=4096):
  Calls prog 302 #[v] w fun e w'=>∃a,e=.returned a/\Sl w' 3 1 a l.length (ints l)/\From w.heap.size a/\Below w.heap.size w w':=by
 obtain⟨s,D,E,F,H⟩:=qYt vR;have p:=qqh h;obtain⟨q,J,L,c,rfl,j,_⟩:=h;have a7:=fun(w:World) (n:Option Addr) (O c:Nat)=>Lib.run_eql_slice_nil (P:=prog) w 87 3 n O c 0 0 underlying87;cases L with
 |none=>
  have Q:=j rfl;have T:Hid (Sl w 3 1 (.slice none 0 0) l.length (ints l)):=by
   have:l=[]:=List.length_eq_zero_iff.1 Q;subst this;exact Sl.nil _ _ _
  clear j q p J;go_enter func302,ntmps302
  go_wp2
  go_ret
  exact⟨_,rfl,T.out,From.nil _ _ _,qxl _ _⟩
 |some n=>
  clear j q;have U:Sl (w.alloc (.cells #[] 3)) 3 1 (.slice (some ⟨w.heap.size,0,none⟩) 0 0) 0 []:=
   ⟨oe,.inr ⟨w.heap.size,0,0,#[],rfl,zc _ _ rfl,oe,by simp[maxLen],oe,oe⟩⟩
  have V:Hid (Rd (w.alloc (.cells #[] 3)) 1 (.slice (some n) l.length c) l.length (ints l)):=p.o.keep ((uur (fun _=>False) _).alloc _) (fun _ _ h=>h);have W:=uY l;go_enter func302,ntmps302
  go_wp2_with (at_builtin;refine zJ rfl _ _ 87 rfl s (.int .i64 0) 8 underlying87 D E F H rfl de rfl U _ l.length (ints l) rfl V.o W oj oM ?_)
  intro a w2 X Y Z;go_wp2
  go_ret
  refine⟨_,rfl,by simpa using X,?_,?_⟩
  .exact Z.ge oe oL
  .refine zj ((qxl _ _).alloc (qXp _) _) Y (qXp _) oI
theorem Zi(l:List Int)(i j:Nat):(l.eraseIdx i)[j]?=if j<i then l[j]? else l[j+1]?:=by
 rw[List.getElem?_eraseIdx]
theorem Ym(h:Sl w 3 1 v l.length (ints l))(ay:l.length<=4096){i:Nat}(ab:i<l.length):
  Calls prog 288 #[v,.int .i64 i,.int .i64 ((i:Int)+1)] w fun e w'=>∃J,e=.returned J/\J.ownBlock=v.ownBlock/\Sl w' 3 1 J (l.eraseIdx i).length (ints (l.eraseIdx i))/\Upd (ownS v) w w':=by
 obtain⟨ad,ae,az,af,aA⟩:=qYt vR;obtain⟨aB,⟨rfl,Q⟩|⟨g,a,n,T,rfl,U,aC,ag,ah,L⟩⟩:=h
 .omega
 have V:(l.eraseIdx i).length=l.length-1:=List.length_eraseIdx_of_lt ab;obtain⟨p,D⟩:=qqe (ints (l.drop (i+1)));have W:p.length=l.length-(i+1):=by rw[D];simp
 have E:w.drew.heap[g]?=some (.cells T 3 (0,0)):=U;obtain⟨A,aD,ai⟩:∃A:Addr,(if n=i+1 then some (⟨g,a,none⟩:Addr)else some ⟨g,a+(i+1),none⟩)=some A/\Hid (∀t u,p[t]?=some u->w.drew.cell? (A.add t)=some u):=by
  by_cases h:n=i+1
  .refine ⟨⟨g,a,none⟩,by simp[h],fun t u j=>?_⟩;have Q:p.length=0:=oM;rw[List.length_eq_zero_iff.1 Q]at j;simp at j
  .refine ⟨⟨g,a+(i+1),none⟩,by simp[h],fun t u j=>?_⟩;rw[qxa,za E];rw[D]at j;have:(ints l)[i+1+t]?=some u:=by
    rw[<-j];simp[ints,List.getElem?_drop]
   rw[show a+(i+1)+t=a+(i+1+t) by omega];exact L _ _ this
 have aj:Hid (p.length=(l.length-(i+1))*1):=by rw[Nat.mul_one];exact W
 have ak:Hid (∀u∈p,u.oneCell'=true):=by rw[D];exact uY _
 have am:Hid (∀t,t<p.length->(w.drew.cell? ⟨g,a+i*1+t,none⟩).isSome=true/\w.drew.frozen? ⟨g,a+i*1+t,none⟩=false):=by
  intro t an;rw[za E,zf E];refine⟨?_,rfl⟩;rw[qxe oM];rfl
 obtain⟨ao,F,aE,X⟩:=zy p (a+i*1) w.drew g T 3 (0,0) E;obtain⟨q,H⟩:=qqe (w.drew.setCells g (a+i*1) p);rw[<-H]at F;have Y:∀t,t<l.length-(i+(l.length-(i+1)))->(q.cell? ⟨g,a+(i+(l.length-(i+1)))+t,none⟩).isSome=true:=by
  intro t an;rw[za F,qxe oM];rfl
 have aF:∀O,(Builtin.clear_ #[87] O #[.slice (some ⟨g,a+(i+(l.length-(i+1))),none⟩) (l.length-(i+(l.length-(i+1)))) (n-(i+(l.length-(i+1))))]).run prog q=.ok (.tuple #[]) (q.setCells g (a+(i+(l.length-(i+1)))) (List.replicate (l.length-(i+(l.length-(i+1)))) (.int .i64 0))):=
  fun O=>Lib.run_clear_slice q _ 3 O (.int .i64 0) underlying87 (fun w=>Tryz.zeroValue3 w) rfl rfl g (a+(i+(l.length-(i+1)))) _ _ oM Y (fun t _=>zf F _)
 obtain⟨ap,Z,aG,a6⟩:=zy (List.replicate (l.length-(i+(l.length-(i+1)))) (Value.int .i64 0)) (a+(i+(l.length-(i+1)))) q g ao 3 (0,0) F;have a7:Upd (ownS (.slice (some ⟨g,a,none⟩) l.length n)) w (q.setCells g (a+(i+(l.length-(i+1)))) (List.replicate (l.length-(i+(l.length-(i+1)))) (.int .i64 0))):=by
  refine Upd.trans (b:=q) ?_ (ym _ _ _ _ _ rfl);rw[H];exact((uur _ w).drew).trans (ym _ _ _ _ _ rfl)
 have a8:Sl (q.setCells g (a+(i+(l.length-(i+1)))) (List.replicate (l.length-(i+(l.length-(i+1)))) (.int .i64 0))) 3 1 (.slice (some ⟨g,a,none⟩) (i+(l.length-(i+1))) n) (l.eraseIdx i).length (ints (l.eraseIdx i)):=by
  refine⟨oe,.inr ⟨g,a,n,ap,by rw[V,show i+(l.length-(i+1))=l.length-1 by omega],Z,oM,ag,oM,fun s u j=>?_⟩⟩;have aq:=(qym.1 j).1;rw[xr,V]at aq;rw[a6,if_neg oM,X];simp only[ints,qyn,Zi]at j;by_cases aa:s<i
  .rw [if_neg oM];rw[if_pos aa]at j;exact L s u (by simpa[ints]using j)
  .rw [if_neg aa]at j;rw[if_pos ⟨oM,oM,oM⟩,D,show a+s-(a+i*1)=s-i by omega];simp only[ints,qyn,qyj];rw[show i+1+(s-i)=s+1 by omega];exact j
 have ar:=qqh a7;have au:=qqh a8;have av:Hid (q=w.drew.setCells g (a+i*1) p):=H;have aH:i<=n:=oM;have aI:i+1<=n:=oM;have aw:(0:Int)<=(i:Int)+1:=oM;have ax:(i:Int)+1<=(l.length:Int):=oM;have aJ:0<=(i:Int)+1/\(i:Int)+1<=(l.length:Int):=⟨aw,ax⟩
 have aK:((i:Int)==(i:Int)+1)=false:=by simp;omega
 clear Y a7 a8 a6 X Z F H L U E D W ah;go_enter func288,ntmps288
 go_wp2_with fail
 go_region_law (refine step_append_room rfl (.tmp 22) (.tmp 25) 87 rfl 3 ad 1 underlying87 ae af g a i n (by simp[Act.eval,Act.put]) A (l.length-(i+1)) (n-(i+1)) p (by simp[Act.eval,Act.put]) aj.out ai.out ak.out oM am.out ?_;rw[<-av.out])
 go_wp2
 go_ret
 exact⟨_,rfl,rfl,au.o,ar.o⟩
theorem Sn(n:Nat)(U:n<=4096)(w:World):
  Calls prog 471 #[.slice none 0 0,.int .i64 n] w fun e w'=>∃p,e=.returned p/\Sl w' 3 1 p 0 []/\From w.heap.size p/\Below w.heap.size w w':=by
 obtain⟨E,F,H,V,hz2⟩:=qYt vR;by_cases J:n=0
 .subst J;go_enter func471,ntmps471
  go_wp2
  go_ret
  exact⟨_,rfl,Sl.nil _ _ _,From.nil _ _ _,qxl _ _⟩
 .have L:(n:Int)<=9223372036854775807:=oM;have q:=Lib.run_append_nil_zeros (P:=prog) w 87 3 87 3 E (.int .i64 0) .i64 .i64 underlying87 underlying3 F H n oM oM L jK;have hge:=grownCap_ge w n 0 3;have a:=grownCap_le_maxLen w n 0 3 oj;generalize grownCap w n 0 3=j at q hge a;obtain⟨C,s⟩:=qqe (Builtin.zeroCells (Value.int .i64 0).cells n++Builtin.zeroCells (Value.int .i64 0).cells (j-n));have D:C.size=j:=by
   rw[s];simp[Builtin.zeroCells,Value.cells];omega
  rw[<-s]at q;have W:(0:Int)<(n:Int):=oM;have X:(j:Int)<=9223372036854775807:=by unfold maxLen at a;omega
  have O:=qqh D;have Q:=qqh a;clear s D a;go_enter func471,ntmps471
  go_wp2_with (at_builtin;refine Lib.wpList_append_run _ rfl _ _ _ _ rfl _ _ rfl rfl _ _ q ?_)
  go_wp2
  go_ret
  refine⟨_,rfl,⟨rfl,.inr ⟨w.heap.size,0,j,C,rfl,zc _ _ rfl,oM,Q.o,by rw[O.o];omega,oe⟩⟩,?_,?_⟩
  .intro g T;simp[Value.ownBlock]at T;omega
  .exact (qxl _ w).trans (Upd.below (((uur _ w).drew).alloc _))
theorem Vv{gs:Nat}{X Y:Value}{fz:Nat×Nat}{a lb:List Int}(H:w.heap[gs]?=some (.cells #[X,Y] 87 fz))
  (L:Rd w 1 X a.length (ints a)) (q:Rd w 1 Y lb.length (ints lb)) (aj:a.length+lb.length<=4096):
  Calls prog 448 #[.slice (some ⟨gs,0,none⟩) 2 2] w fun e w'=>∃O,e=.returned O/\Sl w' 3 1 O (a.length+lb.length) (ints a++ints lb)/\From w.heap.size O/\Below w.heap.size w w':=by
 obtain⟨Z,a6,a7,a8,aa⟩:=qYt vR;have ak:=qqh L;have am:=qqh q;have an:=qqh H;obtain⟨ar,ca,rfl⟩:=L.j6;obtain⟨au,av,rfl⟩:=q.j6;have D:=za H 0;have E:=za H 1;simp at D E;have G:=Y2 D E;clear L q H D E;go_enter func448,ntmps448
 go_wp2
 go_loopg[3,11] 2 (fun g ao i wr=>∃j:Nat,j+g=2/\i=.int .i64 j/\ao=.int .i64 ((if j=0 then 0 else if j=1 then a.length else a.length+lb.length:Nat):Int)/\wr=w)
 case atStart=>exact⟨0,rfl,rfl,rfl,rfl⟩
 case round=>
  obtain⟨j,ab,rfl,rfl,rfl⟩:=hrel;obtain⟨D,E⟩:=G.out;rcases(by omega:j=0\/j=1\/j=2)with rfl|rfl|rfl
  .simp only[if_true];have ap:decide (((0:Nat):Int)+(a.length:Int)<0)=false:=by simp only[qYr];omega
   go_wp2
   go_roundg 1
   case measure=>omega
   case rel=>exact⟨1,rfl,rfl,oe,rfl⟩
  .have F:(if(1:Nat)=0 then 0 else if(1:Nat)=1 then a.length else a.length+lb.length)=a.length:=rfl;rw[F];clear F;have ap:decide ((a.length:Int)+(lb.length:Int)<0)=false:=by simp only[qYr];omega
   go_wp2
   go_roundg 0
   case measure=>omega
   case rel=>exact⟨2,rfl,rfl,oe,rfl⟩
  .have F:(if(2:Nat)=0 then 0 else if(2:Nat)=1 then a.length else a.length+lb.length)=a.length+lb.length:=rfl;rw[F];clear F;go_wp2_with fail
   refine(Sn (a.length+lb.length) aj _).mono ?_;rintro e w1 ⟨aw,rfl,ad,ae,af⟩;have Q:=Y3 ad ae af;clear ad ae af;obtain⟨s,rfl⟩:∃s:World,s=wr:=⟨_,rfl⟩
   obtain⟨ax,aq⟩:∃x,x=gk:=⟨_,rfl⟩
   clear aq ab;go_wp2
   go_loopg[6,27] 2 (fun g v i wr=>∃j:Nat,j+g=2/\i=.int .i64 j/\∃J:List Int,J=(if j=0 then[]else if j=1 then a else a++lb)/\Sl wr 3 1 v J.length (ints J)/\From s.heap.size v/\Below s.heap.size s wr)
   case atStart=>exact⟨0,rfl,rfl,[],rfl,Q.out.1,Q.out.2.1,Q.out.2.2⟩
   case round=>
    obtain⟨j,ab,rfl,J,rfl,ag,ah,q⟩:=hrel;have n:=Y3 ag ah q;have ai:gs<s.heap.size:=zd an.o;have D:=(q.cell (p:=⟨gs,0,none⟩) ai).trans G.out.1;have E:=(q.cell (p:=⟨gs,1,none⟩) ai).trans G.out.2;clear ag ah q;rcases(by omega:j=0\/j=1\/j=2)with rfl|rfl|rfl
    .have T:Hid (Sl wr 3 1 u6 ([]:List Int).length (ints [])):=n.out.1;go_wp2_with (at_builtin;refine zJ rfl _ _ 87 rfl Z (.int .i64 0) 8 underlying87 a6 a7 a8 aa rfl de rfl T.o _ a.length (ints a) rfl (ak.o.below n.out.2.2) (uY _) (by unfold maxLen;simp;omega) og ?_)
     intro v2 w2 U V W;go_wp2
     go_roundg 1
     case measure=>omega
     case rel=>exact⟨1,rfl,rfl,a,rfl,by simpa using U,W.ge n.out.2.2.size n.out.2.1,zj n.out.2.2 V (qXp _) n.out.2.1.own⟩
    .have T:Hid (Sl wr 3 1 u6 a.length (ints a)):=n.out.1;go_wp2_with (at_builtin;refine zJ rfl _ _ 87 rfl Z (.int .i64 0) 8 underlying87 a6 a7 a8 aa rfl de rfl T.o _ lb.length (ints lb) rfl (am.o.below n.out.2.2) (uY _) oj oM ?_)
     intro v2 w2 U V W;go_wp2
     go_roundg 0
     case measure=>omega
     case rel=>exact⟨2,rfl,rfl,a++lb,rfl,by simpa using U,W.ge n.out.2.2.size n.out.2.1,zj n.out.2.2 V (qXp _) n.out.2.1.own⟩
    .go_wp2
     go_ret
     exact⟨_,rfl,by simpa using n.out.1,n.out.2.1,n.out.2.2⟩
structure CkGood(most few:Nat)(K:List Int)(A:Int->Bool)(G:List Int):Prop where
 kr:∀x∈K,InR x
 gr:∀x∈G,InR x
 kd:K.Nodup
 gd:G.Nodup
 dis:∀x∈K,x∉G
 ask:∀x,A x=true->x∈K
 kl:K.length<=most
 gl:G.length<=few
 ml:most<=1024
 fl:few<=1024
 m1:1<=most
structure CkMem(w:World)(b mb N:Nat)(vk vg:Value)(most few:Nat)(K:List Int)(A:Int->Bool)(G:List Int):Prop where
 str:w.heap[b]?=some (.cells #[.int .i64 most,.int .i64 few,vk,.map (some mb),vg] 332 (0,0))
 ks:Sl w 3 1 vk K.length (ints K)
 gs:Sl w 3 1 vg G.length (ints G)
 set:SetAt w mb N A
 kb:vk.ownBlock≠some b
 gb:vg.ownBlock≠some b
 km:vk.ownBlock≠some mb
 gm:vg.ownBlock≠some mb
 bm:mb≠b
 kg:Dis vk vg
structure CkAt(w:World)(b mb N:Nat)(vk vg:Value)(most few:Nat)(K:List Int)(A:Int->Bool)(G:List Int):Prop extends CkMem w b mb N vk vg most few K A G where
 good:CkGood most few K A G
def So(b mb:Nat)(vk vg:Value):Nat->Prop:=fun j=>j=b\/j=mb\/vk.ownBlock=some j\/vg.ownBlock=some j
section
variable{w w':World}{b mb N most few:Nat}{vk vg:Value}{K G:List Int}{A:Int->Bool}
theorem CkMem.keep(a:CkMem w b mb N vk vg most few K A G)(hu:Upd S w w')(h:∀n,So b mb vk vg n->¬S n):CkMem w' b mb N vk vg most few K A G:=
 {a with
  str:=(hu.block _ (zd a.str) (h b (.inl rfl))).trans a.str
  ks:=a.ks.keep hu (fun g j=>h g (.inr (.inr (.inl j))))
  gs:=a.gs.keep hu (fun g j=>h g (.inr (.inr (.inr j))))
  set:=SetAt.keep a.set hu (h mb (.inr (.inl rfl)))}
theorem CkMem.below(a:CkMem w b mb N vk vg most few K A G)(h:Below w.heap.size w w'):CkMem w' b mb N vk vg most few K A G:=
 a.keep (uuo (S:=fun _=>False) h) (fun _ _ a=>a)
theorem CkAt.keep(a:CkAt w b mb N vk vg most few K A G)(hu:Upd S w w')(h:∀n,So b mb vk vg n->¬S n):CkAt w' b mb N vk vg most few K A G:=
 {a with
  str:=(hu.block _ (zd a.str) (h b (.inl rfl))).trans a.str
  ks:=a.ks.keep hu (fun g j=>h g (.inr (.inr (.inl j))))
  gs:=a.gs.keep hu (fun g j=>h g (.inr (.inr (.inr j))))
  set:=SetAt.keep a.set hu (h mb (.inr (.inl rfl)))}
theorem CkAt.below(a:CkAt w b mb N vk vg most few K A G)(h:Below w.heap.size w w'):CkAt w' b mb N vk vg most few K A G:=
 a.keep (uuo (S:=fun _=>False) h) (fun _ _ a=>a)
theorem CkAt.mono(a:CkAt w b mb N vk vg most few K A G)(h:N<=N'):CkAt w b mb N' vk vg most few K A G:={a with set:=a.set.mono h}
theorem CkAt.blt(h:CkAt w b mb N vk vg most few K A G):b<w.heap.size:=zd h.str
theorem CkAt.slt(a:CkAt w b mb N vk vg most few K A G):∀h,So b mb vk vg h->h<w.heap.size:=by
 rintro h (rfl|rfl|j|j)
 .exact a.blt
 .exact a.set.lt
 .exact a.ks.lt j
 .exact a.gs.lt j
theorem CkAt.kle(h:CkAt w b mb N vk vg most few K A G):K.length<=1024:=qXr h.good.kl h.good.ml
theorem CkAt.gle(h:CkAt w b mb N vk vg most few K A G):G.length<=1024:=qXr h.good.gl h.good.fl
end
theorem CkGood.start{m f:Nat}(h1:1<=m)(h2:m<=1024)(a:f<=1024):CkGood m f [] (fun _=>false) []:=
 {kr:=oe,gr:=oe,kd:=oe,gd:=oe,dis:=oe,ask:=oe,kl:=oe,gl:=oe,ml:=h2,fl:=a,m1:=h1}
theorem Yn{k:Int}(n:k∈l):∃i:Nat,∃j:i<l.length,idxI l k=i/\l[i]=k/\∀a (D:a<l.length),a<i->l[a]≠k:=by
 unfold idxI;cases h:l.findIdx? (·==k)with
 |none=>
  rw[List.findIdx?_eq_none_iff]at h;have:=h k n;simp at this
 |some i=>
  rw[List.findIdx?_eq_some_iff_getElem]at h;obtain⟨j,p,q⟩:=h;exact⟨i,j,rfl,by simpa using p,fun a _ s=>by simpa using q a s⟩
theorem uZ{k:Int}(a:k∉l):idxI l k= -1:=Zu (fun _ h e=>a (e▸qyv h))
theorem AH(m f:Nat)(w:World)(h1:1<=m)(h2:m<=1024)(j:f<=1024):
  Calls prog 143 #[.int .i64 m,.int .i64 f] w fun e w'=>∃b mb,e=.returned (.tuple #[.pointer (some ⟨b,0,none⟩),.int .i64 0])/\
   CkAt w' b mb 0 (.slice none 0 0) (.slice none 0 0) m f [] (fun _=>false) []/\w.heap.size<=b/\w.heap.size<=mb/\Below w.heap.size w w':=by
 have q:= @run_makeMap prog;have q1:¬((m:Int)<1):=oM;have q2:¬((1024:Int)<m):=oM;have s:¬((f:Int)<0):=oM;have D:¬((1024:Int)<f):=oM;have a:=Y3 h1 h2 j;clear h1 h2 j;go_enter func143,ntmps143
 go_wp2
 go_ret2
 have n:=Upd.alloc (uur (fun _=>False) w) (.map #[] 0);have p:(w.alloc (.map #[] 0)).heap.size=w.heap.size+1:=oe;refine⟨w.heap.size+1,rfl,w.heap.size,⟨⟨zc _ _ p.symm,Sl.nil _ _ _,Sl.nil _ _ _,(SetAt.made w).keep (Upd.alloc (uur (fun _=>False) _) _) id,by simp[Value.ownBlock],by simp[Value.ownBlock],by simp[Value.ownBlock],by simp[Value.ownBlock],oM,Dis.nil _ _ _⟩,CkGood.start a.o.1 a.o.2.1 a.o.2.2⟩,oM,qXp _,(n.alloc _).below⟩
def touchC(K:List Int)(k:Int):Int:=if k∈K then 0 else 14
theorem CkGood.touch(a:CkGood most few K A G){k:Int}(h:k∈K):CkGood most few K (updB A k true) G:=by
 have j:∀x,updB A k true x=true->x∈K:=by
  intro x hx;by_cases e:x=k
  .exact e▸h
  .simp only[updB,if_neg e]at hx;exact a.ask x hx
 exact{a with ask:=j}
theorem Vw{vk vg:Value}(h:CkAt w b mb N vk vg most few K A G)(k:Int)(T:N<maxLen):
  Calls prog 387 #[.pointer (some ⟨b,0,none⟩),.int .i64 k] w fun e w'=>e=.returned (.int .i64 (touchC K k))/\
   CkAt w' b mb (N+1) vk vg most few K (if k∈K then updB A k true else A) G/\Upd (fun U=>U=mb) w w':=by
 have D:=qqh h;have F:=qqh h.ks.rd;have Z:=h.kle;have V:=za h.str 2;have H:=za h.str 3;simp at V H;have W:=h.blt;by_cases j:k∈K
 .obtain ⟨i,a6,E,_⟩:=Yn j;obtain⟨X,c,rfl⟩:=h.ks.rd.j6;have q:touchC K k=0:=if_pos j;rw[q,if_pos j];have J:=qqh j;clear h q j;have a7:decide ((i:Int)<0)=false:=by simp only[qYr];omega
  go_enter func387,ntmps387
  go_wp2_with fail
  refine(xt F.o oM k).mono ?_;rintro e w1 ⟨rfl,n⟩;rw[E];have a:=qqh (D.o.below n);have a8:=(n.cell (p:=⟨b,3,none⟩) W).trans H;obtain⟨w2,aa,L,O,Q⟩:=SetAt.store a.o.set (x:=k) (D.o.good.kr k J.o) T;have s:=Y3 L O Q;have Y:=qqh n;clear L O Q n;go_wp2
  go_ret
  refine⟨rfl,?_,(uuo Y.out).trans (s.out.2.1)⟩;exact{a.o with
   str:=(s.out.2.1.block b a.o.blt a.o.bm.symm).trans a.o.str
   ks:=a.o.ks.keep s.out.2.1 (fun g hg e=>a.o.km kj)
   gs:=a.o.gs.keep s.out.2.1 (fun g hg e=>a.o.gm kj)
   set:=s.out.1
   good:=a.o.good.touch J.o}
 .have E:=uZ j;obtain⟨X,c,rfl⟩:=h.ks.rd.j6;have q:touchC K k=14:=if_neg j;rw[q,if_neg j];clear h q j;go_enter func387,ntmps387
  go_wp2_with fail
  refine(xt F.o oM k).mono ?_;rintro e w1 ⟨rfl,n⟩;rw[E];go_wp2
  go_ret
  exact⟨rfl,(D.o.below n).mono oM,uuo n⟩
section
variable{w w' w2:World}{b mb N most few:Nat}{vk vg v2:Value}{K G K' G':List Int}{A A':Int->Bool}
theorem CkMem.c(h:CkMem w b mb N vk vg most few K A G):w.cell? ⟨b,0,none⟩=some (.int .i64 most)/\w.cell? ⟨b,1,none⟩=some (.int .i64 few)/\w.cell? ⟨b,2,none⟩=some vk/\
  w.cell? ⟨b,3,none⟩=some (.map (some mb))/\w.cell? ⟨b,4,none⟩=some vg:=by
 refine⟨?_,?_,?_,?_,?_⟩<;>rw[za h.str]<;>rfl
theorem CkMem.fz(h:CkMem w b mb N vk vg most few K A G)(i:Nat):w.frozen? ⟨b,i,none⟩=false:=zf h.str i
theorem ta{v':Value}{x:Nat}(a:blockFrom w v v')(hv:v.ownBlock≠some x)(hx:x<w.heap.size):v'.ownBlock≠some x:=by
 intro e;rcases a with a|⟨g,a,h⟩
 .exact hv (by rw[<-a,e])
 .rw [a]at e;cases e;omega
theorem CkMem.setKeys(a:CkMem w b mb N vk vg most few K A G)(hu:Upd (ownS vk) w w2)(h2:Sl w2 3 1 v2 K'.length (ints K'))(h:blockFrom w vk v2):
  CkMem (w2.setCell ⟨b,2,none⟩ v2) b mb N v2 vg most few K' A G:=by
 have j:v2.ownBlock≠some b:=ta h a.kb (zd a.str);have n:v2.ownBlock≠some mb:=ta h a.km a.set.lt;have p:w2.heap[b]?=_:=(hu.block b (zd a.str) (fun e=>a.kb e)).trans a.str;exact{
  str:=zh p 2 v2
  ks:=h2.kM (zi _ _ _ _) j
  gs:=(a.gs.kO a.kg.symm hu).kM (zi _ _ _ _) a.gb
  set:=(a.set.keep hu (fun e=>a.km e)).keep (zi _ _ _ _) a.bm
  kb:=j
  gb:=a.gb
  km:=n
  gm:=a.gm
  bm:=a.bm
  kg:=a.kg.from h (fun g q=>a.gs.lt q)}
theorem CkMem.updKeys(_:CkMem w b mb N vk vg most few K A G)(hu:Upd (ownS vk) w w2):Upd (So b mb vk vg) w (w2.setCell ⟨b,2,none⟩ v2):=
 (hu.mono (fun _k _ a=> .inr (.inr (.inl a)))).trans (Upd.mono (zi _ _ _ _) (fun _k _ a=> .inl a))
theorem CkMem.setGhosts(a:CkMem w b mb N vk vg most few K A G)(hu:Upd (ownS vg) w w2)(h2:Sl w2 3 1 v2 G'.length (ints G'))(h:blockFrom w vg v2):
  CkMem (w2.setCell ⟨b,4,none⟩ v2) b mb N vk v2 most few K A G':=by
 have j:v2.ownBlock≠some b:=ta h a.gb (zd a.str);have n:v2.ownBlock≠some mb:=ta h a.gm a.set.lt;have p:w2.heap[b]?=_:=(hu.block b (zd a.str) (fun e=>a.gb e)).trans a.str;exact{
  str:=zh p 4 v2
  ks:=(a.ks.kO a.kg hu).kM (zi _ _ _ _) a.kb
  gs:=h2.kM (zi _ _ _ _) j
  set:=(a.set.keep hu (fun e=>a.gm e)).keep (zi _ _ _ _) a.bm
  kb:=a.kb
  gb:=j
  km:=a.km
  gm:=n
  bm:=a.bm
  kg:=(a.kg.symm.from h (fun g q=>a.ks.lt q)).symm}
theorem CkMem.updGhosts(_:CkMem w b mb N vk vg most few K A G)(hu:Upd (ownS vg) w w2):Upd (So b mb vk vg) w (w2.setCell ⟨b,4,none⟩ v2):=
 (hu.mono (fun _k _ a=> .inr (.inr (.inr a)))).trans (Upd.mono (zi _ _ _ _) (fun _k _ a=> .inl a))
theorem CkMem.setAsked(h:CkMem w b mb N vk vg most few K A G)(hu:Upd (fun j=>j=mb) w w2)(h2:SetAt w2 mb N' A'):CkMem w2 b mb N' vk vg most few K A' G:=
 {h with
  str:=(hu.block b (zd h.str) h.bm.symm).trans h.str
  ks:=h.ks.keep hu (fun g hg e=>h.km kj)
  gs:=h.gs.keep hu (fun g hg e=>h.gm kj)
  set:=h2}
end
def Ck(S:Nat->Prop)(w:World)(b N most few:Nat)(K:List Int)(A:Int->Bool)(G:List Int):Prop:=
 ∃mb vk vg,CkAt w b mb N vk vg most few K A G/\∀j,So b mb vk vg j->S j
section
variable{S:Nat->Prop}{w w' w2:World}{b N most few:Nat}{K G:List Int}{A:Int->Bool}
theorem Ck.keep(h:Ck S w b N most few K A G){T:Nat->Prop}(hu:Upd T w w')(n:∀a,S a->¬T a):Ck S w' b N most few K A G:=by
 obtain⟨mb,vk,vg,h,j⟩:=h;exact⟨mb,vk,vg,h.keep hu (fun a p=>n a (j a p)),j⟩
theorem Ck.new(h:Ck S w b N most few K A G)(hu:Upd (fun _=>False) w w'):Ck S w' b N most few K A G:=h.keep hu (fun _ _ h=>h)
theorem Ck.below(a:Ck S w b N most few K A G)(h:Below w.heap.size w w'):Ck S w' b N most few K A G:=a.new (uuo h)
theorem Ck.mono(a:Ck S w b N most few K A G)(h:N<=N'):Ck S w b N' most few K A G:=by
 obtain⟨mb,vk,vg,a,j⟩:=a;exact⟨mb,vk,vg,a.mono h,j⟩
theorem Ck.out(h:Ck S w b N most few K A G){S':Nat->Prop}(n:∀a,a<w.heap.size->S a->S' a):Ck S' w b N most few K A G:=by
 obtain⟨mb,vk,vg,h,p⟩:=h;exact⟨mb,vk,vg,h,fun a j=>n a (h.slt a j) (p a j)⟩
end
theorem qr{k:Int}{i:Nat}(hi:i<l.length)(j:l[i]=k)(n:∀a (h:a<l.length),a<i->l[a]≠k):l.eraseIdx i=l.erase k:=by
 induction l generalizing i with
 |nil=>simp at hi
 |cons x l p=>
  cases i with
  |zero=>
   have q:x=k:=j;subst q;simp
  |succ i=>
   have hx:x≠k:=n 0 oe oM;rw[List.eraseIdx_cons_succ,List.erase_cons_tail (by simpa using hx),p oz (by simpa using j) (fun a hj s=>n (a+1) oC oM)]
def addC(most:Nat)(K:List Int)(k:Int):Int:=if k∈K then 15 else if K.length=most then 17 else 0
def Zj(most:Nat)(K:List Int)(k:Int):List Int:=if k∈K\/K.length=most then K else K++[k]
def agA(A:Int->Bool)(G:List Int)(k:Int):Int->Bool:=if k∈G then updB A k true else A
def Qy(most:Nat)(K:List Int)(A:Int->Bool)(G:List Int)(k:Int):Int->Bool:=if k∈K\/K.length=most then A else agA A G k
def Qz(most:Nat)(K:List Int)(G:List Int)(k:Int):List Int:=if k∈K\/K.length=most then G else G.erase k
section
variable{most few:Nat}{K G:List Int}{A:Int->Bool}
theorem CkGood.push(h:CkGood most few K A G){k:Int}(a:k∉K)(p:K.length≠most)(j:k∉G)(n:InR k):CkGood most few (K++[k]) A G:={
 kr:=by intro x hx;rcases qzm.1 hx with h1|h1;exact h.kr x h1;simp at h1;exact h1▸n
 gr:=h.gr
 kd:=by rw[qzw];exact⟨h.kd,oe,by intro x hx y hy e;simp at hy;subst hy;exact a (e▸hx)⟩
 gd:=h.gd
 dis:=by intro x hx;rcases qzm.1 hx with h1|h1;exact h.dis x h1;simp at h1;exact h1▸j
 ask:=fun x hx=>qzm.2 (.inl (h.ask x hx))
 kl:=by have:=h.kl;simp;omega
 gl:=h.gl
 ml:=h.ml
 fl:=h.fl
 m1:=h.m1}
theorem CkGood.drop(h:CkGood most few K A G)(k:Int):CkGood most few (K.erase k) (updB A k false) G:={
 kr:=fun x hx=>h.kr x (qzs hx)
 gr:=h.gr
 kd:=h.kd.erase k
 gd:=h.gd
 dis:=fun x hx=>h.dis x (qzs hx)
 ask:=fun x hx=>by
  by_cases e:x=k
  .subst e;simp[updB]at hx
  .simp only[updB,if_neg e]at hx;exact(List.mem_erase_of_ne e).2 (h.ask x hx)
 kl:=qXr (List.length_erase_le) h.kl
 gl:=h.gl
 ml:=h.ml
 fl:=h.fl
 m1:=h.m1}
theorem CkGood.erase(a:CkGood most few K A G)(k:Int):CkGood most few K A (G.erase k):={a with
 gr:=fun x hx=>a.gr x (qzs hx)
 gd:=a.gd.erase k
 dis:=fun x hx h=>a.dis x hx (qzs h)
 gl:=qXr (List.length_erase_le) a.gl}
end
theorem AI(h:Ck S w b N most few K A G)(k:Int)(q:k∈K\/K.length=most):
  Calls prog 216 #[.pointer (some ⟨b,0,none⟩),.int .i64 k] w fun e w'=>e=.returned (.int .i64 (addC most K k))/\Below w.heap.size w w':=by
 obtain⟨mb,vk,vg,h,-⟩:=h;have D:=qqh h.ks.rd;have L:=h.kle;have E:=h.blt;obtain⟨F,-,J,-,-⟩:=h.c;obtain⟨O,c,rfl⟩:=h.ks.rd.j6;clear h;by_cases a:k∈K
 .obtain ⟨i,Q,s,_⟩:=Yn a;have j:addC most K k=15:=if_pos a;rw[j];clear j q a F;go_enter func216,ntmps216
  go_wp2_with fail
  refine(xt D.o oM k).mono ?_;rintro e w1 ⟨rfl,n⟩;rw[s];go_wp2
  go_ret
  exact⟨rfl,n⟩
 .have H:K.length=most:=q.resolve_left a;have s:=uZ a;have j:addC most K k=17:=by unfold addC;rw[if_neg a,if_pos H]
  rw[j];have T:((K.length:Int)==(most:Int))=true:=by simp;omega
  clear j q a H;go_enter func216,ntmps216
  go_wp2_with fail
  refine(xt D.o oM k).mono ?_;rintro e w1 ⟨rfl,n⟩;rw[s];have U:=(n.cell (p:=⟨b,0,none⟩) E).trans F;have V:=(n.cell (p:=⟨b,2,none⟩) E).trans J;go_wp2
  go_quiet(fail)
  go_wp2
  go_ret
  exact⟨rfl,zP n _⟩
theorem Sr(h:Ck S w b N most few K A G)(an:∀a,w.heap.size<=a->S a)(k:Int)(Y:InR k)(aM:N<maxLen)(Z:k∉K)(ao:K.length≠most):
  Calls prog 216 #[.pointer (some ⟨b,0,none⟩),.int .i64 k] w fun e w'=>e=.returned (.int .i64 0)/\
   Ck S w' b (N+1) most few (K++[k]) (agA A G k) (G.erase k)/\Upd S w w':=by
 obtain⟨aN,aO,aP,ap,aQ⟩:=qYt vR;obtain⟨mb,vk,vg,h,aq⟩:=h;have aR:=qqh an;have H:=qqh aq;have ar:=qqh h.ks.rd;have b4:=h.kle;have b5:=h.gle;have aS:=uZ Z;have au:=qqh h;have T:=Y2 Z ao;obtain⟨a6,-,J,-,-⟩:=h.c;have b6:((K.length:Int)==(most:Int))=false:=by simp;omega
 clear h Z an aq ao;go_enter func216,ntmps216
 go_wp2_with fail
 refine(xt ar.o oM k).mono ?_;rintro e w1 ⟨rfl,a7⟩;rw[aS];have L:=au.o.below a7;have aT:=qqh (uuo (S:=S) a7);clear a6 J ar;obtain⟨a6,-,J,-,-⟩:=L.c;obtain⟨b7,c,a8⟩:=L.ks.rd.j6;have b8:=qqh a8;rw[a8]at J;have L:=qqh L;clear a8 a7 au;go_wp2
 go_quiet(fail)
 generalize av:w1.drewN nq=w2;have aa:Upd (fun _=>False) w1 w2:=by rw[<-av];exact(uur _ _).drewN nq
 have j:=L.o.keep aa (fun _ _ h=>h);have aw:=qqh (aT.o.trans (aa.mono fE));clear av aa a6 J;obtain⟨-,-,J,-,-⟩:=j.c;have j:=qqh j;go_wp2_with (at_builtin;refine zK rfl _ _ 87 rfl aN (.int .i64 0) 8 underlying87 aO aP ap aQ rfl de rfl j.o.ks [.int .i64 k] rfl rfl (by intro u ax;simp at ax;subst ax;rfl) oj oM ?_)
 intro v3 ay ab U az;obtain⟨D,E,rfl⟩:=ab.rd.j6;have aU:Hid (∀(n:k∉G),CkGood most few (K++[k]) A G):=fun n=>j.o.good.push T.o.1 T.o.2 n Y;have aA:Sl ay 3 1 (.slice D (K.length+1) E) (K++[k]).length (ints (K++[k])):=by simpa using ab
 have O:=(U.block b j.o.blt (fun e=>j.o.kb e)).trans j.o.str;have c2:=za O 2;have F:=za O 4;have aV:=zf O 2;simp at c2 F;have aB:=qqh (j.o.gs.kO j.o.kg.symm U);have aC:=qqh ((aB.o.kM (zi ay b 2 (.slice D (K.length+1) E)) j.o.gb).rd);have Q:=Y4 aA U az O;clear ab aA U az O;go_wp2_with fail
 refine(xt aC.o oM k).mono ?_;rintro e ad ⟨rfl,V⟩;have b9:=qqh V;have ae:Hid (Upd S w ad):=(aw.o.trans ((CkMem.updKeys (v2:=.slice D (K.length+1) E) j.o.toCkMem Q.out.2.1).mono (fun a _ p=>H.o a p))).trans (uuo V);have aD:CkMem ad b mb N (.slice D (K.length+1) E) vg most few (K++[k]) A G:=(j.o.toCkMem.setKeys Q.out.2.1 Q.out.1 Q.out.2.2.1).below V;have ap:w.heap.size<=ad.heap.size:=ae.o.size;have s:Hid (∀a,So b mb (.slice D (K.length+1) E) vg a->S a):=by
  intro a p;rcases p with h1|h1|h1|h1
  .exact H.o a (.inl h1)
  .exact H.o a (.inr (.inl h1))
  .rcases Q.out.2.2.1 with h2|⟨g,h2,aW⟩
   .exact H.o a (.inr (.inr (.inl (by rw[<-h2];exact h1))))
   .rw [h2]at h1;cases h1;exact aR.o _ (qXr aw.o.size aW)
  .exact H.o a (.inr (.inr (.inr h1)))
 have q:=qqh aD;clear V c2 F aV aB aC aD;by_cases n:k∈G
 .obtain ⟨i,aE,aF,aG,aH⟩:=Yn n;rw[aF];have aI:Hid (G.eraseIdx i=G.erase k):=qr aE aG aH;have F:=za q.o.str 4;simp at F;have aJ:=qqh n;clear aF aG aH n;go_wp2_with fail
  refine(Ym q.o.gs oM aE).mono ?_;rintro e ba ⟨v5,rfl,af,ag,W⟩;obtain⟨ah,ai,rfl⟩:=ag.rd.j6;have aj:=q.o.setGhosts W ag (.inl af);have aK:=q.o.updGhosts (v2:=.slice ah (G.eraseIdx i).length ai) W;have X:=(W.block b (zd q.o.str) (fun e=>q.o.gb e)).trans q.o.str;have F:=za X 4;have aX:=za X 3;have bb:=zf X 4;simp at F aX;obtain⟨aY,bc,aL,ak,aZ⟩:=SetAt.store aj.set (x:=k) Y aM;have b0:=qqh (aj.setAsked ak aL);have b1:Hid (Upd S w aY):=(ae.o.trans (aK.mono (fun a _ p=>s.out a p))).trans (ak.mono (fun a _ p=>by subst p;exact s.out _ (.inr (.inl rfl))));have b2:Hid ((Value.slice ah (G.eraseIdx i).length ai).ownBlock=vg.ownBlock):=af;clear aj aK X aL ak aZ ag W af;go_wp2
  go_ret
  have b3:CkGood most few (K++[k]) (agA A G k) (G.erase k):=by
   have h1:=(j.o.good.erase k).push T.o.1 T.o.2 (fun e=>absurd e j.o.good.gd.not_mem_erase) Y;unfold agA;rw[if_pos aJ.o];exact h1.touch oe
  refine⟨rfl,⟨mb,.slice D (K.length+1) E,.slice ah (G.erase k).length ai,⟨?_,b3⟩,?_⟩,b1.o⟩
  .have:=b0.o;rw[aI.o]at this;unfold agA;rw[if_pos aJ.o];exact this
  .intro a p;rcases p with h1|h1|h1|h1
   .exact s.out a (.inl h1)
   .exact s.out a (.inr (.inl h1))
   .exact s.out a (.inr (.inr (.inl h1)))
   .exact s.out a (.inr (.inr (.inr (by rw[<-b2.o,aI.o];exact h1))))
 .rw [uZ n];have am:Hid (agA A G k=A/\G.erase k=G/\CkGood most few (K++[k]) A G):=⟨if_neg n,List.erase_of_not_mem n,aU.out n⟩
  clear n;go_wp2
  go_ret
  rw[am.o.1,am.o.2.1];exact⟨rfl,⟨mb,_,vg,CkAt.mono ⟨q.o,am.o.2.2⟩ oM,s.out⟩,ae.o⟩
theorem Su(h:Ck S w b N most few K A G)(p:∀j,w.heap.size<=j->S j)(k:Int)(q:InR k)(s:N<maxLen):
  Calls prog 216 #[.pointer (some ⟨b,0,none⟩),.int .i64 k] w fun e w'=>e=.returned (.int .i64 (addC most K k))/\
   Ck S w' b (N+1) most few (Zj most K k) (Qy most K A G k) (Qz most K G k)/\Upd S w w':=by
 by_cases a:k∈K\/K.length=most
 .refine (AI h k a).mono ?_;rintro e w' ⟨rfl,n⟩;unfold Zj Qy Qz;rw[if_pos a,if_pos a,if_pos a];exact⟨rfl,(h.below n).mono oM,uuo n⟩
 .have h1:k∉K:=fun e=>a (.inl e);have h2:K.length≠most:=fun e=>a (.inr e);refine(Sr h p k q s h1 h2).mono ?_;rintro e w' ⟨rfl,D,E⟩;unfold addC Zj Qy Qz;rw[if_neg a,if_neg a,if_neg a,if_neg h1,if_neg h2];exact⟨rfl,D,E⟩
def dropA(K:List Int)(A:Int->Bool)(k:Int):Int->Bool:=if k∈K then updB A k false else A
theorem QA(h:Ck S w b N most few K A G)(k:Int):
  Calls prog 313 #[.pointer (some ⟨b,0,none⟩),.int .i64 k] w fun e w'=>e=.returned (.int .i64 (touchC K k))/\
   Ck S w' b N most few (K.erase k) (dropA K A k) G/\Upd S w w':=by
 obtain⟨mb,vk,vg,h,X⟩:=h;have Y:=qqh h;have n:=qqh X;have Z:=qqh h.ks.rd;have ar:=h.kle;obtain⟨-,-,a6,a7,-⟩:=h.c;have ah:=h.blt;clear h X;by_cases a:k∈K
 .obtain ⟨i,a8,L,aa,ab⟩:=Yn a;have D:touchC K k=0:=if_pos a;have E:dropA K A k=updB A k false:=if_pos a;rw[D,E];have ai:=qqh a;have ad:Hid (K.eraseIdx i=K.erase k):=qr a8 aa ab;clear D E a aa ab;have au:decide ((i:Int)<0)=false:=by simp only[qYr];omega
  go_enter func313,ntmps313
  go_wp2_with fail
  refine(xt Z.o oM k).mono ?_;rintro e w1 ⟨rfl,q⟩;rw[L];have j:=qqh (Y.o.below q);have av:=(q.cell (p:=⟨b,2,none⟩) ah).trans a6;have aj:=qqh q;clear q a6 a7;go_wp2_with fail
  refine(Ym j.o.ks oM a8).mono ?_;rintro e w2 ⟨v2,rfl,O,Q,H⟩;obtain⟨T,U,rfl⟩:=Q.rd.j6;have V:=j.o.toCkMem.setKeys H Q (.inl O);have ae:=j.o.toCkMem.updKeys (v2:=.slice T (K.eraseIdx i).length U) H;have J:=(H.block b j.o.blt (fun e=>j.o.kb e)).trans j.o.str;have c2:=za J 2;have ak:=za J 3;have aw:=zf J 2;simp at c2 ak;obtain⟨am,ax,af,W,an⟩:=SetAt.drop V.set (x:=k) (j.o.good.kr k ai.o) 0;have ao:=qqh (V.setAsked W af);have ap:Hid (Upd S w am):=((uuo aj.out).trans (ae.mono (fun s _ F=>n.o s F))).trans (W.mono (fun s _ F=>by subst F;exact n.o _ (.inr (.inl rfl))));have aq:Hid ((Value.slice T (K.eraseIdx i).length U).ownBlock=vk.ownBlock):=O;clear V ae J af W an Q H O;go_wp2
  go_ret
  refine⟨rfl,⟨mb,.slice T (K.erase k).length U,vg,⟨?_,j.o.good.drop k⟩,?_⟩,ap.o⟩
  .have:=ao.o;rw[ad.o]at this;exact this
  .intro s F;rcases F with h1|h1|h1|h1
   .exact n.o s (.inl h1)
   .exact n.o s (.inr (.inl h1))
   .exact n.o s (.inr (.inr (.inl (by rw[<-aq.o,ad.o];exact h1))))
   .exact n.o s (.inr (.inr (.inr h1)))
 .have L:=uZ a;have D:touchC K k=14:=if_neg a;have E:dropA K A k=A:=if_neg a;have ag:K.erase k=K:=List.erase_of_not_mem a;rw[D,E,ag];clear D E ag a a7;go_enter func313,ntmps313
  go_wp2_with fail
  refine(xt Z.o oM k).mono ?_;rintro e w1 ⟨rfl,q⟩;rw[L];go_wp2
  go_ret
  exact⟨rfl,⟨mb,vk,vg,Y.o.below q,n.o⟩,uuo q⟩
theorem QB(a:Ck S w b N most few K A G)(k:Int)(j:N<maxLen):
  Calls prog 387 #[.pointer (some ⟨b,0,none⟩),.int .i64 k] w fun e w'=>e=.returned (.int .i64 (touchC K k))/\
   Ck S w' b (N+1) most few K (agA A K k) G/\Upd S w w':=by
 obtain⟨mb,vk,vg,a,h⟩:=a;refine(Vw a k j).mono ?_;rintro e w' ⟨rfl,n,p⟩;exact⟨rfl,⟨mb,vk,vg,n,h⟩,p.mono (fun s _ q=>by subst q;exact h _ (.inr (.inl rfl)))⟩
theorem AJ(m f:Nat)(w:World)(h1:1<=m)(h2:m<=1024)(p:f<=1024)(j:∀a,w.heap.size<=a->S a):
  Calls prog 143 #[.int .i64 m,.int .i64 f] w fun e w'=>∃b,e=.returned (.tuple #[.pointer (some ⟨b,0,none⟩),.int .i64 0])/\
   Ck S w' b 0 m f [] (fun _=>false) []/\w.heap.size<=b/\Below w.heap.size w w':=by
 refine(AH m f w h1 h2 p).mono ?_;rintro e w' ⟨b,mb,rfl,q,n,s,D⟩;refine⟨b,rfl,⟨mb,_,_,q,?_⟩,n,D⟩;rintro a (rfl|rfl|h|h)
 .exact j _ n
 .exact j _ s
 .cases h
 .cases h
abbrev zO(s:Int)(d:Bool):Value:=.agg #[.int .i64 s,.bool d]
theorem yX(w:World):Calls prog 211 #[] w fun e w'=>e=.returned (zO (-1) false)/\Upd (fun _=>False) w w'/\w'.heap.size=w.heap.size+1:=by
 go_enter func211,ntmps211
 go_wp2
 have a:=zc w (.cells #[.int .i64 (-1),.bool false] 256) rfl;have j:=za a 0;have c1:=za a 1;simp at j c1;refine qYq (v:=zO (-1) false) ?_ rfl ⟨rfl,(uur _ _).alloc _,oe⟩;simp[results,results211,go_sem]
def plC(l:List (Int×Bool)):List Value:=l.flatMap fun p=>[.int .i64 p.1,.bool p.2]
theorem AK(l:List (Int×Bool)):(plC l).length=l.length*2:=yI (f:=fun p:Int×Bool=>[Value.int .i64 p.1,Value.bool p.2]) (k:=2) (fun _=>rfl) l
theorem xx{l:List (Int×Bool)}(h:k<l.length):(plC l)[k*2]?=some (.int .i64 l[k].1)/\(plC l)[k*2+1]?=some (.bool l[k].2):=
 ⟨Yi (f:=fun p:Int×Bool=>[Value.int .i64 p.1,Value.bool p.2]) (k:=2) (fun _=>rfl) l k 0 de l[k] (qyk h),
  Yi (f:=fun p:Int×Bool=>[Value.int .i64 p.1,Value.bool p.2]) (k:=2) (fun _=>rfl) l k 1 de l[k] (qyk h)⟩
theorem Sv(n:Nat):noPl n=plC (List.replicate n (-1,false)):=by
 induction n with
 |zero=>rfl
 |succ n a=>rw[Nat.add_comm n 1,rE,a,<-List.replicate_append_replicate];simp[plC,noPl]
structure IndexAt(w:World)(b:Nat)(v:Value)(mb N:Nat)(ps:List (Int×Bool))(slots:Nat):Prop where
 str:w.heap[b]?=some (.cells #[v,.map (some mb),.int .i64 slots] 324 (0,0))
 sl:Sl w 256 2 v ps.length (plC ps)
 map:MapAt w mb N (atOf ps)
 good:Good ps slots
 ne:v.ownBlock≠some b
 nm:mb≠b
 nv:v.ownBlock≠some mb
 le:ps.length<=4096
 sl1:slots<=1024
def ixS(v:Value)(mb:Nat):Nat->Prop:=fun j=>v.ownBlock=some j\/j=mb
theorem IndexAt.keep(a:IndexAt w b v mb N ps slots)(hu:Upd S w w')(n:¬S b)(h:∀j,ixS v mb j->¬S j):IndexAt w' b v mb N ps slots:=
 {str:=(hu.block _ (zd a.str) n).trans a.str,sl:=a.sl.keep hu (fun g p=>h g (.inl p)),map:=a.map.keep hu (h mb (.inr rfl)),good:=a.good,ne:=a.ne,nm:=a.nm,nv:=a.nv,le:=a.le,sl1:=a.sl1}
theorem IndexAt.below(a:IndexAt w b v mb N ps slots)(h:Below w.heap.size w w'):IndexAt w' b v mb N ps slots:=
 a.keep (uuo (S:=fun _=>False) h) id (fun _ _ a=>a)
theorem IndexAt.mono(a:IndexAt w b v mb N ps slots)(h:N<=N'):IndexAt w b v mb N' ps slots:={a with map:=a.map.mono h}
theorem IndexAt.blt(h:IndexAt w b v mb N ps slots):b<w.heap.size:=zd h.str
theorem IndexAt.slt(h:IndexAt w b v mb N ps slots):∀a,ixS v mb a->a<w.heap.size:=by
 rintro a (j|rfl)
 .exact h.sl.lt j
 .exact h.map.lt
theorem AL(n s:Nat)(w:World)(h1:1<=n)(h2:n<=4096)(W:1<=s)(H:s<=1024):
  Calls prog 140 #[.int .i64 n,.int .i64 s] w fun e w'=>∃b v mb,e=.returned (.tuple #[.pointer (some ⟨b,0,none⟩),.int .i64 0])/\
   IndexAt w' b v mb 0 (List.replicate n (-1,false)) s/\w.heap.size<=b/\w.heap.size<=mb/\From w.heap.size v/\Below w.heap.size w w':=by
 have X:= @run_makeMap prog;go_enter func140,ntmps140
 go_wp2_with fail
 refine(yX _).mono ?_;rintro e w1 ⟨rfl,J,a⟩;have hx:(w1.alloc (.cells #[.int .i64 (-1),.bool false] 256)).heap[w.heap.size+1]?=some (.cells #[.int .i64 (-1),.bool false] 256):=zc _ _ a.symm;have L:=qqh hx;clear hx;go_wp2_with fail
 refine(Qs n (w.heap.size+1) _ h1 h2 L.o).mono ?_;rintro e w2 ⟨rfl,j,p,q⟩;have D:w2.heap.size=w.heap.size+3:=by rw[q];simp[a]
 have E:Below w.heap.size w w2:=(zj (qxl _ w) (J.alloc (.cells #[.int .i64 (-1),.bool false] 256)) (qXp _) (fun _ h=>h.elim)).trans (p.mono (by simp[a];omega));have O:=qqh j;have Q:=qqh E;clear j E p q;go_wp2
 go_ret2
 have F:=Upd.alloc (uur (fun _=>False) w2) (.map #[] 0);have j:w2.heap[w.heap.size+2]?=some (.cells (noPl n).toArray 256):=by have:=O.o;simpa[a]using this
 have hsl:Sl w2 256 2 (.slice (some ⟨w.heap.size+2,0,none⟩) n n) (List.replicate n ((-1:Int),false)).length (plC (List.replicate n (-1,false))):=by
  rw[<-Sv];refine⟨by rw[yL];simp,.inr ⟨w.heap.size+2,0,n,(noPl n).toArray,oe,j,oe,by unfold maxLen;omega,by simp[yL],fun Y u T=>by simpa using T⟩⟩
 have U:MapAt (w2.alloc (.map #[] 0)) (w.heap.size+3) 0 (atOf (List.replicate n (-1,false))):=by
  have:=MapAt.made w2;rw[D]at this;rw[Vn];exact this
 refine⟨w.heap.size+3+1,.slice (some ⟨w.heap.size+2,0,none⟩) n n,w.heap.size+3,rfl,⟨zc _ _ (by simp[D]),?_,U.keep (Upd.alloc (uur (fun _=>False) _) _) id,Good.start n s,by simp[Value.ownBlock],oM,by simp[Value.ownBlock],by simp;omega,H⟩,oM,oM,?_,?_⟩
 .exact hsl.keep (F.alloc _) (fun _ _ h=>h)
 .intro g V;simp[Value.ownBlock]at V;omega
 .exact zj Q.o (F.alloc _) (qXp _) (fun _ h=>h.elim)
def getV(ps:List (Int×Bool))(b:Int):Int×Bool:=if b<0\/(ps.length:Int)<=b then(0,false)else if ps.getD b.toNat (-1,false)=(-1,false)then(0,false)else ps.getD b.toNat (-1,false)
def getC(ps:List (Int×Bool))(b:Int):Int:=if b<0\/(ps.length:Int)<=b then 10 else if ps.getD b.toNat (-1,false)=(-1,false)then 14 else 0
theorem Zcg07{P:Prop}(h:P:=by
  clear n;go_enter func173,ntmps173
  go_wp2
  refine qYq (v:=.tuple #[zO 0 false,.int .i64 10]) ?_ rfl ⟨rfl,(qxl _ _).alloc (qXp _) _⟩;simp[results,results173,go_sem]):P:=h
theorem AM(h:IndexAt w b v mb N ps slots)(k:Int)(n:k<0\/(ps.length:Int)<=k):
  Calls prog 173 #[.pointer (some ⟨b,0,none⟩),.int .i64 k] w fun e w'=>e=.returned (.tuple #[zO 0 false,.int .i64 10])/\Below w.heap.size w w':=by
 have p:Upd (fun _=>False) w (w.alloc (.cells #[.int .i64 0,.bool false] 256)):=(uur _ _).alloc _;have q:=(p.cellAt (o:=0) (zd h.str) id).trans (za h.str 0);simp at q;have s:=h.le;have a:=zc w (.cells #[.int .i64 0,.bool false] 256) rfl;have j:=za a 0;have c1:=za a 1;simp at j c1;have D:=qqh j;have E:=qqh c1;clear a j c1;obtain⟨F,c,rfl⟩:=h.sl.rd.j6;clear h;by_cases H:k<0
 .exact Zcg07
 .have h1:(ps.length:Int)<=k:=oM;exact Zcg07
theorem IndexAt.at(h:IndexAt w b v mb N ps slots)(p:k<ps.length):
  ∃g a j,v=.slice (some ⟨g,a,none⟩) ps.length j/\g<w.heap.size/\w.cell? ⟨g,a+k*2,none⟩=some (.int .i64 ps[k].1)/\w.cell? ⟨g,a+k*2+1,none⟩=some (.bool ps[k].2):=by
 obtain⟨g,a,j,s,rfl,n,_,q⟩:=h.sl.at oM;exact⟨g,a,j,rfl,zd n,by rw[za n];exact q _ _ (xx p).1,by rw[za n];exact q (k*2+1) _ (xx p).2⟩
theorem XN(h:IndexAt w b v mb N ps slots)(k:Nat)(O:k<ps.length)(Q:ps[k].1≠-1):
  Calls prog 173 #[.pointer (some ⟨b,0,none⟩),.int .i64 k] w fun e w'=>e=.returned (.tuple #[zO ps[k].1 ps[k].2,.int .i64 0])/\Below w.heap.size w w':=by
 have n:Upd (fun _=>False) w (w.alloc (.cells #[.int .i64 0,.bool false] 256)):=(uur _ _).alloc _;have s:=(n.cellAt (o:=0) (zd h.str) id).trans (za h.str 0);simp at s;have a6:=h.le;have a7:=zd h.str;obtain⟨g,p,T,rfl,D,E,q1⟩:=h.at O;have U:=(n.cellAt D id).trans E;have V:=(n.cellAt D id).trans q1;have F:=zc w (.cells #[.int .i64 0,.bool false] 256) rfl;have W:=qqh F;clear h E q1 F;go_enter func173,ntmps173
 go_wp2
 go_region_held3 (fun q=>q.cell? ⟨b,0,none⟩=some (.slice (some ⟨g,p,none⟩) ps.length T)/\q.cell? ⟨g,p+k*2,none⟩=some (.int .i64 ps[k].1)/\q.cell? ⟨g,p+k*2+1,none⟩=some (.bool ps[k].2)) (go_keep)
  ((go_at_call 211;refine(yX _).mono ?_;rintro e w2 ⟨rfl,j,a8⟩;have aa:=(j.cellAt (o:=0) og id).trans s;have ab:=(j.cellAt og id).trans U;have ad:=(j.cellAt og id).trans V))
 have ae:(ps[k].1== -1)=false:=by simpa using Q
 have a:w2.heap[w.heap.size]?=some (.cells #[.int .i64 0,.bool false] 256):=(j.block _ oe id).trans W.o;have X:=za a 0;have Y:=za a 1;have af:=zf a 0;have ag:=zf a 1;simp at X Y;have Z:=qqh a;clear a;go_wp2
 have H:=zh (zh Z.o 0 (.int .i64 ps[k].1)) 1 (.bool ps[k].2);have J:=za H 0;have L:=za H 1;simp at J L;refine qYq (v:=.tuple #[zO ps[k].1 ps[k].2,.int .i64 0]) ?_ rfl ⟨rfl,?_⟩
 .simp [results,results173,go_sem,J,L]
 .exact zj (zj (((qxl _ _).alloc (qXp _) _).drew) j (qXp _) (fun _ (h:False)=>h.elim)) ((zi w2 w.heap.size 0 (.int .i64 ps[k].1)).trans (zi _ _ 1 _)) (qXp _) (fun ah e=>oM)
theorem Sw(h:IndexAt w b v mb N ps slots)(k:Nat)(Q:k<ps.length)(D:ps[k]=(-1,false)):
  Calls prog 173 #[.pointer (some ⟨b,0,none⟩),.int .i64 k] w fun e w'=>e=.returned (.tuple #[zO 0 false,.int .i64 14])/\Below w.heap.size w w':=by
 have n:Upd (fun _=>False) w (w.alloc (.cells #[.int .i64 0,.bool false] 256)):=(uur _ _).alloc _;have E:=(n.cellAt (o:=0) (zd h.str) id).trans (za h.str 0);simp at E;have a6:=h.le;have a7:=zd h.str;obtain⟨g,p,T,rfl,F,q,q1⟩:=h.at Q;rw[D]at q q1;have U:=(n.cellAt F id).trans q;have V:=(n.cellAt F id).trans q1;have H:=zc w (.cells #[.int .i64 0,.bool false] 256) rfl;have W:=qqh H;clear h q q1 H D;go_enter func173,ntmps173
 go_wp2
 go_region_held3 (fun s=>s.cell? ⟨b,0,none⟩=some (.slice (some ⟨g,p,none⟩) ps.length T)/\s.cell? ⟨g,p+k*2,none⟩=some (.int .i64 (-1))/\s.cell? ⟨g,p+k*2+1,none⟩=some (.bool false)) (go_keep)
  ((go_at_call 211;refine(yX _).mono ?_;rintro e w2 ⟨rfl,j,a8⟩;have aa:=(j.cellAt (o:=0) og id).trans E;have ab:=(j.cellAt og id).trans U;have ad:=(j.cellAt og id).trans V))
 have a:w2.heap[w.heap.size]?=some (.cells #[.int .i64 0,.bool false] 256):=(j.block _ oe id).trans W.o;have X:=za a 0;have Y:=za a 1;have ae:=zf a 0;have af:=zf a 1;simp at X Y;have Z:=qqh a;clear a;go_wp2
 have J:=zh (zh Z.o 0 (.int .i64 0)) 1 (.bool false);have L:=za J 0;have O:=za J 1;simp at L O;refine qYq (v:=.tuple #[zO 0 false,.int .i64 14]) ?_ rfl ⟨rfl,?_⟩
 .simp [results,results173,go_sem,L,O]
 .exact zj (zj (((qxl _ _).alloc (qXp _) _).drew) j (qXp _) (fun _ (h:False)=>h.elim)) ((zi w2 w.heap.size 0 (.int .i64 0)).trans (zi _ _ 1 _)) (qXp _) (fun ag e=>oM)
namespace EvG
abbrev mayV(xv:Value):Value:=.func (.func 425) #[xv] #[]
def MayIs(xv:Value)(fm:Int->Bool)(w0:World):Prop:=∀(W:World) (k:Int),InR k->Upd (fun _=>False) w0 W->Calls prog 425 #[xv,.int .i64 k] W fun e w'=>e=.returned (.bool (fm k))/\Below W.heap.size W w'
theorem Sx{q:Value}{j:Int->Bool}{s:World}(E:MayIs q j s)(k:Int)(F:InR k)(w:World)(H:Upd (fun _=>False) s w)(g:Nat)(n:w.cell? ⟨g,0,none⟩=some (mayV q)):
  Calls prog 444 #[.int .i64 k,.pointer (some ⟨g,0,none⟩)] w fun e w'=>e=.returned (.bool (j k))/\Below w.heap.size w w':=by
 have Q:=qqf;have hlt:=(zE n).2;have T:=(((uur (fun _=>False) w).alloc (.cells #[.bool false] 4)).cellAt hlt id).trans n;clear n
 go_enter_defers func444,ntmps444
 go_wp2_with fail
 refine(E _ k F (H.alloc _)).mono ?_;rintro e w1 ⟨rfl,a⟩;have J:=a.size;simp at J;have D:=(a.block w.heap.size oe).trans (zc w (.cells #[.bool false] 4) rfl);have L:=qqh (za (zh D 0 (.bool (j k))) 0);have c1:=(a.cell (p:=⟨w.heap.size,0,none⟩) oe).trans (za (zc w (.cells #[.bool false] 4) rfl) 0);have U:=(a.frozen (p:=⟨w.heap.size,0,none⟩) oe).trans (zf (zc w (.cells #[.bool false] 4) rfl) 0);simp at c1;have O:Hid (Below w.heap.size w w1):=zj ((qxl _ _).alloc (qXp _) _) (uuo (S:=fun _=>False) a) (qXp _) (fun _ h=>h.elim);clear a D;go_wp2
 refine leaves_cons (f:=445) (args:= #[.pointer (some ⟨w.heap.size,0,none⟩)]) oe jZ ?_;refine(Vo _ _).mono ?_;rintro e V W ⟨rfl,rfl,rfl⟩;simp[Leaves,settle,results,results444,go_sem];have c2:=L.out;simp at c2;rw[c2];exact⟨_,rfl,rfl,O.o.setCell (p:=⟨w.heap.size,0,none⟩) (qXp _) _⟩
end EvG
end Go.Proofs.YtpejdgiccaijfaaGreatDoor
