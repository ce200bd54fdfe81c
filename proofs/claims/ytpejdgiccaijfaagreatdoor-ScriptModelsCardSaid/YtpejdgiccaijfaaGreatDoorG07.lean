/- Maps from ints -/
import Derived.Test.YtpejdgiccaijfaaGreatDoorG03
import Derived.Test.YtpejdgiccaijfaaGreatDoorG04
import Derived.Maps.Views
import Derived.Maps.OwnSet
import Derived.MapKept
import Derived.Test.YtpejdgiccaijfaaGreatDoorG05
import Derived.Shelf.SlMaps.Clone
import Derived.Maps.Range
import Derived.Deep.RegionLaw
import Derived.Lib.SliceRun
import Derived.Lib.AppendZeros
set_option maxRecDepth 100000
set_option maxHeartbeats 2000000
namespace Go.Proofs.YtpejdgiccaijfaaGreatDoor
open Go Go.RowKit Go.Maps Tryz
def MapAt(w:World)(mb N:Nat)(f:Int->Option Nat):Prop:=
 ∃D:DataW Unit,w.ownsMap prog 3 (plainElem prog 3) mb N D/\
  ∀s:Int,Maps.has D (.int .i64 s)=(f s).isSome/\∀c,f s=some c->∀z,D.atKey (.int .i64 s) z=.lit (.int .i64 (c:Int))
theorem yy:Keyed prog 3:=int_keyed underlying3
theorem wfI{x:Int}(h1: -9223372036854775808<=x)(h2:x<9223372036854775808):(Lit.int .i64 x).wf=true:=by
 have e1:IntKind.i64.min= -9223372036854775808:=de;have e2:IntKind.i64.max=9223372036854775807:=de;simp only[Lit.wf,e1,e2,qxo,decide_eq_true_eq];omega
theorem tQ{x:Int}(h1: -9223372036854775808<=x)(h2:x<9223372036854775808):keyOf prog 3 (.int .i64 x)=some (.int .i64 x):=keyOf_int_mk underlying3 (wfI h1 h2)
theorem MapAt.lt{w:World}{mb N:Nat}{f:Int->Option Nat}(h:MapAt w mb N f):mb<w.heap.size:=by obtain⟨D,h,_⟩:=h;exact h.lt
theorem MapAt.keep{w w':World}{mb N:Nat}{f:Int->Option Nat}(h:MapAt w mb N f){S:Nat->Prop}(hu:Upd S w w')(hs:¬S mb):MapAt w' mb N f:=by
 obtain⟨D,⟨es,clock,hb,r⟩,hf⟩:=h;exact⟨D,⟨es,clock,(hu.block _ (zd hb) hs).trans hb,r⟩,hf⟩
theorem MapAt.mono{w:World}{mb N N':Nat}{f:Int->Option Nat}(h:MapAt w mb N f)(hn:N<=N'):MapAt w mb N' f:=by obtain⟨D,h,hf⟩:=h;exact⟨D,h.mono hn,hf⟩
theorem MapAt.made(w:World):MapAt (w.alloc (.map #[] 0)) w.heap.size 0 (fun _=>none):=
 ⟨.map [],World.ownsMap_made w _ _ _,fun s=>⟨rfl,fun c h=>by cases h⟩⟩
theorem yz{w w':World}{b:Nat}(h:w.mapTurned w' b):Upd (fun j=>j=b) w w':=by
 obtain⟨a,b',c,d,e⟩:=h.grown;exact⟨a,b',c,d,fun i hi hs=>e i hi (fun e=>hs (by simpa using e))⟩
theorem yn{w w':World}{b:Nat}(h:w.mapTurned w' b):w'.heap.size=w.heap.size:=by
 obtain⟨es,clock,es',clock',hb,rfl⟩:=h;simp[Go.ChangeMaps.setBlock]
theorem Qu(w:World):(zeroValue 3).run prog w=.ok (.int .i64 0) w:=by
 exact Tryz.zeroValue3 w
theorem MapAt.look{w:World}{mb N:Nat}{f:Int->Option Nat}(h:MapAt w mb N f){x:Int}(h1: -9223372036854775808<=x)(h2:x<9223372036854775808):
  (Instr.lookup 168 (.map (some mb)) (.int .i64 x) true).run prog w=.ok (.tuple #[.int .i64 (((f x).getD 0:Nat):Int),.bool (f x).isSome]) w:=by
 obtain⟨D,ho,hf⟩:=h;obtain⟨v,ps,hr,hv⟩:=ho.look_ok yy underlying168 (Qu w) (plainElem_int underlying3 de) (tQ h1 h2);obtain⟨c,rfl,hc,hwc⟩:=plainElem_int_inv underlying3 hv;simp only[qYd]at hc;rw[hr,(hf x).1];have:c=(((f x).getD 0:Nat):Int):=by
  cases hx:f x with
  |none=>
   have h0:=(hf x).1;rw[hx]at h0;have:=atKey_of_not_has (D:=D) h0 (.lit (.int .i64 0));rw[this]at hc;simp at hc;simpa using hc.1.symm
  |some c'=>
   have:=(hf x).2 c' hx (.lit (.int .i64 0));rw[this]at hc;simp at hc;simpa using hc.1.symm
 rw[this]
theorem MapAt.drop{w:World}{mb N:Nat}{f:Int->Option Nat}(h:MapAt w mb N f){x:Int}(h1: -9223372036854775808<=x)(h2:x<9223372036854775808)(ty:TypeId):
  ∃w',(Builtin.delete_ #[168,3] ty #[.map (some mb),.int .i64 x]).run prog w=.ok (.tuple #[]) w'/\MapAt w' mb N (xP f x none)/\Upd (fun j=>j=mb) w w'/\w'.heap.size=w.heap.size:=by
 obtain⟨D,ho,hf⟩:=h;obtain⟨w',hr,ho',ht⟩:=ho.drop yy underlying168 (tQ h1 h2) ty;refine⟨w',hr,⟨_,ho',fun s=>?_⟩,yz ht,yn ht⟩;by_cases hs:s=x
 .subst hs;simp[xP,has_del_same]
 .have hne:Lit.int .i64 s≠Lit.int .i64 x:=fun e=>hs (by injection e);simp only[xP,if_neg hs,has_del_other hne];exact⟨(hf s).1,fun c hc z=>by rw[atKey_del_other hne];exact(hf s).2 c hc z⟩
theorem MapAt.store{w:World}{mb N:Nat}{f:Int->Option Nat}(h:MapAt w mb N f){x:Int}(h1: -9223372036854775808<=x)(h2:x<9223372036854775808)(c:Nat)(hc:c<9223372036854775808)(hn:N<maxLen):
  ∃w',(Instr.mapUpdate 168 (.map (some mb)) (.int .i64 x) (.int .i64 (c:Int))).run prog w=.ok () w'/\MapAt w' mb (N+1) (xP f x (some c))/\Upd (fun j=>j=mb) w w'/\w'.heap.size=w.heap.size:=by
 obtain⟨D,ho,hf⟩:=h;have hM:=ho.isMap;have hK:∀y:Int,WideAt.IsKeyLit (.int .i64 y):=fun _=>trivial;obtain⟨w',hr,ho',ht⟩:=ho.store (ps:=[]) (d:=.lit (.int .i64 (c:Int))) yy underlying168 hn (tQ h1 h2) (plainElem_int underlying3 (wfI oM oM));refine⟨w',hr,⟨_,ho',fun s=>?_⟩,yz ht,yn ht⟩;by_cases hs:s=x
 .subst hs;simp only[xP];exact⟨by rw[has_put_same hM (hK _)];simp,fun c' hc' z=>by simp at hc';subst hc';exact atKey_put_same hM (hK _) _ _⟩
 .have hne:Lit.int .i64 s≠Lit.int .i64 x:=fun e=>hs (by injection e);simp only[xP,if_neg hs,has_put_other hne];exact⟨(hf s).1,fun c hc z=>by rw[atKey_put_other hne];exact(hf s).2 c hc z⟩
def SetAt(w:World)(mb N:Nat)(A:Int->Bool):Prop:=
 ∃D:DataW Unit,w.ownsMap prog 3 unitElem mb N D/\∀s:Int,Maps.has D (.int .i64 s)=A s
theorem SetAt.lt{w:World}{mb N:Nat}{A:Int->Bool}(h:SetAt w mb N A):mb<w.heap.size:=by obtain⟨D,h,_⟩:=h;exact h.lt
theorem SetAt.keep{w w':World}{mb N:Nat}{A:Int->Bool}(h:SetAt w mb N A){S:Nat->Prop}(hu:Upd S w w')(hs:¬S mb):SetAt w' mb N A:=by
 obtain⟨D,⟨es,clock,hb,r⟩,hf⟩:=h;exact⟨D,⟨es,clock,(hu.block _ (zd hb) hs).trans hb,r⟩,hf⟩
theorem SetAt.mono{w:World}{mb N N':Nat}{A:Int->Bool}(h:SetAt w mb N A)(hn:N<=N'):SetAt w mb N' A:=by obtain⟨D,h,hf⟩:=h;exact⟨D,h.mono hn,hf⟩
theorem SetAt.made(w:World):SetAt (w.alloc (.map #[] 0)) w.heap.size 0 (fun _=>false):=
 ⟨.map [],World.ownsMap_made w _ _ _,fun _s=>rfl⟩
def updB(A:Int->Bool)(x:Int)(v:Bool):Int->Bool:=fun s=>if s=x then v else A s
def InR(x:Int):Prop:= -9223372036854775808<=x/\x<9223372036854775808
theorem zck(w:World):(zeroValue 412).run prog w=.ok (.agg #[]) w:=by
 exact Tryz.zeroValue412 w
theorem SetAt.look{w:World}{mb N:Nat}{A:Int->Bool}(h:SetAt w mb N A){x:Int}(hx:InR x):
  (Instr.lookup 330 (.map (some mb)) (.int .i64 x) true).run prog w=.ok (.tuple #[.agg #[],.bool (A x)]) w:=by
 obtain⟨D,ho,hf⟩:=h;obtain⟨v,ps,hr,hv⟩:=ho.look_ok yy underlying330 (zck w) unitElem_mk (tQ hx.1 hx.2);obtain⟨rfl,_⟩:=unitElem_inv hv;rw[hr,hf x]
theorem SetAt.drop{w:World}{mb N:Nat}{A:Int->Bool}(h:SetAt w mb N A){x:Int}(hx:InR x)(ty:TypeId):
  ∃w',(Builtin.delete_ #[330,3] ty #[.map (some mb),.int .i64 x]).run prog w=.ok (.tuple #[]) w'/\SetAt w' mb N (updB A x false)/\Upd (fun j=>j=mb) w w'/\w'.heap.size=w.heap.size:=by
 obtain⟨D,ho,hf⟩:=h;obtain⟨w',hr,ho',ht⟩:=ho.drop yy underlying330 (tQ hx.1 hx.2) ty;refine⟨w',hr,⟨_,ho',fun s=>?_⟩,yz ht,yn ht⟩;by_cases hs:s=x
 .subst hs;simp[updB,has_del_same]
 .have hne:Lit.int .i64 s≠Lit.int .i64 x:=fun e=>hs (by injection e);simp only[updB,if_neg hs,has_del_other hne];exact hf s
theorem SetAt.store{w:World}{mb N:Nat}{A:Int->Bool}(h:SetAt w mb N A){x:Int}(hx:InR x)(hn:N<maxLen):
  ∃w',(Instr.mapUpdate 330 (.map (some mb)) (.int .i64 x) (.agg #[])).run prog w=.ok () w'/\SetAt w' mb (N+1) (updB A x true)/\Upd (fun j=>j=mb) w w'/\w'.heap.size=w.heap.size:=by
 obtain⟨D,ho,hf⟩:=h;have hM:=ho.isMap;have hK:∀y:Int,WideAt.IsKeyLit (.int .i64 y):=fun _=>trivial;obtain⟨w',hr,ho',ht⟩:=ho.store (ps:=[]) (d:=.agg []) yy underlying330 hn (tQ hx.1 hx.2) unitElem_mk;refine⟨w',hr,⟨_,ho',fun s=>?_⟩,yz ht,yn ht⟩;by_cases hs:s=x
 .subst hs;simp only[updB,if_true];rw[has_put_same hM (hK _)]
 .have hne:Lit.int .i64 s≠Lit.int .i64 x:=fun e=>hs (by injection e);simp only[updB,if_neg hs,has_put_other hne];exact hf s
theorem yR{w:World}{mb N:Nat}{A:Int->Bool}(h:SetAt w mb N A):
  Calls prog 446 #[.map (some mb)] w fun e w'=>e=.returned (.map (some w.heap.size))/\SetAt w' w.heap.size N A/\Below w.heap.size w w':=by
 obtain⟨D,⟨es,clock,hb,hF,hs,hD⟩,hf⟩:=h;have hq:=fun w=>run_eql_map_nil_sl (P:=prog) w 330 _ _ (some mb) underlying330;have hend:SetAt (w.alloc (.map es clock)) w.heap.size N A:=⟨D,⟨es,clock,(MapKept.heap_alloc w _).1,hF,hs,hD⟩,hf⟩
 have HE:=qqh hend;clear hend hf hD hs hF;go_enter func446,ntmps446
 go_wp2
 rw[run_callFunc_extern func469 kR kR kR (e:=Extern.MapsClone.clone) kR,run_maps_clone_sl w 330 hb];simp only[Result.andThen];rw[Oper.upon_value];go_wp2
 rw[run_typeAssert_map_sl _ 330 _ _ _ _ underlying330];simp only[Result.andThen];rw[Oper.upon_value];go_wp2
 go_ret
 exact⟨rfl,HE.o,(qxl _ _).alloc (qXo _) _⟩
theorem uh{w:World}{mb N:Nat}{A:Int->Bool}(h:SetAt w mb N A)(k:Int)(hk:InR k):
  Calls prog 447 #[.map (some mb),.int .i64 k] w fun e w'=>e=.returned (.bool (A k))/\Below w.heap.size w w':=by
 have hmf:=qqf;have hl:=(SetAt.keep h ((uur (fun _=>False) w).alloc (.cells #[.bool false] 4)) id).look hk;clear h
 go_enter_defers func447,ntmps447
 go_wp2
 refine leaves_cons (f:=470) (args:= #[.pointer (some ⟨w.heap.size,0,none⟩)]) oe jM ?_;refine(rQ _ _).mono ?_;rintro e u' w'' ⟨rfl,rfl,rfl⟩;simp[Leaves,settle,results,results447,go_sem];exact(qxl _ _).alloc (qXo _) _
end Go.Proofs.YtpejdgiccaijfaaGreatDoor
namespace Go.Proofs.YtpejdgiccaijfaaGreatDoor
open Go Go.RowKit Go.Maps Go.WideElems Tryz
theorem YN:∀(n:Nat) (l:List Int),l.Nodup->(∀x∈l,-1<=x/\x<(n:Int))->l.length<=n+1:=by
 intro n
 induction n with
 |zero=>
  intro l hd hr
  match l,hd,hr with
  |[],_,_=>simp
  |[_],_,_=>simp
  |a::b::l,hd,hr=>
   have h1:=hr a oe;have h2:=hr b oe;have:a=b:=oM;simp[this]at hd
 |succ n ih=>
  intro l hd hr;have h1:=ih (l.erase (n:Int)) (hd.erase _) (fun x hx=>by
   have h2:=hr x (qzr hx);have h3:x≠(n:Int):=fun e=>by subst e;exact(List.Nodup.not_mem_erase hd) hx
   omega)
  have h4:l.length<=(l.erase (n:Int)).length+1:=by
   rw[List.length_erase];split<;>omega
  omega
theorem Wc{R:Value->Option (DataW Unit×List MemPlace)}{w:World}{mb N:Nat}{D:DataW Unit}(h:w.ownsMap prog 3 R mb N D)(n:Nat)(hr:∀s:Int,Maps.has D (.int .i64 s)=true->-1<=s/\s<(n:Int)):
  w.ownsMap prog 3 R mb (n+1) D:=by
 obtain⟨es,clock,hb,F,hs,rfl⟩:=h;refine⟨es,clock,hb,F,?_,rfl⟩;have hk:∀x∈es.toList,∃c:Int,x.key=.int .i64 c/\Maps.has (DataW.map ((es.toList.map (rg prog 3 R)).foldr DataW.insert [])) (.int .i64 c)=true:=by
  intro x hx;obtain⟨y,hy⟩:=F.reads x hx;obtain⟨c,h1,h2⟩:=Maps.keyOf_int_inv underlying3 (rd_key hy);refine⟨c,h1,?_⟩;have h3:(rg prog 3 R x).1=.int .i64 c:=by rw[rg_of hy];exact h2.1
  exact List.any_eq_true.2 ⟨rg prog 3 R x,mem_sorted.2 (qzq.2 ⟨x,hx,rfl⟩),by rw[h3];exact WideAt.sameKey_self trivial⟩
 let g:MapEntry->Int:=fun x=>match x.key with| .int _ c=>c|_=>0
 have hg:∀x∈es.toList,x.key=.int .i64 (g x):=by
  intro x hx;obtain⟨c,h1,-⟩:=hk x hx;simp only[g,h1]
 have hnd:(es.toList.map g).Nodup:=by
  rw[List.Nodup,qXa];have:=((MapKept.stamped_iff es clock).1 F.stamped).2.2;refine List.Pairwise.imp_of_mem (fun{a b} ha hb' hne e=>hne ?_) this;rw[hg a ha,hg b hb',e]
 have:=YN n _ hnd (fun s hs=>by
  obtain⟨x,hx,rfl⟩:=qzq.1 hs;obtain⟨c,h1,h2⟩:=hk x hx;have h3:g x=c:=by have:=hg x hx;rw[h1]at this;injection this with _ h;exact h.symm
  rw[h3];exact hr c h2)
 simpa using this
theorem SetAt.tight{w:World}{mb N:Nat}{A:Int->Bool}(h:SetAt w mb N A)(n:Nat)(hr:∀s:Int,A s=true->-1<=s/\s<(n:Int)):SetAt w mb (n+1) A:=by
 obtain⟨D,ho,hf⟩:=h;exact⟨D,Wc ho n (fun s hs=>hr s (by rw[<-hf];exact hs)),hf⟩
theorem SetAt.clear{w:World}{mb N:Nat}{A:Int->Bool}(h:SetAt w mb N A):
  ∃w',(∀ty,(Builtin.clear_ #[330] ty #[.map (some mb)]).run prog w=.ok (.tuple #[]) w')/\SetAt w' mb N (fun _=>false)/\Upd (fun j=>j=mb) w w'/\w'.heap.size=w.heap.size:=by
 obtain⟨D,⟨es,clock,hb,F,hs,rfl⟩,hf⟩:=h;refine⟨ChangeMaps.setBlock w mb (.map #[] clock),?_,⟨.map [],⟨#[],clock,(MapKept.heap_set hb).1,⟨oe,MapKept.stamped_empty _,oe⟩,oe,rfl⟩,fun s=>rfl⟩,?_,by simp[ChangeMaps.setBlock]⟩
 .intro ty;simp[Builtin.clear_,run_underlying underlying330,MapKept.run_getObj_map hb,MapKept.run_setObj_map _ hb,Result.andThen,ChangeMaps.setBlock]
 .exact ⟨rfl,rfl,rfl,by simp[ChangeMaps.setBlock],fun k _ hk=>(MapKept.heap_set hb).2 k hk⟩
end Go.Proofs.YtpejdgiccaijfaaGreatDoor
namespace Go.Proofs.YtpejdgiccaijfaaGreatDoor
open Go Go.RowKit Tryz
theorem vq:(prog.info? 3).map (fun i=>(i.zero,i.size,i.bytes))=some (some (.int .i64 0),1,8):=kR
theorem ui(l:List Int):∀u∈ints l,u.oneCell'=true:=by intro u hu;simp only[ints,qzq]at hu;obtain⟨p,_,rfl⟩:=hu;rfl
theorem yA{w:World}{v:Value}{l:List Int}(h:Rd w 1 v l.length (ints l))(hle:l.length<=4096):
  Calls prog 302 #[v] w fun e w'=>∃v',e=.returned v'/\Sl w' 3 1 v' l.length (ints l)/\From w.heap.size v'/\Below w.heap.size w w':=by
 obtain⟨i0,hi,hz0,hz1,hz2⟩:=qYs vq;have H:=qqh h;obtain⟨hl,hm,ao,c,rfl,h0,_⟩:=h;have q34:=fun(w:World) (a:Option Addr) (n c:Nat)=>Lib.run_eql_slice_nil (P:=prog) w 87 3 a n c 0 0 underlying87;cases ao with
 |none=>
  have hn:=h0 rfl;have hE:Hid (Sl w 3 1 (.slice none 0 0) l.length (ints l)):=by
   have:l=[]:=List.length_eq_zero_iff.1 hn;subst this;exact Sl.nil _ _ _
  clear h0 hl H hm;go_enter func302,ntmps302
  go_wp2
  go_ret
  exact⟨_,rfl,hE.out,From.nil _ _ _,qxl _ _⟩
 |some a=>
  clear h0 hl;have hs0:Sl (w.alloc (.cells #[] 3)) 3 1 (.slice (some ⟨w.heap.size,0,none⟩) 0 0) 0 []:=
   ⟨oe,.inr ⟨w.heap.size,0,0,#[],rfl,zc _ _ rfl,oe,by simp[maxLen],oe,oe⟩⟩
  have HR:Hid (Rd (w.alloc (.cells #[] 3)) 1 (.slice (some a) l.length c) l.length (ints l)):=H.o.keep ((uur (fun _=>False) _).alloc _) (fun _ _ h=>h);have hone:=ui l;go_enter func302,ntmps302
  go_wp2_with (at_builtin;refine zI rfl _ _ 87 rfl i0 (.int .i64 0) 8 underlying87 hi hz0 hz1 hz2 rfl de rfl hs0 _ l.length (ints l) rfl HR.o hone oj oM ?_)
  intro v' w2 hs2 hu2 hb2;go_wp2
  go_ret
  refine⟨_,rfl,by simpa using hs2,?_,?_⟩
  .exact hb2.ge oe oD
  .refine zj ((qxl _ _).alloc (qXo _) _) hu2 (qXo _) oB
theorem rR(l:List Int)(i j:Nat):(l.eraseIdx i)[j]?=if j<i then l[j]? else l[j+1]?:=by
 rw[List.getElem?_eraseIdx]
theorem Zp{w:World}{v:Value}{l:List Int}(h:Sl w 3 1 v l.length (ints l))(hle:l.length<=4096){i:Nat}(hi:i<l.length):
  Calls prog 288 #[v,.int .i64 i,.int .i64 ((i:Int)+1)] w fun e w'=>∃v',e=.returned v'/\v'.ownBlock=v.ownBlock/\Sl w' 3 1 v' (l.eraseIdx i).length (ints (l.eraseIdx i))/\Upd (ownS v) w w':=by
 obtain⟨i0,hi0,hz0,hz1,hz2⟩:=qYs vq;obtain⟨hl,⟨rfl,h0⟩|⟨g,off,cap,cur,rfl,hg,hn,hm,hs,hc⟩⟩:=h
 .omega
 have hlen:(l.eraseIdx i).length=l.length-1:=List.length_eraseIdx_of_lt hi;obtain⟨news,hnews⟩:=qqe (ints (l.drop (i+1)));have hnl:news.length=l.length-(i+1):=by rw[hnews];simp
 have hg':w.drew.heap[g]?=some (.cells cur 3 (0,0)):=hg;obtain⟨A,hA,hsrc⟩:∃A:Addr,(if cap=i+1 then some (⟨g,off,none⟩:Addr)else some ⟨g,off+(i+1),none⟩)=some A/\Hid (∀t u,news[t]?=some u->w.drew.cell? (A.add t)=some u):=by
  by_cases h:cap=i+1
  .refine ⟨⟨g,off,none⟩,by simp[h],fun t u hu=>?_⟩;have h0:news.length=0:=oM;rw[List.length_eq_zero_iff.1 h0]at hu;simp at hu
  .refine ⟨⟨g,off+(i+1),none⟩,by simp[h],fun t u hu=>?_⟩;rw[qxa,za hg'];rw[hnews]at hu;have:(ints l)[i+1+t]?=some u:=by
    rw[<-hu];simp[ints,List.getElem?_drop]
   rw[show off+(i+1)+t=off+(i+1+t) by omega];exact hc _ _ this
 have s1:Hid (news.length=(l.length-(i+1))*1):=by rw[Nat.mul_one];exact hnl
 have s2:Hid (∀u∈news,u.oneCell'=true):=by rw[hnews];exact ui _
 have s3:Hid (∀t,t<news.length->(w.drew.cell? ⟨g,off+i*1+t,none⟩).isSome=true/\w.drew.frozen? ⟨g,off+i*1+t,none⟩=false):=by
  intro t ht;rw[za hg',zf hg'];refine⟨?_,rfl⟩;rw[qxe oM];rfl
 obtain⟨cur1,hb1,hz1',hget1⟩:=zy news (off+i*1) w.drew g cur 3 (0,0) hg';obtain⟨W1,hW1⟩:=qqe (w.drew.setCells g (off+i*1) news);rw[<-hW1]at hb1;have hk1:∀t,t<l.length-(i+(l.length-(i+1)))->(W1.cell? ⟨g,off+(i+(l.length-(i+1)))+t,none⟩).isSome=true:=by
  intro t ht;rw[za hb1,qxe oM];rfl
 have hcl:∀ty,(Builtin.clear_ #[87] ty #[.slice (some ⟨g,off+(i+(l.length-(i+1))),none⟩) (l.length-(i+(l.length-(i+1)))) (cap-(i+(l.length-(i+1))))]).run prog W1=.ok (.tuple #[]) (W1.setCells g (off+(i+(l.length-(i+1)))) (List.replicate (l.length-(i+(l.length-(i+1)))) (.int .i64 0))):=
  fun ty=>Lib.run_clear_slice W1 _ 3 ty (.int .i64 0) underlying87 (fun w=>Tryz.zeroValue3 w) rfl rfl g (off+(i+(l.length-(i+1)))) _ _ oM hk1 (fun t _=>zf hb1 _)
 obtain⟨cur2,hb2,hz2',hget2⟩:=zy (List.replicate (l.length-(i+(l.length-(i+1)))) (Value.int .i64 0)) (off+(i+(l.length-(i+1)))) W1 g cur1 3 (0,0) hb1;have hU:Upd (ownS (.slice (some ⟨g,off,none⟩) l.length cap)) w (W1.setCells g (off+(i+(l.length-(i+1)))) (List.replicate (l.length-(i+(l.length-(i+1)))) (.int .i64 0))):=by
  refine Upd.trans (b:=W1) ?_ (yi _ _ _ _ _ rfl);rw[hW1];exact((uur _ w).drew).trans (yi _ _ _ _ _ rfl)
 have hend:Sl (W1.setCells g (off+(i+(l.length-(i+1)))) (List.replicate (l.length-(i+(l.length-(i+1)))) (.int .i64 0))) 3 1 (.slice (some ⟨g,off,none⟩) (i+(l.length-(i+1))) cap) (l.eraseIdx i).length (ints (l.eraseIdx i)):=by
  refine⟨oe,.inr ⟨g,off,cap,cur2,by rw[hlen,show i+(l.length-(i+1))=l.length-1 by omega],hb2,oM,hm,oM,fun j u hu=>?_⟩⟩;have hj:=(qyl.1 hu).1;rw[xe,hlen]at hj;rw[hget2,if_neg oM,hget1];simp only[ints,qym,rR]at hu;by_cases hji:j<i
  .rw [if_neg oM];rw[if_pos hji]at hu;exact hc j u (by simpa[ints]using hu)
  .rw [if_neg hji]at hu;rw[if_pos ⟨oM,oM,oM⟩,hnews,show off+j-(off+i*1)=j-i by omega];simp only[ints,qym,qyi];rw[show i+1+(j-i)=j+1 by omega];exact hu
 have HU:=qqh hU;have HE:=qqh hend;have hW:Hid (W1=w.drew.setCells g (off+i*1) news):=hW1;have hic:i<=cap:=oM;have hjc:i+1<=cap:=oM;have hj0:(0:Int)<=(i:Int)+1:=oM;have hj1:(i:Int)+1<=(l.length:Int):=oM;have hj2:0<=(i:Int)+1/\(i:Int)+1<=(l.length:Int):=⟨hj0,hj1⟩
 have hb:((i:Int)==(i:Int)+1)=false:=by simp;omega
 clear hk1 hU hend hget2 hget1 hb2 hb1 hW1 hc hg hg' hnews hnl hs;go_enter func288,ntmps288
 go_wp2_with fail
 go_region_law (refine step_append_room rfl (.tmp 22) (.tmp 25) 87 rfl 3 i0 1 underlying87 hi0 hz1 g off i cap (by simp[Act.eval,Act.put]) A (l.length-(i+1)) (cap-(i+1)) news (by simp[Act.eval,Act.put]) s1.out hsrc.out s2.out oM s3.out ?_;rw[<-hW.out])
 go_wp2
 go_ret
 exact⟨_,rfl,rfl,HE.o,HU.o⟩
theorem Qv(n:Nat)(hn:n<=4096)(w:World):
  Calls prog 471 #[.slice none 0 0,.int .i64 n] w fun e w'=>∃v',e=.returned v'/\Sl w' 3 1 v' 0 []/\From w.heap.size v'/\Below w.heap.size w w':=by
 obtain⟨i0,hi0,hz0,hz1,hz2⟩:=qYs vq;by_cases h0:n=0
 .subst h0;go_enter func471,ntmps471
  go_wp2
  go_ret
  exact⟨_,rfl,Sl.nil _ _ _,From.nil _ _ _,qxl _ _⟩
 .have h63:(n:Int)<=9223372036854775807:=oM;have hrun:=Lib.run_append_nil_zeros (P:=prog) w 87 3 87 3 i0 (.int .i64 0) .i64 .i64 underlying87 underlying3 hi0 hz0 n oM oM h63 jm;have hge:=grownCap_ge w n 0 3;have hle:=grownCap_le_maxLen w n 0 3 oj;generalize grownCap w n 0 3=cap at hrun hge hle;obtain⟨C,hC⟩:=qqe (Builtin.zeroCells (Value.int .i64 0).cells n++Builtin.zeroCells (Value.int .i64 0).cells (cap-n));have hsz:C.size=cap:=by
   rw[hC];simp[Builtin.zeroCells,Value.cells];omega
  rw[<-hC]at hrun;have hp:(0:Int)<(n:Int):=oM;have hcap:(cap:Int)<=9223372036854775807:=by unfold maxLen at hle;omega
  have HS:=qqh hsz;have HL:=qqh hle;clear hC hsz hle;go_enter func471,ntmps471
  go_wp2_with (at_builtin;refine Lib.wpList_append_run _ rfl _ _ _ _ rfl _ _ rfl rfl _ _ hrun ?_)
  go_wp2
  go_ret
  refine⟨_,rfl,⟨rfl,.inr ⟨w.heap.size,0,cap,C,rfl,zc _ _ rfl,oM,HL.o,by rw[HS.o];omega,oe⟩⟩,?_,?_⟩
  .intro g hg;simp[Value.ownBlock]at hg;omega
  .exact (qxl _ w).trans (Upd.below (((uur _ w).drew).alloc _))
theorem We{w:World}{gs:Nat}{va vb:Value}{fz:Nat×Nat}{la lb:List Int}(hgs:w.heap[gs]?=some (.cells #[va,vb] 87 fz))
  (ha:Rd w 1 va la.length (ints la)) (hb:Rd w 1 vb lb.length (ints lb)) (hle:la.length+lb.length<=4096):
  Calls prog 448 #[.slice (some ⟨gs,0,none⟩) 2 2] w fun e w'=>∃v',e=.returned v'/\Sl w' 3 1 v' (la.length+lb.length) (ints la++ints lb)/\From w.heap.size v'/\Below w.heap.size w w':=by
 obtain⟨i0,hi0,hz0,hz1,hz2⟩:=qYs vq;have HA:=qqh ha;have HB:=qqh hb;have HG:=qqh hgs;obtain⟨aoa,ca,rfl⟩:=ha.jU;obtain⟨aob,cb,rfl⟩:=hb.jU;have g0:=za hgs 0;have g1:=za hgs 1;simp at g0 g1;have G:=Y2 g0 g1;clear ha hb hgs g0 g1;go_enter func448,ntmps448
 go_wp2
 go_loopg[3,11] 2 (fun g sz i wr=>∃j:Nat,j+g=2/\i=.int .i64 j/\sz=.int .i64 ((if j=0 then 0 else if j=1 then la.length else la.length+lb.length:Nat):Int)/\wr=w)
 case atStart=>exact⟨0,rfl,rfl,rfl,rfl⟩
 case round=>
  obtain⟨j,hj,rfl,rfl,rfl⟩:=hrel;obtain⟨g0,g1⟩:=G.out;rcases(by omega:j=0\/j=1\/j=2)with rfl|rfl|rfl
  .simp only[if_true];have q:decide (((0:Nat):Int)+(la.length:Int)<0)=false:=by simp only[qYq];omega
   go_wp2
   go_roundg 1
   case measure=>omega
   case rel=>exact⟨1,rfl,rfl,oe,rfl⟩
  .have e1:(if(1:Nat)=0 then 0 else if(1:Nat)=1 then la.length else la.length+lb.length)=la.length:=rfl;rw[e1];clear e1;have q:decide ((la.length:Int)+(lb.length:Int)<0)=false:=by simp only[qYq];omega
   go_wp2
   go_roundg 0
   case measure=>omega
   case rel=>exact⟨2,rfl,rfl,oe,rfl⟩
  .have e1:(if(2:Nat)=0 then 0 else if(2:Nat)=1 then la.length else la.length+lb.length)=la.length+lb.length:=rfl;rw[e1];clear e1;go_wp2_with fail
   refine(Qv (la.length+lb.length) hle _).mono ?_;rintro e w1 ⟨v1,rfl,hs1,hf1,hb1⟩;have S1:=Y3 hs1 hf1 hb1;clear hs1 hf1 hb1;obtain⟨wb,rfl⟩:∃wb:World,wb=wr:=⟨_,rfl⟩
   obtain⟨go,hgo⟩:∃x,x=gk:=⟨_,rfl⟩
   clear hgo hj;go_wp2
   go_loopg[6,27] 2 (fun g v i wr=>∃j:Nat,j+g=2/\i=.int .i64 j/\∃ls:List Int,ls=(if j=0 then[]else if j=1 then la else la++lb)/\Sl wr 3 1 v ls.length (ints ls)/\From wb.heap.size v/\Below wb.heap.size wb wr)
   case atStart=>exact⟨0,rfl,rfl,[],rfl,S1.out.1,S1.out.2.1,S1.out.2.2⟩
   case round=>
    obtain⟨j,hj,rfl,ls,rfl,hs,hf,hb⟩:=hrel;have S2:=Y3 hs hf hb;have hblt:gs<wb.heap.size:=zd HG.o;have g0:=(hb.cell (p:=⟨gs,0,none⟩) hblt).trans G.out.1;have g1:=(hb.cell (p:=⟨gs,1,none⟩) hblt).trans G.out.2;clear hs hf hb;rcases(by omega:j=0\/j=1\/j=2)with rfl|rfl|rfl
    .have H1:Hid (Sl wr 3 1 u6 ([]:List Int).length (ints [])):=S2.out.1;go_wp2_with (at_builtin;refine zI rfl _ _ 87 rfl i0 (.int .i64 0) 8 underlying87 hi0 hz0 hz1 hz2 rfl de rfl H1.o _ la.length (ints la) rfl (HA.o.below S2.out.2.2) (ui _) (by unfold maxLen;simp;omega) og ?_)
     intro v2 w2 hs2 hu2 hb2;go_wp2
     go_roundg 1
     case measure=>omega
     case rel=>exact⟨1,rfl,rfl,la,rfl,by simpa using hs2,hb2.ge S2.out.2.2.size S2.out.2.1,zj S2.out.2.2 hu2 (qXo _) S2.out.2.1.own⟩
    .have H1:Hid (Sl wr 3 1 u6 la.length (ints la)):=S2.out.1;go_wp2_with (at_builtin;refine zI rfl _ _ 87 rfl i0 (.int .i64 0) 8 underlying87 hi0 hz0 hz1 hz2 rfl de rfl H1.o _ lb.length (ints lb) rfl (HB.o.below S2.out.2.2) (ui _) oj oM ?_)
     intro v2 w2 hs2 hu2 hb2;go_wp2
     go_roundg 0
     case measure=>omega
     case rel=>exact⟨2,rfl,rfl,la++lb,rfl,by simpa using hs2,hb2.ge S2.out.2.2.size S2.out.2.1,zj S2.out.2.2 hu2 (qXo _) S2.out.2.1.own⟩
    .go_wp2
     go_ret
     exact⟨_,rfl,by simpa using S2.out.1,S2.out.2.1,S2.out.2.2⟩
structure CkGood(most few:Nat)(K:List Int)(A:Int->Bool)(G:List Int):Prop where
 kr:∀x∈K,InR x
 gr:∀x∈G,InR x
 kd:K.Nodup
 gd:G.Nodup
 dis:∀x∈K,x∉G
 ask:∀x,A x=true->x∈K
 kl:K.length<=most
 gl:G.length<=few
 ml:most<=1024
 fl:few<=1024
 m1:1<=most
structure CkMem(w:World)(b mb N:Nat)(vk vg:Value)(most few:Nat)(K:List Int)(A:Int->Bool)(G:List Int):Prop where
 str:w.heap[b]?=some (.cells #[.int .i64 most,.int .i64 few,vk,.map (some mb),vg] 332 (0,0))
 ks:Sl w 3 1 vk K.length (ints K)
 gs:Sl w 3 1 vg G.length (ints G)
 set:SetAt w mb N A
 kb:vk.ownBlock≠some b
 gb:vg.ownBlock≠some b
 km:vk.ownBlock≠some mb
 gm:vg.ownBlock≠some mb
 bm:mb≠b
 kg:Dis vk vg
structure CkAt(w:World)(b mb N:Nat)(vk vg:Value)(most few:Nat)(K:List Int)(A:Int->Bool)(G:List Int):Prop extends CkMem w b mb N vk vg most few K A G where
 good:CkGood most few K A G
def Qw(b mb:Nat)(vk vg:Value):Nat->Prop:=fun j=>j=b\/j=mb\/vk.ownBlock=some j\/vg.ownBlock=some j
section
variable{w w':World}{b mb N most few:Nat}{vk vg:Value}{K G:List Int}{A:Int->Bool}
theorem CkMem.keep(h:CkMem w b mb N vk vg most few K A G){S:Nat->Prop}(hu:Upd S w w')(hs:∀j,Qw b mb vk vg j->¬S j):CkMem w' b mb N vk vg most few K A G:=
 {h with
  str:=(hu.block _ (zd h.str) (hs b (.inl rfl))).trans h.str
  ks:=h.ks.keep hu (fun g hg=>hs g (.inr (.inr (.inl hg))))
  gs:=h.gs.keep hu (fun g hg=>hs g (.inr (.inr (.inr hg))))
  set:=SetAt.keep h.set hu (hs mb (.inr (.inl rfl)))}
theorem CkMem.below(h:CkMem w b mb N vk vg most few K A G)(hb:Below w.heap.size w w'):CkMem w' b mb N vk vg most few K A G:=
 h.keep (uuo (S:=fun _=>False) hb) (fun _ _ h=>h)
theorem CkAt.keep(h:CkAt w b mb N vk vg most few K A G){S:Nat->Prop}(hu:Upd S w w')(hs:∀j,Qw b mb vk vg j->¬S j):CkAt w' b mb N vk vg most few K A G:=
 {h with
  str:=(hu.block _ (zd h.str) (hs b (.inl rfl))).trans h.str
  ks:=h.ks.keep hu (fun g hg=>hs g (.inr (.inr (.inl hg))))
  gs:=h.gs.keep hu (fun g hg=>hs g (.inr (.inr (.inr hg))))
  set:=SetAt.keep h.set hu (hs mb (.inr (.inl rfl)))}
theorem CkAt.below(h:CkAt w b mb N vk vg most few K A G)(hb:Below w.heap.size w w'):CkAt w' b mb N vk vg most few K A G:=
 h.keep (uuo (S:=fun _=>False) hb) (fun _ _ h=>h)
theorem CkAt.mono(h:CkAt w b mb N vk vg most few K A G){N':Nat}(hn:N<=N'):CkAt w b mb N' vk vg most few K A G:={h with set:=h.set.mono hn}
theorem CkAt.blt(h:CkAt w b mb N vk vg most few K A G):b<w.heap.size:=zd h.str
theorem CkAt.slt(h:CkAt w b mb N vk vg most few K A G):∀j,Qw b mb vk vg j->j<w.heap.size:=by
 rintro j (rfl|rfl|hj|hj)
 .exact h.blt
 .exact h.set.lt
 .exact h.ks.lt hj
 .exact h.gs.lt hj
theorem CkAt.kle(h:CkAt w b mb N vk vg most few K A G):K.length<=1024:=qXq h.good.kl h.good.ml
theorem CkAt.gle(h:CkAt w b mb N vk vg most few K A G):G.length<=1024:=qXq h.good.gl h.good.fl
end
theorem CkGood.start{m f:Nat}(h1:1<=m)(h2:m<=1024)(h3:f<=1024):CkGood m f [] (fun _=>false) []:=
 {kr:=oe,gr:=oe,kd:=oe,gd:=oe,dis:=oe,ask:=oe,kl:=oe,gl:=oe,ml:=h2,fl:=h3,m1:=h1}
theorem Zq{l:List Int}{k:Int}(h:k∈l):∃i:Nat,∃hi:i<l.length,idxI l k=i/\l[i]=k/\∀j (hj:j<l.length),j<i->l[j]≠k:=by
 unfold idxI;cases hf:l.findIdx? (·==k)with
 |none=>
  rw[List.findIdx?_eq_none_iff]at hf;have:=hf k h;simp at this
 |some i=>
  rw[List.findIdx?_eq_some_iff_getElem]at hf;obtain⟨hi,he,hb⟩:=hf;exact⟨i,hi,rfl,by simpa using he,fun j _ hji=>by simpa using hb j hji⟩
theorem uj{l:List Int}{k:Int}(h:k∉l):idxI l k= -1:=sk (fun _ hj e=>h (e▸qyu hj))
theorem Js(m f:Nat)(w:World)(h1:1<=m)(h2:m<=1024)(h3:f<=1024):
  Calls prog 143 #[.int .i64 m,.int .i64 f] w fun e w'=>∃b mb,e=.returned (.tuple #[.pointer (some ⟨b,0,none⟩),.int .i64 0])/\
   CkAt w' b mb 0 (.slice none 0 0) (.slice none 0 0) m f [] (fun _=>false) []/\w.heap.size<=b/\w.heap.size<=mb/\Below w.heap.size w w':=by
 have hmm:= @run_makeMap prog;have q1:¬((m:Int)<1):=oM;have q2:¬((1024:Int)<m):=oM;have q3:¬((f:Int)<0):=oM;have q4:¬((1024:Int)<f):=oM;have HM:=Y3 h1 h2 h3;clear h1 h2 h3;go_enter func143,ntmps143
 go_wp2
 go_ret2
 have hU:=Upd.alloc (uur (fun _=>False) w) (.map #[] 0);have hz:(w.alloc (.map #[] 0)).heap.size=w.heap.size+1:=oe;refine⟨w.heap.size+1,rfl,w.heap.size,⟨⟨zc _ _ hz.symm,Sl.nil _ _ _,Sl.nil _ _ _,(SetAt.made w).keep (Upd.alloc (uur (fun _=>False) _) _) id,by simp[Value.ownBlock],by simp[Value.ownBlock],by simp[Value.ownBlock],by simp[Value.ownBlock],oM,Dis.nil _ _ _⟩,CkGood.start HM.o.1 HM.o.2.1 HM.o.2.2⟩,oM,qXo _,(hU.alloc _).below⟩
def touchC(K:List Int)(k:Int):Int:=if k∈K then 0 else 14
theorem CkGood.touch{most few:Nat}{K G:List Int}{A:Int->Bool}(h:CkGood most few K A G){k:Int}(hk:k∈K):CkGood most few K (updB A k true) G:=by
 have ha:∀x,updB A k true x=true->x∈K:=by
  intro x hx;by_cases e:x=k
  .exact e▸hk
  .simp only[updB,if_neg e]at hx;exact h.ask x hx
 exact{h with ask:=ha}
theorem Wf{w:World}{b mb N most few:Nat}{vk vg:Value}{K G:List Int}{A:Int->Bool}(h:CkAt w b mb N vk vg most few K A G)(k:Int)(hN:N<maxLen):
  Calls prog 387 #[.pointer (some ⟨b,0,none⟩),.int .i64 k] w fun e w'=>e=.returned (.int .i64 (touchC K k))/\
   CkAt w' b mb (N+1) vk vg most few K (if k∈K then updB A k true else A) G/\Upd (fun j=>j=mb) w w':=by
 have H:=qqh h;have HR:=qqh h.ks.rd;have hle:=h.kle;have g2:=za h.str 2;have g3:=za h.str 3;simp at g2 g3;have hblt:=h.blt;by_cases hk:k∈K
 .obtain ⟨i,hi,hix,_⟩:=Zq hk;obtain⟨ao,c,rfl⟩:=h.ks.rd.jU;have e1:touchC K k=0:=if_pos hk;rw[e1,if_pos hk];have HK:=qqh hk;clear h e1 hk;have q:decide ((i:Int)<0)=false:=by simp only[qYq];omega
  go_enter func387,ntmps387
  go_wp2_with fail
  refine(xf HR.o oM k).mono ?_;rintro e w1 ⟨rfl,hb1⟩;rw[hix];have H1:=qqh (H.o.below hb1);have k3:=(hb1.cell (p:=⟨b,3,none⟩) hblt).trans g3;obtain⟨w2,hrun,hs2,hu2,hz2⟩:=SetAt.store H1.o.set (x:=k) (H.o.good.kr k HK.o) hN;have S2:=Y3 hs2 hu2 hz2;have B1:=qqh hb1;clear hs2 hu2 hz2 hb1;go_wp2
  go_ret
  refine⟨rfl,?_,(uuo B1.out).trans (S2.out.2.1)⟩;exact{H1.o with
   str:=(S2.out.2.1.block b H1.o.blt H1.o.bm.symm).trans H1.o.str
   ks:=H1.o.ks.keep S2.out.2.1 (fun g hg e=>H1.o.km jR)
   gs:=H1.o.gs.keep S2.out.2.1 (fun g hg e=>H1.o.gm jR)
   set:=S2.out.1
   good:=H1.o.good.touch HK.o}
 .have hix:=uj hk;obtain⟨ao,c,rfl⟩:=h.ks.rd.jU;have e1:touchC K k=14:=if_neg hk;rw[e1,if_neg hk];clear h e1 hk;go_enter func387,ntmps387
  go_wp2_with fail
  refine(xf HR.o oM k).mono ?_;rintro e w1 ⟨rfl,hb1⟩;rw[hix];go_wp2
  go_ret
  exact⟨rfl,(H.o.below hb1).mono oM,uuo hb1⟩
section
variable{w w' w2:World}{b mb N most few:Nat}{vk vg v2:Value}{K G K' G':List Int}{A A':Int->Bool}
theorem CkMem.c(h:CkMem w b mb N vk vg most few K A G):w.cell? ⟨b,0,none⟩=some (.int .i64 most)/\w.cell? ⟨b,1,none⟩=some (.int .i64 few)/\w.cell? ⟨b,2,none⟩=some vk/\
  w.cell? ⟨b,3,none⟩=some (.map (some mb))/\w.cell? ⟨b,4,none⟩=some vg:=by
 refine⟨?_,?_,?_,?_,?_⟩<;>rw[za h.str]<;>rfl
theorem CkMem.fz(h:CkMem w b mb N vk vg most few K A G)(i:Nat):w.frozen? ⟨b,i,none⟩=false:=zf h.str i
theorem uk{w:World}{v v':Value}{x:Nat}(h:blockFrom w v v')(hv:v.ownBlock≠some x)(hx:x<w.heap.size):v'.ownBlock≠some x:=by
 intro e;rcases h with h|⟨g,h,hg⟩
 .exact hv (by rw[<-h,e])
 .rw [h]at e;cases e;omega
theorem CkMem.setKeys(h:CkMem w b mb N vk vg most few K A G)(hu:Upd (ownS vk) w w2)(h2:Sl w2 3 1 v2 K'.length (ints K'))(hbf:blockFrom w vk v2):
  CkMem (w2.setCell ⟨b,2,none⟩ v2) b mb N v2 vg most few K' A G:=by
 have hb2:v2.ownBlock≠some b:=uk hbf h.kb (zd h.str);have hm2:v2.ownBlock≠some mb:=uk hbf h.km h.set.lt;have hstr:w2.heap[b]?=_:=(hu.block b (zd h.str) (fun e=>h.kb e)).trans h.str;exact{
  str:=zh hstr 2 v2
  ks:=h2.ky (zi _ _ _ _) hb2
  gs:=(h.gs.kz h.kg.symm hu).ky (zi _ _ _ _) h.gb
  set:=(h.set.keep hu (fun e=>h.km e)).keep (zi _ _ _ _) h.bm
  kb:=hb2
  gb:=h.gb
  km:=hm2
  gm:=h.gm
  bm:=h.bm
  kg:=h.kg.from hbf (fun g hg=>h.gs.lt hg)}
theorem CkMem.updKeys(_:CkMem w b mb N vk vg most few K A G)(hu:Upd (ownS vk) w w2):Upd (Qw b mb vk vg) w (w2.setCell ⟨b,2,none⟩ v2):=
 (hu.mono (fun _k _ hk=> .inr (.inr (.inl hk)))).trans (Upd.mono (zi _ _ _ _) (fun _k _ hk=> .inl hk))
theorem CkMem.setGhosts(h:CkMem w b mb N vk vg most few K A G)(hu:Upd (ownS vg) w w2)(h2:Sl w2 3 1 v2 G'.length (ints G'))(hbf:blockFrom w vg v2):
  CkMem (w2.setCell ⟨b,4,none⟩ v2) b mb N vk v2 most few K A G':=by
 have hb2:v2.ownBlock≠some b:=uk hbf h.gb (zd h.str);have hm2:v2.ownBlock≠some mb:=uk hbf h.gm h.set.lt;have hstr:w2.heap[b]?=_:=(hu.block b (zd h.str) (fun e=>h.gb e)).trans h.str;exact{
  str:=zh hstr 4 v2
  ks:=(h.ks.kz h.kg hu).ky (zi _ _ _ _) h.kb
  gs:=h2.ky (zi _ _ _ _) hb2
  set:=(h.set.keep hu (fun e=>h.gm e)).keep (zi _ _ _ _) h.bm
  kb:=h.kb
  gb:=hb2
  km:=h.km
  gm:=hm2
  bm:=h.bm
  kg:=(h.kg.symm.from hbf (fun g hg=>h.ks.lt hg)).symm}
theorem CkMem.updGhosts(_:CkMem w b mb N vk vg most few K A G)(hu:Upd (ownS vg) w w2):Upd (Qw b mb vk vg) w (w2.setCell ⟨b,4,none⟩ v2):=
 (hu.mono (fun _k _ hk=> .inr (.inr (.inr hk)))).trans (Upd.mono (zi _ _ _ _) (fun _k _ hk=> .inl hk))
theorem CkMem.setAsked(h:CkMem w b mb N vk vg most few K A G){N':Nat}(hu:Upd (fun j=>j=mb) w w2)(h2:SetAt w2 mb N' A'):CkMem w2 b mb N' vk vg most few K A' G:=
 {h with
  str:=(hu.block b (zd h.str) h.bm.symm).trans h.str
  ks:=h.ks.keep hu (fun g hg e=>h.km jR)
  gs:=h.gs.keep hu (fun g hg e=>h.gm jR)
  set:=h2}
end
def Ck(S:Nat->Prop)(w:World)(b N most few:Nat)(K:List Int)(A:Int->Bool)(G:List Int):Prop:=
 ∃mb vk vg,CkAt w b mb N vk vg most few K A G/\∀j,Qw b mb vk vg j->S j
section
variable{S:Nat->Prop}{w w' w2:World}{b N most few:Nat}{K G:List Int}{A:Int->Bool}
theorem Ck.keep(h:Ck S w b N most few K A G){T:Nat->Prop}(hu:Upd T w w')(hs:∀j,S j->¬T j):Ck S w' b N most few K A G:=by
 obtain⟨mb,vk,vg,h,hS⟩:=h;exact⟨mb,vk,vg,h.keep hu (fun j hj=>hs j (hS j hj)),hS⟩
theorem Ck.new(h:Ck S w b N most few K A G)(hu:Upd (fun _=>False) w w'):Ck S w' b N most few K A G:=h.keep hu (fun _ _ h=>h)
theorem Ck.below(h:Ck S w b N most few K A G)(hb:Below w.heap.size w w'):Ck S w' b N most few K A G:=h.new (uuo hb)
theorem Ck.mono(h:Ck S w b N most few K A G){N':Nat}(hn:N<=N'):Ck S w b N' most few K A G:=by
 obtain⟨mb,vk,vg,h,hS⟩:=h;exact⟨mb,vk,vg,h.mono hn,hS⟩
theorem Ck.out(h:Ck S w b N most few K A G){S':Nat->Prop}(hs:∀j,j<w.heap.size->S j->S' j):Ck S' w b N most few K A G:=by
 obtain⟨mb,vk,vg,h,hS⟩:=h;exact⟨mb,vk,vg,h,fun j hj=>hs j (h.slt j hj) (hS j hj)⟩
end
theorem tC{l:List Int}{k:Int}{i:Nat}(hi:i<l.length)(he:l[i]=k)(hb:∀j (h:j<l.length),j<i->l[j]≠k):l.eraseIdx i=l.erase k:=by
 induction l generalizing i with
 |nil=>simp at hi
 |cons x l ih=>
  cases i with
  |zero=>
   have he':x=k:=he;subst he';simp
  |succ i=>
   have hx:x≠k:=hb 0 oe oM;rw[List.eraseIdx_cons_succ,List.erase_cons_tail (by simpa using hx),ih ox (by simpa using he) (fun j hj hji=>hb (j+1) oz oM)]
def addC(most:Nat)(K:List Int)(k:Int):Int:=if k∈K then 15 else if K.length=most then 17 else 0
def rS(most:Nat)(K:List Int)(k:Int):List Int:=if k∈K\/K.length=most then K else K++[k]
def agA(A:Int->Bool)(G:List Int)(k:Int):Int->Bool:=if k∈G then updB A k true else A
def UT(most:Nat)(K:List Int)(A:Int->Bool)(G:List Int)(k:Int):Int->Bool:=if k∈K\/K.length=most then A else agA A G k
def UU(most:Nat)(K:List Int)(G:List Int)(k:Int):List Int:=if k∈K\/K.length=most then G else G.erase k
section
variable{most few:Nat}{K G:List Int}{A:Int->Bool}
theorem CkGood.push(h:CkGood most few K A G){k:Int}(hk:k∉K)(hl:K.length≠most)(hG:k∉G)(hr:InR k):CkGood most few (K++[k]) A G:={
 kr:=by intro x hx;rcases qzl.1 hx with h1|h1;exact h.kr x h1;simp at h1;exact h1▸hr
 gr:=h.gr
 kd:=by rw[qzv];exact⟨h.kd,oe,by intro x hx y hy e;simp at hy;subst hy;exact hk (e▸hx)⟩
 gd:=h.gd
 dis:=by intro x hx;rcases qzl.1 hx with h1|h1;exact h.dis x h1;simp at h1;exact h1▸hG
 ask:=fun x hx=>qzl.2 (.inl (h.ask x hx))
 kl:=by have:=h.kl;simp;omega
 gl:=h.gl
 ml:=h.ml
 fl:=h.fl
 m1:=h.m1}
theorem CkGood.drop(h:CkGood most few K A G)(k:Int):CkGood most few (K.erase k) (updB A k false) G:={
 kr:=fun x hx=>h.kr x (qzr hx)
 gr:=h.gr
 kd:=h.kd.erase k
 gd:=h.gd
 dis:=fun x hx=>h.dis x (qzr hx)
 ask:=fun x hx=>by
  by_cases e:x=k
  .subst e;simp[updB]at hx
  .simp only[updB,if_neg e]at hx;exact(List.mem_erase_of_ne e).2 (h.ask x hx)
 kl:=qXq (List.length_erase_le) h.kl
 gl:=h.gl
 ml:=h.ml
 fl:=h.fl
 m1:=h.m1}
theorem CkGood.erase(h:CkGood most few K A G)(k:Int):CkGood most few K A (G.erase k):={h with
 gr:=fun x hx=>h.gr x (qzr hx)
 gd:=h.gd.erase k
 dis:=fun x hx hg=>h.dis x hx (qzr hg)
 gl:=qXq (List.length_erase_le) h.gl}
end
theorem Jt{S:Nat->Prop}{w:World}{b N most few:Nat}{K G:List Int}{A:Int->Bool}(h:Ck S w b N most few K A G)(k:Int)(hk:k∈K\/K.length=most):
  Calls prog 216 #[.pointer (some ⟨b,0,none⟩),.int .i64 k] w fun e w'=>e=.returned (.int .i64 (addC most K k))/\Below w.heap.size w w':=by
 obtain⟨mb,vk,vg,h,-⟩:=h;have HR:=qqh h.ks.rd;have hle:=h.kle;have hblt:=h.blt;obtain⟨g0,-,g2,-,-⟩:=h.c;obtain⟨ao,c,rfl⟩:=h.ks.rd.jU;clear h;by_cases hkK:k∈K
 .obtain ⟨i,hi,hix,_⟩:=Zq hkK;have e1:addC most K k=15:=if_pos hkK;rw[e1];clear e1 hk hkK g0;go_enter func216,ntmps216
  go_wp2_with fail
  refine(xf HR.o oM k).mono ?_;rintro e w1 ⟨rfl,hb1⟩;rw[hix];go_wp2
  go_ret
  exact⟨rfl,hb1⟩
 .have hm:K.length=most:=hk.resolve_left hkK;have hix:=uj hkK;have e1:addC most K k=17:=by unfold addC;rw[if_neg hkK,if_pos hm]
  rw[e1];have q:((K.length:Int)==(most:Int))=true:=by simp;omega
  clear e1 hk hkK hm;go_enter func216,ntmps216
  go_wp2_with fail
  refine(xf HR.o oM k).mono ?_;rintro e w1 ⟨rfl,hb1⟩;rw[hix];have k0:=(hb1.cell (p:=⟨b,0,none⟩) hblt).trans g0;have k2:=(hb1.cell (p:=⟨b,2,none⟩) hblt).trans g2;go_wp2
  go_quiet(fail)
  go_wp2
  go_ret
  exact⟨rfl,zQ hb1 _⟩
theorem Qx{S:Nat->Prop}{w:World}{b N most few:Nat}{K G:List Int}{A:Int->Bool}(h:Ck S w b N most few K A G)(hn:∀j,w.heap.size<=j->S j)(k:Int)(hr:InR k)(hN:N<maxLen)(hk:k∉K)(hl:K.length≠most):
  Calls prog 216 #[.pointer (some ⟨b,0,none⟩),.int .i64 k] w fun e w'=>e=.returned (.int .i64 0)/\
   Ck S w' b (N+1) most few (K++[k]) (agA A G k) (G.erase k)/\Upd S w w':=by
 obtain⟨i0,hi0,hz0,hz1,hz2⟩:=qYs vq;obtain⟨mb,vk,vg,h,hS⟩:=h;have HN:=qqh hn;have HS:=qqh hS;have HR:=qqh h.ks.rd;have hle:=h.kle;have hgle:=h.gle;have hix:=uj hk;have HH:=qqh h;have HK:=Y2 hk hl;obtain⟨g0,-,g2,-,-⟩:=h.c;have q:((K.length:Int)==(most:Int))=false:=by simp;omega
 clear h hk hn hS hl;go_enter func216,ntmps216
 go_wp2_with fail
 refine(xf HR.o oM k).mono ?_;rintro e w1 ⟨rfl,hb1⟩;rw[hix];have H1:=HH.o.below hb1;have HU1:=qqh (uuo (S:=S) hb1);clear g0 g2 HR;obtain⟨g0,-,g2,-,-⟩:=H1.c;obtain⟨ao,c,hvk⟩:=H1.ks.rd.jU;have HV:=qqh hvk;rw[hvk]at g2;have H1:=qqh H1;clear hvk hb1 HH;go_wp2
 go_quiet(fail)
 generalize hw2:w1.drewN nq=w2;have hu2:Upd (fun _=>False) w1 w2:=by rw[<-hw2];exact(uur _ _).drewN nq
 have H2:=H1.o.keep hu2 (fun _ _ h=>h);have HU2:=qqh (HU1.o.trans (hu2.mono fE));clear hw2 hu2 g0 g2;obtain⟨-,-,g2,-,-⟩:=H2.c;have H2:=qqh H2;go_wp2_with (at_builtin;refine zG rfl _ _ 87 rfl i0 (.int .i64 0) 8 underlying87 hi0 hz0 hz1 hz2 rfl de rfl H2.o.ks [.int .i64 k] rfl rfl (by intro u hu;simp at hu;subst hu;rfl) oj oM ?_)
 intro v3 w3 hs3 hu3 hbf3;obtain⟨ao3,p3,rfl⟩:=hs3.rd.jU;have hgood:Hid (∀(hG:k∉G),CkGood most few (K++[k]) A G):=fun hG=>H2.o.good.push HK.o.1 HK.o.2 hG hr;have hs3':Sl w3 3 1 (.slice ao3 (K.length+1) p3) (K++[k]).length (ints (K++[k])):=by simpa using hs3
 have hstr3:=(hu3.block b H2.o.blt (fun e=>H2.o.kb e)).trans H2.o.str;have c2:=za hstr3 2;have c4:=za hstr3 4;have f2:=zf hstr3 2;simp at c2 c4;have HG3:=qqh (H2.o.gs.kz H2.o.kg.symm hu3);have HG4:=qqh ((HG3.o.ky (zi w3 b 2 (.slice ao3 (K.length+1) p3)) H2.o.gb).rd);have S3:=Y4 hs3' hu3 hbf3 hstr3;clear hs3 hs3' hu3 hbf3 hstr3;go_wp2_with fail
 refine(xf HG4.o oM k).mono ?_;rintro e w4 ⟨rfl,hb4⟩;have HB4:=qqh hb4;have HU4:Hid (Upd S w w4):=(HU2.o.trans ((CkMem.updKeys (v2:=.slice ao3 (K.length+1) p3) H2.o.toCkMem S3.out.2.1).mono (fun j _ hj=>HS.o j hj))).trans (uuo hb4);have hM:CkMem w4 b mb N (.slice ao3 (K.length+1) p3) vg most few (K++[k]) A G:=(H2.o.toCkMem.setKeys S3.out.2.1 S3.out.1 S3.out.2.2.1).below hb4;have hz1:w.heap.size<=w4.heap.size:=HU4.o.size;have hS4:Hid (∀j,Qw b mb (.slice ao3 (K.length+1) p3) vg j->S j):=by
  intro j hj;rcases hj with h1|h1|h1|h1
  .exact HS.o j (.inl h1)
  .exact HS.o j (.inr (.inl h1))
  .rcases S3.out.2.2.1 with h2|⟨g,h2,h3⟩
   .exact HS.o j (.inr (.inr (.inl (by rw[<-h2];exact h1))))
   .rw [h2]at h1;cases h1;exact HN.o _ (qXq HU2.o.size h3)
  .exact HS.o j (.inr (.inr (.inr h1)))
 have HM:=qqh hM;clear hb4 c2 c4 f2 HG3 HG4 hM;by_cases hG:k∈G
 .obtain ⟨i,hi,hie,hiv,hib⟩:=Zq hG;rw[hie];have HE:Hid (G.eraseIdx i=G.erase k):=tC hi hiv hib;have c4:=za HM.o.str 4;simp at c4;have HGG:=qqh hG;clear hie hiv hib hG;go_wp2_with fail
  refine(Zp HM.o.gs oM hi).mono ?_;rintro e w5 ⟨v5,rfl,hbe,hs5,hu5⟩;obtain⟨ao5,p5,rfl⟩:=hs5.rd.jU;have hM5:=HM.o.setGhosts hu5 hs5 (.inl hbe);have hU5:=HM.o.updGhosts (v2:=.slice ao5 (G.eraseIdx i).length p5) hu5;have hstr5:=(hu5.block b (zd HM.o.str) (fun e=>HM.o.gb e)).trans HM.o.str;have c4:=za hstr5 4;have c3:=za hstr5 3;have f4:=zf hstr5 4;simp at c4 c3;obtain⟨w6,hrun,hs6,hu6,hz6⟩:=SetAt.store hM5.set (x:=k) hr hN;have HM6:=qqh (hM5.setAsked hu6 hs6);have HU6:Hid (Upd S w w6):=(HU4.o.trans (hU5.mono (fun j _ hj=>hS4.out j hj))).trans (hu6.mono (fun j _ hj=>by subst hj;exact hS4.out _ (.inr (.inl rfl))));have HB:Hid ((Value.slice ao5 (G.eraseIdx i).length p5).ownBlock=vg.ownBlock):=hbe;clear hM5 hU5 hstr5 hs6 hu6 hz6 hs5 hu5 hbe;go_wp2
  go_ret
  have hgd:CkGood most few (K++[k]) (agA A G k) (G.erase k):=by
   have h1:=(H2.o.good.erase k).push HK.o.1 HK.o.2 (fun e=>absurd e H2.o.good.gd.not_mem_erase) hr;unfold agA;rw[if_pos HGG.o];exact h1.touch oe
  refine⟨rfl,⟨mb,.slice ao3 (K.length+1) p3,.slice ao5 (G.erase k).length p5,⟨?_,hgd⟩,?_⟩,HU6.o⟩
  .have:=HM6.o;rw[HE.o]at this;unfold agA;rw[if_pos HGG.o];exact this
  .intro j hj;rcases hj with h1|h1|h1|h1
   .exact hS4.out j (.inl h1)
   .exact hS4.out j (.inr (.inl h1))
   .exact hS4.out j (.inr (.inr (.inl h1)))
   .exact hS4.out j (.inr (.inr (.inr (by rw[<-HB.o,HE.o];exact h1))))
 .rw [uj hG];have HF:Hid (agA A G k=A/\G.erase k=G/\CkGood most few (K++[k]) A G):=⟨if_neg hG,List.erase_of_not_mem hG,hgood.out hG⟩
  clear hG;go_wp2
  go_ret
  rw[HF.o.1,HF.o.2.1];exact⟨rfl,⟨mb,_,vg,CkAt.mono ⟨HM.o,HF.o.2.2⟩ oM,hS4.out⟩,HU4.o⟩
theorem Qy{S:Nat->Prop}{w:World}{b N most few:Nat}{K G:List Int}{A:Int->Bool}(h:Ck S w b N most few K A G)(hn:∀j,w.heap.size<=j->S j)(k:Int)(hr:InR k)(hN:N<maxLen):
  Calls prog 216 #[.pointer (some ⟨b,0,none⟩),.int .i64 k] w fun e w'=>e=.returned (.int .i64 (addC most K k))/\
   Ck S w' b (N+1) most few (rS most K k) (UT most K A G k) (UU most K G k)/\Upd S w w':=by
 by_cases hk:k∈K\/K.length=most
 .refine (Jt h k hk).mono ?_;rintro e w' ⟨rfl,hb⟩;unfold rS UT UU;rw[if_pos hk,if_pos hk,if_pos hk];exact⟨rfl,(h.below hb).mono oM,uuo hb⟩
 .have h1:k∉K:=fun e=>hk (.inl e);have h2:K.length≠most:=fun e=>hk (.inr e);refine(Qx h hn k hr hN h1 h2).mono ?_;rintro e w' ⟨rfl,hc,hu⟩;unfold addC rS UT UU;rw[if_neg hk,if_neg hk,if_neg hk,if_neg h1,if_neg h2];exact⟨rfl,hc,hu⟩
def dropA(K:List Int)(A:Int->Bool)(k:Int):Int->Bool:=if k∈K then updB A k false else A
theorem UV{S:Nat->Prop}{w:World}{b N most few:Nat}{K G:List Int}{A:Int->Bool}(h:Ck S w b N most few K A G)(k:Int):
  Calls prog 313 #[.pointer (some ⟨b,0,none⟩),.int .i64 k] w fun e w'=>e=.returned (.int .i64 (touchC K k))/\
   Ck S w' b N most few (K.erase k) (dropA K A k) G/\Upd S w w':=by
 obtain⟨mb,vk,vg,h,hS⟩:=h;have H:=qqh h;have HS:=qqh hS;have HR:=qqh h.ks.rd;have hle:=h.kle;obtain⟨-,-,g2,g3,-⟩:=h.c;have hblt:=h.blt;clear h hS;by_cases hk:k∈K
 .obtain ⟨i,hi,hix,hiv,hib⟩:=Zq hk;have e1:touchC K k=0:=if_pos hk;have e2:dropA K A k=updB A k false:=if_pos hk;rw[e1,e2];have HK:=qqh hk;have HE:Hid (K.eraseIdx i=K.erase k):=tC hi hiv hib;clear e1 e2 hk hiv hib;have q:decide ((i:Int)<0)=false:=by simp only[qYq];omega
  go_enter func313,ntmps313
  go_wp2_with fail
  refine(xf HR.o oM k).mono ?_;rintro e w1 ⟨rfl,hb1⟩;rw[hix];have H1:=qqh (H.o.below hb1);have k2:=(hb1.cell (p:=⟨b,2,none⟩) hblt).trans g2;have B1:=qqh hb1;clear hb1 g2 g3;go_wp2_with fail
  refine(Zp H1.o.ks oM hi).mono ?_;rintro e w2 ⟨v2,rfl,hbe,hs2,hu2⟩;obtain⟨ao2,p2,rfl⟩:=hs2.rd.jU;have hM2:=H1.o.toCkMem.setKeys hu2 hs2 (.inl hbe);have hU2:=H1.o.toCkMem.updKeys (v2:=.slice ao2 (K.eraseIdx i).length p2) hu2;have hstr2:=(hu2.block b H1.o.blt (fun e=>H1.o.kb e)).trans H1.o.str;have c2:=za hstr2 2;have c3:=za hstr2 3;have f2:=zf hstr2 2;simp at c2 c3;obtain⟨w3,hrun,hs3,hu3,hz3⟩:=SetAt.drop hM2.set (x:=k) (H1.o.good.kr k HK.o) 0;have HM3:=qqh (hM2.setAsked hu3 hs3);have HU3:Hid (Upd S w w3):=((uuo B1.out).trans (hU2.mono (fun j _ hj=>HS.o j hj))).trans (hu3.mono (fun j _ hj=>by subst hj;exact HS.o _ (.inr (.inl rfl))));have HB:Hid ((Value.slice ao2 (K.eraseIdx i).length p2).ownBlock=vk.ownBlock):=hbe;clear hM2 hU2 hstr2 hs3 hu3 hz3 hs2 hu2 hbe;go_wp2
  go_ret
  refine⟨rfl,⟨mb,.slice ao2 (K.erase k).length p2,vg,⟨?_,H1.o.good.drop k⟩,?_⟩,HU3.o⟩
  .have:=HM3.o;rw[HE.o]at this;exact this
  .intro j hj;rcases hj with h1|h1|h1|h1
   .exact HS.o j (.inl h1)
   .exact HS.o j (.inr (.inl h1))
   .exact HS.o j (.inr (.inr (.inl (by rw[<-HB.o,HE.o];exact h1))))
   .exact HS.o j (.inr (.inr (.inr h1)))
 .have hix:=uj hk;have e1:touchC K k=14:=if_neg hk;have e2:dropA K A k=A:=if_neg hk;have e3:K.erase k=K:=List.erase_of_not_mem hk;rw[e1,e2,e3];clear e1 e2 e3 hk g3;go_enter func313,ntmps313
  go_wp2_with fail
  refine(xf HR.o oM k).mono ?_;rintro e w1 ⟨rfl,hb1⟩;rw[hix];go_wp2
  go_ret
  exact⟨rfl,⟨mb,vk,vg,H.o.below hb1,HS.o⟩,uuo hb1⟩
theorem UW{S:Nat->Prop}{w:World}{b N most few:Nat}{K G:List Int}{A:Int->Bool}(h:Ck S w b N most few K A G)(k:Int)(hN:N<maxLen):
  Calls prog 387 #[.pointer (some ⟨b,0,none⟩),.int .i64 k] w fun e w'=>e=.returned (.int .i64 (touchC K k))/\
   Ck S w' b (N+1) most few K (agA A K k) G/\Upd S w w':=by
 obtain⟨mb,vk,vg,h,hS⟩:=h;refine(Wf h k hN).mono ?_;rintro e w' ⟨rfl,hc,hu⟩;exact⟨rfl,⟨mb,vk,vg,hc,hS⟩,hu.mono (fun j _ hj=>by subst hj;exact hS _ (.inr (.inl rfl)))⟩
theorem Ju{S:Nat->Prop}(m f:Nat)(w:World)(h1:1<=m)(h2:m<=1024)(h3:f<=1024)(hn:∀j,w.heap.size<=j->S j):
  Calls prog 143 #[.int .i64 m,.int .i64 f] w fun e w'=>∃b,e=.returned (.tuple #[.pointer (some ⟨b,0,none⟩),.int .i64 0])/\
   Ck S w' b 0 m f [] (fun _=>false) []/\w.heap.size<=b/\Below w.heap.size w w':=by
 refine(Js m f w h1 h2 h3).mono ?_;rintro e w' ⟨b,mb,rfl,hc,hb,hmb,hB⟩;refine⟨b,rfl,⟨mb,_,_,hc,?_⟩,hb,hB⟩;rintro j (rfl|rfl|hj|hj)
 .exact hn _ hb
 .exact hn _ hmb
 .cases hj
 .cases hj
abbrev zN(s:Int)(d:Bool):Value:=.agg #[.int .i64 s,.bool d]
theorem yS(w:World):Calls prog 211 #[] w fun e w'=>e=.returned (zN (-1) false)/\Upd (fun _=>False) w w'/\w'.heap.size=w.heap.size+1:=by
 go_enter func211,ntmps211
 go_wp2
 have hA:=zc w (.cells #[.int .i64 (-1),.bool false] 256) rfl;have c0:=za hA 0;have c1:=za hA 1;simp at c0 c1;refine qYp (v:=zN (-1) false) ?_ rfl ⟨rfl,(uur _ _).alloc _,oe⟩;simp[results,results211,go_sem]
def plC(l:List (Int×Bool)):List Value:=l.flatMap fun p=>[.int .i64 p.1,.bool p.2]
theorem Jv(l:List (Int×Bool)):(plC l).length=l.length*2:=yE (f:=fun p:Int×Bool=>[Value.int .i64 p.1,Value.bool p.2]) (k:=2) (fun _=>rfl) l
theorem wL{l:List (Int×Bool)}{k:Nat}(h:k<l.length):(plC l)[k*2]?=some (.int .i64 l[k].1)/\(plC l)[k*2+1]?=some (.bool l[k].2):=
 ⟨Zk (f:=fun p:Int×Bool=>[Value.int .i64 p.1,Value.bool p.2]) (k:=2) (fun _=>rfl) l k 0 de l[k] (qyj h),
  Zk (f:=fun p:Int×Bool=>[Value.int .i64 p.1,Value.bool p.2]) (k:=2) (fun _=>rfl) l k 1 de l[k] (qyj h)⟩
theorem Qz(n:Nat):noPl n=plC (List.replicate n (-1,false)):=by
 induction n with
 |zero=>rfl
 |succ n ih=>rw[Nat.add_comm n 1,qo,ih,<-List.replicate_append_replicate];simp[plC,noPl]
structure IndexAt(w:World)(b:Nat)(v:Value)(mb N:Nat)(ps:List (Int×Bool))(slots:Nat):Prop where
 str:w.heap[b]?=some (.cells #[v,.map (some mb),.int .i64 slots] 324 (0,0))
 sl:Sl w 256 2 v ps.length (plC ps)
 map:MapAt w mb N (atOf ps)
 good:Good ps slots
 ne:v.ownBlock≠some b
 nm:mb≠b
 nv:v.ownBlock≠some mb
 le:ps.length<=4096
 sl1:slots<=1024
def ixS(v:Value)(mb:Nat):Nat->Prop:=fun j=>v.ownBlock=some j\/j=mb
theorem IndexAt.keep{w w':World}{b mb N:Nat}{v:Value}{ps:List (Int×Bool)}{slots:Nat}(h:IndexAt w b v mb N ps slots){S:Nat->Prop}(hu:Upd S w w')(hb:¬S b)(hs:∀j,ixS v mb j->¬S j):IndexAt w' b v mb N ps slots:=
 {str:=(hu.block _ (zd h.str) hb).trans h.str,sl:=h.sl.keep hu (fun g hg=>hs g (.inl hg)),map:=h.map.keep hu (hs mb (.inr rfl)),good:=h.good,ne:=h.ne,nm:=h.nm,nv:=h.nv,le:=h.le,sl1:=h.sl1}
theorem IndexAt.below{w w':World}{b mb N:Nat}{v:Value}{ps:List (Int×Bool)}{slots:Nat}(h:IndexAt w b v mb N ps slots)(hb:Below w.heap.size w w'):IndexAt w' b v mb N ps slots:=
 h.keep (uuo (S:=fun _=>False) hb) id (fun _ _ h=>h)
theorem IndexAt.mono{w:World}{b mb N N':Nat}{v:Value}{ps:List (Int×Bool)}{slots:Nat}(h:IndexAt w b v mb N ps slots)(hn:N<=N'):IndexAt w b v mb N' ps slots:={h with map:=h.map.mono hn}
theorem IndexAt.blt{w:World}{b mb N:Nat}{v:Value}{ps:List (Int×Bool)}{slots:Nat}(h:IndexAt w b v mb N ps slots):b<w.heap.size:=zd h.str
theorem IndexAt.slt{w:World}{b mb N:Nat}{v:Value}{ps:List (Int×Bool)}{slots:Nat}(h:IndexAt w b v mb N ps slots):∀j,ixS v mb j->j<w.heap.size:=by
 rintro j (hj|rfl)
 .exact h.sl.lt hj
 .exact h.map.lt
theorem Jw(n s:Nat)(w:World)(h1:1<=n)(h2:n<=4096)(h3:1<=s)(h4:s<=1024):
  Calls prog 140 #[.int .i64 n,.int .i64 s] w fun e w'=>∃b v mb,e=.returned (.tuple #[.pointer (some ⟨b,0,none⟩),.int .i64 0])/\
   IndexAt w' b v mb 0 (List.replicate n (-1,false)) s/\w.heap.size<=b/\w.heap.size<=mb/\From w.heap.size v/\Below w.heap.size w w':=by
 have hmm:= @run_makeMap prog;go_enter func140,ntmps140
 go_wp2_with fail
 refine(yS _).mono ?_;rintro e w1 ⟨rfl,hu1,hz1⟩;have hx:(w1.alloc (.cells #[.int .i64 (-1),.bool false] 256)).heap[w.heap.size+1]?=some (.cells #[.int .i64 (-1),.bool false] 256):=zc _ _ hz1.symm;have HX:=qqh hx;clear hx;go_wp2_with fail
 refine(UG n (w.heap.size+1) _ h1 h2 HX.o).mono ?_;rintro e w2 ⟨rfl,hg2,hb2,hz2⟩;have hz2':w2.heap.size=w.heap.size+3:=by rw[hz2];simp[hz1]
 have hB2:Below w.heap.size w w2:=(zj (qxl _ w) (hu1.alloc (.cells #[.int .i64 (-1),.bool false] 256)) (qXo _) (fun _ h=>h.elim)).trans (hb2.mono (by simp[hz1];omega));have HG:=qqh hg2;have HB:=qqh hB2;clear hg2 hB2 hb2 hz2;go_wp2
 go_ret2
 have hM:=Upd.alloc (uur (fun _=>False) w2) (.map #[] 0);have hg2:w2.heap[w.heap.size+2]?=some (.cells (noPl n).toArray 256):=by have:=HG.o;simpa[hz1]using this
 have hsl:Sl w2 256 2 (.slice (some ⟨w.heap.size+2,0,none⟩) n n) (List.replicate n ((-1:Int),false)).length (plC (List.replicate n (-1,false))):=by
  rw[<-Qz];refine⟨by rw[yH];simp,.inr ⟨w.heap.size+2,0,n,(noPl n).toArray,oe,hg2,oe,by unfold maxLen;omega,by simp[yH],fun j u hj=>by simpa using hj⟩⟩
 have hmap:MapAt (w2.alloc (.map #[] 0)) (w.heap.size+3) 0 (atOf (List.replicate n (-1,false))):=by
  have:=MapAt.made w2;rw[hz2']at this;rw[XV];exact this
 refine⟨w.heap.size+3+1,.slice (some ⟨w.heap.size+2,0,none⟩) n n,w.heap.size+3,rfl,⟨zc _ _ (by simp[hz2']),?_,hmap.keep (Upd.alloc (uur (fun _=>False) _) _) id,Good.start n s,by simp[Value.ownBlock],oM,by simp[Value.ownBlock],by simp;omega,h4⟩,oM,oM,?_,?_⟩
 .exact hsl.keep (hM.alloc _) (fun _ _ h=>h)
 .intro g hg;simp[Value.ownBlock]at hg;omega
 .exact zj HB.o (hM.alloc _) (qXo _) (fun _ h=>h.elim)
def getV(ps:List (Int×Bool))(b:Int):Int×Bool:=if b<0\/(ps.length:Int)<=b then(0,false)else if ps.getD b.toNat (-1,false)=(-1,false)then(0,false)else ps.getD b.toNat (-1,false)
def getC(ps:List (Int×Bool))(b:Int):Int:=if b<0\/(ps.length:Int)<=b then 10 else if ps.getD b.toNat (-1,false)=(-1,false)then 14 else 0
theorem Jy{w:World}{b mb N:Nat}{v:Value}{ps:List (Int×Bool)}{slots:Nat}(h:IndexAt w b v mb N ps slots)(k:Int)(ho:k<0\/(ps.length:Int)<=k):
  Calls prog 173 #[.pointer (some ⟨b,0,none⟩),.int .i64 k] w fun e w'=>e=.returned (.tuple #[zN 0 false,.int .i64 10])/\Below w.heap.size w w':=by
 have hu:Upd (fun _=>False) w (w.alloc (.cells #[.int .i64 0,.bool false] 256)):=(uur _ _).alloc _;have hc0:=(hu.cellAt (o:=0) (zd h.str) id).trans (za h.str 0);simp at hc0;have hle:=h.le;have hA:=zc w (.cells #[.int .i64 0,.bool false] 256) rfl;have c0:=za hA 0;have c1:=za hA 1;simp at c0 c1;have C0:=qqh c0;have C1:=qqh c1;clear hA c0 c1;obtain⟨ao,c,rfl⟩:=h.sl.rd.jU;clear h;by_cases h0:k<0
 .clear ho;go_enter func173,ntmps173
  go_wp2
  refine qYp (v:=.tuple #[zN 0 false,.int .i64 10]) ?_ rfl ⟨rfl,(qxl _ _).alloc (qXo _) _⟩;simp[results,results173,go_sem]
 .have h1:(ps.length:Int)<=k:=oM;clear ho;go_enter func173,ntmps173
  go_wp2
  refine qYp (v:=.tuple #[zN 0 false,.int .i64 10]) ?_ rfl ⟨rfl,(qxl _ _).alloc (qXo _) _⟩;simp[results,results173,go_sem]
theorem IndexAt.at{w:World}{b mb N:Nat}{v:Value}{ps:List (Int×Bool)}{slots:Nat}(h:IndexAt w b v mb N ps slots){k:Nat}(hk:k<ps.length):
  ∃g off cap,v=.slice (some ⟨g,off,none⟩) ps.length cap/\g<w.heap.size/\w.cell? ⟨g,off+k*2,none⟩=some (.int .i64 ps[k].1)/\w.cell? ⟨g,off+k*2+1,none⟩=some (.bool ps[k].2):=by
 obtain⟨g,off,cap,cur,rfl,hg,_,hc⟩:=h.sl.at oM;exact⟨g,off,cap,rfl,zd hg,by rw[za hg];exact hc _ _ (wL hk).1,by rw[za hg];exact hc (k*2+1) _ (wL hk).2⟩
theorem YO{w:World}{b mb N:Nat}{v:Value}{ps:List (Int×Bool)}{slots:Nat}(h:IndexAt w b v mb N ps slots)(k:Nat)(hk:k<ps.length)(hp:ps[k].1≠-1):
  Calls prog 173 #[.pointer (some ⟨b,0,none⟩),.int .i64 k] w fun e w'=>e=.returned (.tuple #[zN ps[k].1 ps[k].2,.int .i64 0])/\Below w.heap.size w w':=by
 have hu:Upd (fun _=>False) w (w.alloc (.cells #[.int .i64 0,.bool false] 256)):=(uur _ _).alloc _;have hc0:=(hu.cellAt (o:=0) (zd h.str) id).trans (za h.str 0);simp at hc0;have hle:=h.le;have hbl:=zd h.str;obtain⟨g,off,cap,rfl,hg,q0,q1⟩:=h.at hk;have p0:=(hu.cellAt hg id).trans q0;have p1:=(hu.cellAt hg id).trans q1;have hA:=zc w (.cells #[.int .i64 0,.bool false] 256) rfl;have HA:=qqh hA;clear h q0 q1 hA;go_enter func173,ntmps173
 go_wp2
 go_region_held3 (fun W=>W.cell? ⟨b,0,none⟩=some (.slice (some ⟨g,off,none⟩) ps.length cap)/\W.cell? ⟨g,off+k*2,none⟩=some (.int .i64 ps[k].1)/\W.cell? ⟨g,off+k*2+1,none⟩=some (.bool ps[k].2)) (go_keep)
  ((go_at_call 211;refine(yS _).mono ?_;rintro e w2 ⟨rfl,hu2,hz2⟩;have k0:=(hu2.cellAt (o:=0) og id).trans hc0;have k1:=(hu2.cellAt og id).trans p0;have k2:=(hu2.cellAt og id).trans p1))
 have hb0:(ps[k].1== -1)=false:=by simpa using hp
 have hA2:w2.heap[w.heap.size]?=some (.cells #[.int .i64 0,.bool false] 256):=(hu2.block _ oe id).trans HA.o;have r0:=za hA2 0;have r1:=za hA2 1;have f0:=zf hA2 0;have f1:=zf hA2 1;simp at r0 r1;have HA2:=qqh hA2;clear hA2;go_wp2
 have HA3:=zh (zh HA2.o 0 (.int .i64 ps[k].1)) 1 (.bool ps[k].2);have y0:=za HA3 0;have y1:=za HA3 1;simp at y0 y1;refine qYp (v:=.tuple #[zN ps[k].1 ps[k].2,.int .i64 0]) ?_ rfl ⟨rfl,?_⟩
 .simp [results,results173,go_sem,y0,y1]
 .exact zj (zj (((qxl _ _).alloc (qXo _) _).drew) hu2 (qXo _) (fun _ (h:False)=>h.elim)) ((zi w2 w.heap.size 0 (.int .i64 ps[k].1)).trans (zi _ _ 1 _)) (qXo _) (fun j e=>oM)
theorem QA{w:World}{b mb N:Nat}{v:Value}{ps:List (Int×Bool)}{slots:Nat}(h:IndexAt w b v mb N ps slots)(k:Nat)(hk:k<ps.length)(hp:ps[k]=(-1,false)):
  Calls prog 173 #[.pointer (some ⟨b,0,none⟩),.int .i64 k] w fun e w'=>e=.returned (.tuple #[zN 0 false,.int .i64 14])/\Below w.heap.size w w':=by
 have hu:Upd (fun _=>False) w (w.alloc (.cells #[.int .i64 0,.bool false] 256)):=(uur _ _).alloc _;have hc0:=(hu.cellAt (o:=0) (zd h.str) id).trans (za h.str 0);simp at hc0;have hle:=h.le;have hbl:=zd h.str;obtain⟨g,off,cap,rfl,hg,q0,q1⟩:=h.at hk;rw[hp]at q0 q1;have p0:=(hu.cellAt hg id).trans q0;have p1:=(hu.cellAt hg id).trans q1;have hA:=zc w (.cells #[.int .i64 0,.bool false] 256) rfl;have HA:=qqh hA;clear h q0 q1 hA hp;go_enter func173,ntmps173
 go_wp2
 go_region_held3 (fun W=>W.cell? ⟨b,0,none⟩=some (.slice (some ⟨g,off,none⟩) ps.length cap)/\W.cell? ⟨g,off+k*2,none⟩=some (.int .i64 (-1))/\W.cell? ⟨g,off+k*2+1,none⟩=some (.bool false)) (go_keep)
  ((go_at_call 211;refine(yS _).mono ?_;rintro e w2 ⟨rfl,hu2,hz2⟩;have k0:=(hu2.cellAt (o:=0) og id).trans hc0;have k1:=(hu2.cellAt og id).trans p0;have k2:=(hu2.cellAt og id).trans p1))
 have hA2:w2.heap[w.heap.size]?=some (.cells #[.int .i64 0,.bool false] 256):=(hu2.block _ oe id).trans HA.o;have r0:=za hA2 0;have r1:=za hA2 1;have f0:=zf hA2 0;have f1:=zf hA2 1;simp at r0 r1;have HA2:=qqh hA2;clear hA2;go_wp2
 have HA3:=zh (zh HA2.o 0 (.int .i64 0)) 1 (.bool false);have y0:=za HA3 0;have y1:=za HA3 1;simp at y0 y1;refine qYp (v:=.tuple #[zN 0 false,.int .i64 14]) ?_ rfl ⟨rfl,?_⟩
 .simp [results,results173,go_sem,y0,y1]
 .exact zj (zj (((qxl _ _).alloc (qXo _) _).drew) hu2 (qXo _) (fun _ (h:False)=>h.elim)) ((zi w2 w.heap.size 0 (.int .i64 0)).trans (zi _ _ 1 _)) (qXo _) (fun j e=>oM)
def putC(ps:List (Int×Bool))(slots:Nat)(k s:Int):Int:=
 if k<0\/(ps.length:Int)<=k\/s<0\/(slots:Int)<=s then 10 else if atOf ps s=none\/atOf ps s=some k.toNat then 0 else 15
def vN(ps:List (Int×Bool))(slots:Nat)(k s:Int)(d:Bool):List (Int×Bool):=if putC ps slots k s=0 then ps.set k.toNat (s,d)else ps
def um(ps:List (Int×Bool))(slots:Nat)(k s:Int):Int×Bool:=if putC ps slots k s=0 then ps.getD k.toNat (-1,false)else(0,false)
theorem Upd.undrew{S:Nat->Prop}{w w':World}(h:Upd S w.drew w'):Upd S w w':=⟨h.os,h.tape,h.output,h.size,h.block⟩
theorem Sl.setAt{w:World}{e:TypeId}{m g off n cap:Nat}{xs:List Value}(h:Sl w e m (.slice (some ⟨g,off,none⟩) n cap) n xs)(i:Nat)(hi:i<n*m)(u:Value):
  Sl (w.setCell ⟨g,off+i,none⟩ u) e m (.slice (some ⟨g,off,none⟩) n cap) n (xs.set i u):=by
 obtain⟨hl,⟨h1,_⟩|⟨g',off',cap',cur,h1,hg,hn,hm,hs,hc⟩⟩:=h
 .cases h1
 .cases h1;have hle:n*m<=cap*m:=qXu m hn;refine⟨by simpa using hl,.inr ⟨g,off,cap,_,rfl,zh hg _ _,hn,hm,by simpa using hs,fun j x hj=>?_⟩⟩;by_cases hji:i=j
  .subst hji;rw[List.getElem?_set_self oM]at hj;cases hj;rw[Array.getElem?_setIfInBounds_self,if_pos oM]
  .rw [List.getElem?_set_ne hji]at hj;rw[qxg oM];exact hc j x hj
theorem Vx(s:Int)(d:Bool):∀(ps:List (Int×Bool)) (k:Nat),((plC ps).set (k*2) (.int .i64 s)).set (k*2+1) (.bool d)=plC (ps.set k (s,d))
 |[],k=>by simp[plC]
 |p::ps,0=>by simp[plC]
 |p::ps,k+1=>by
  have:=Vx s d ps k;simp only[plC,qye,qXf,qxz,qzu]at this⊢;rw[show(k+1)*2=k*2+1+1 by omega];simp only[qXf];rw[this]
theorem Sl.putPlace{w:World}{g off cap:Nat}{ps:List (Int×Bool)}(h:Sl w 256 2 (.slice (some ⟨g,off,none⟩) ps.length cap) ps.length (plC ps))(k:Nat)(hk:k<ps.length)(s:Int)(d:Bool):
  Sl ((w.setCell ⟨g,off+k*2,none⟩ (.int .i64 s)).setCell ⟨g,off+k*2+1,none⟩ (.bool d)) 256 2 (.slice (some ⟨g,off,none⟩) ps.length cap) (ps.set k (s,d)).length (plC (ps.set k (s,d))):=by
 rw[<-Vx,qze,qXl off];exact(h.setAt (k*2) oM _).setAt (k*2+1) oM _
theorem AK{w:World}{b mb N:Nat}{v:Value}{ps:List (Int×Bool)}{slots:Nat}(h:IndexAt w b v mb N ps slots)(k:Nat)(s:Int)(d:Bool)(hk:k<ps.length)(h0:0<=s)(h1:s<slots)(hm:mayPut ps k s)(hN:N<maxLen):
  Calls prog 213 #[.pointer (some ⟨b,0,none⟩),.int .i64 k,zN s d] w fun e w'=>e=.returned (.tuple #[zN ps[k].1 ps[k].2,.int .i64 0])/\
   IndexAt w' b v mb (N+1) (ps.set k (s,d)) slots/\Upd (ixS v mb) w w':=by
 have hu:Upd (fun _=>False) w ((w.alloc (.cells #[.int .i64 s,.bool d] 256)).alloc (.cells #[.int .i64 0,.bool false] 256)):=((uur _ _).alloc _).alloc _;have H:=qqh h;have hbl:=h.blt;have hle:=h.le;have hsl:=h.sl1;have G0:=za h.str 0;have G1:=za h.str 1;have G2:=za h.str 2;simp at G0 G1 G2;obtain⟨g,off,cap,rfl,hg,P0,P1⟩:=h.at hk;have g0:=(hu.cellAt (o:=0) hbl (fun h=>h)).trans G0;have g1:=(hu.cellAt (o:=1) hbl (fun h=>h)).trans G1;have g2:=(hu.cellAt (o:=2) hbl (fun h=>h)).trans G2;have x1:¬(k:Int)<0:=oM;clear h;go_enter func213,ntmps213
 go_wp2
 go_quiet(fail)
 clear g0 g1 g2;generalize hw3:(((w.alloc (.cells #[.int .i64 s,.bool d] 256)).alloc (.cells #[.int .i64 0,.bool false] 256)).drewN nq)=w3;have hu3:Upd (fun _=>False) w w3:=by rw[<-hw3];exact hu.drewN nq
 have hbx:w3.heap[w.heap.size]?=some (.cells #[.int .i64 s,.bool d] 256):=by
  rw[<-hw3];exact((Upd.alloc (uur (fun _=>False) _) (.cells #[.int .i64 0,.bool false] 256)).block w.heap.size oe (fun h=>h)).trans (zc w _ rfl)
 have hrx:w3.heap[w.heap.size+1]?=some (.cells #[.int .i64 0,.bool false] 256):=by
  rw[<-hw3];exact zc _ _ oe
 have hz3:w3.heap.size=w.heap.size+2:=by rw[<-hw3];simp[World.drewN]
 clear hw3 hu;have g0:=(hu3.cellAt (o:=0) hbl (fun h=>h)).trans G0;have g1:=(hu3.cellAt (o:=1) hbl (fun h=>h)).trans G1;have p0:=(hu3.cellAt hg (fun h=>h)).trans P0;have p1:=(hu3.cellAt hg (fun h=>h)).trans P1;have b0:=za hbx 0;have b1:=za hbx 1;simp at b0 b1;have hI3:=qqh (H.o.keep hu3 (fun h=>h) (fun _ _ h=>h));have HB:=qqh hbx;have HR:=qqh hrx;clear hbx hrx P0 P1 G2;have hl:=(show MapAt w3.drew mb N (atOf ps)from hI3.out.map).look (x:=s) oM oM;obtain⟨o,c,hl',hoc⟩:∃(o:Bool) (c:Nat),(Instr.lookup 168 (.map (some mb)) (.int .i64 s) true).run prog w3.drew=.ok (.tuple #[.int .i64 (c:Int),.bool o]) w3.drew/\(o=false\/o=true/\c=k):=by
  refine⟨_,_,hl,?_⟩;rcases hm with e|e<;>rw[e]<;>simp
 clear hl;have HM:Hid (mayPut ps k s):=hm;clear hm;have hoc':o=false\/o=true/\k=c:=hoc.imp id (fun h=>⟨h.1,h.2.symm⟩);clear hoc;rcases hoc' with rfl|⟨rfl,rfl⟩
 all_goals
  go_wp2
  go_region
  clear hl';go_wp2
  clear b0 b1 p0 p1 g0 g1;generalize hw4:(w3.alloc (.cells #[.int .i64 ps[k].1,.bool ps[k].2] 256)).drew=w4;have hu34:Upd (fun _=>False) w3 w4:=by rw[<-hw4];exact((uur _ _).alloc _).drew
  have hwx:w4.heap[w.heap.size+2]?=some (.cells #[.int .i64 ps[k].1,.bool ps[k].2] 256):=by rw[<-hw4,<-hz3];exact zc w3 _ rfl
  have hz4:w4.heap.size=w.heap.size+3:=by rw[<-hw4];show(w3.alloc _).heap.size=_;simp[hz3]
  clear hw4;have hI4:=hI3.out.keep hu34 (fun h=>h) (fun _ _ h=>h);have HB4:=(hu34.block _ oM (fun h=>h)).trans HB.o;have HR4:=(hu34.block _ oM (fun h=>h)).trans HR.o;have hr:=hI4.good.each k hk;obtain⟨w5,hdel,hM5,hu45',hz5⟩:=(show MapAt w4.drew mb N (atOf ps)from hI4.map).drop (x:=ps[k].1) ja ja 0;have hu45:=hu45'.undrew;have hz5':w5.heap.size=w.heap.size+3:=hz5.trans hz4;clear hu45' hz5;have hbm:b≠mb:=fun e=>hI4.nm e.symm;have hgm:g≠mb:=fun e=>hI4.nv jQ;have hgb:g≠b:=fun e=>hI4.ne jQ;have hmlt:=H.o.map.lt;have W5:Hid (w5.heap[w.heap.size+2]?=some (.cells #[.int .i64 ps[k].1,.bool ps[k].2] 256)/\w5.heap[w.heap.size+1]?=some (.cells #[.int .i64 0,.bool false] 256)/\w5.heap[w.heap.size]?=some (.cells #[.int .i64 s,.bool d] 256)):=
   ⟨(hu45.block _ oM oM).trans hwx,(hu45.block _ oM oM).trans HR4,(hu45.block _ oM oM).trans HB4⟩
  have hS5:=qqh (hI4.sl.keep hu45 (fun g' hg' e=>by simp[Value.ownBlock]at hg';omega));have u0:=za hwx 0;have m1:=za hI4.str 1;simp at u0 m1;have hM5':=qqh hM5;have T5:=qqh ((hu45.block _ hI4.blt hbm).trans hI4.str);have U5:=qqh (((hu3.trans hu34).mono (S':=fun j=>j=mb) (fun _ _ h=>h.elim)).trans hu45);clear hu34 HB4 HR4 hwx hM5 hr;go_wp2
  go_region
  clear hdel u0 m1 hu45 hI4 hz4;obtain⟨g',off',cap',cur,hve,hg5,hcs,hcc⟩:=hS5.out.at oM;cases hve;have e0:=(za hg5 (off+k*2)).trans (hcc _ _ (wL hk).1);have e1:=(za hg5 (off+k*2+1)).trans (hcc (k*2+1) _ (wL hk).2);have f0:=zf hg5 (off+k*2);have f1:=zf hg5 (off+k*2+1);have t0:=za T5.out 0;have y0:=za W5.out.2.2 0;have y1:=za W5.out.2.2 1;simp at t0 y0 y1;clear hcs hcc hg5;go_wp2
  go_region
  clear t0 y0 y1 e0 e1 f0 f1;generalize hw6:((w5.setCell ⟨g,off+k*2,none⟩ (.int .i64 s)).setCell ⟨g,off+k*2+1,none⟩ (.bool d)).drew=w6;have hu56:Upd (fun j=>j=g) w5 w6:=by rw[<-hw6];exact((zi w5 g (off+k*2) _).trans (zi _ g (off+k*2+1) _)).drew
  have hS6:Sl w6 256 2 (.slice (some ⟨g,off,none⟩) ps.length cap) (ps.set k (s,d)).length (plC (ps.set k (s,d))):=by
   rw[<-hw6];exact(hS5.out.putPlace k hk s d).keep ((uur (fun _=>False) _).drew) (fun _ _ h=>h)
  have hz6:w6.heap.size=w.heap.size+3:=by rw[<-hw6];simp[World.drew,hz5']
  clear hw6;have hM6:=hM5'.out.keep hu56 (fun e=>hgm e.symm);have T6:=(hu56.block _ oM (fun e=>hgb e.symm)).trans T5.out;have R6:=(hu56.block _ oM oM).trans W5.out.1;have R6':=(hu56.block _ oM oM).trans W5.out.2.1;have B6:=(hu56.block _ oM oM).trans W5.out.2.2;obtain⟨w7,hst,hM7,hu67',hz7⟩:=(show MapAt w6.drew mb N (xP (atOf ps) ps[k].1 none)from hM6).store (x:=s) oM oM k oM hN;have hu67:=hu67'.undrew;have t1:=za T6 1;have y0:=za B6 0;simp at t1 y0;clear hu67';go_wp2
  go_region
  clear hst t1 y0;have X7:=(hu67.block _ oM oM).trans R6;have R7:=(hu67.block _ oM oM).trans R6';have T7:=(hu67.block _ oM hbm).trans T6;have S7:=hS6.keep hu67 (fun g' hg' e=>by simp[Value.ownBlock]at hg';omega);have hG:=hI3.out.good;have hI7:IndexAt w7 b (.slice (some ⟨g,off,none⟩) ps.length cap) mb (N+1) (ps.set k (s,d)) slots:=
   {str:=T7,sl:=by simpa using S7,map:=by rw[hG.atOf_put hk d h0 h1 HM.o];exact hM7,good:=hG.put hk d h0 h1 HM.o,ne:=H.o.ne,nm:=H.o.nm,nv:=H.o.nv,le:=by simpa using hle,sl1:=hsl}
  have hz7':w7.heap.size=w.heap.size+3:=hz7.trans hz6;have U7:Upd (ixS (.slice (some ⟨g,off,none⟩) ps.length cap) mb) w w7:=
   ((U5.out.mono (fun j _ e=> .inr e)).trans (hu56.mono (fun j _ e=> .inl jQ))).trans (hu67.mono (fun j _ e=> .inr e))
  have HI:=qqh hI7;have HU:=qqh U7;have HR7:=qqh R7;have r0:=za R7 0;have r1:=za R7 1;have q0:=zf R7 0;have q1:=zf R7 1;have x0:=za X7 0;have x1':=za X7 1;simp at r0 r1 x0 x1';clear X7 R7 T7 S7 hG hI7 U7 R6 R6' B6 T6 hM6 hM7 hu56 hu67 hS6 hz7;go_wp2
  have HA3:=zh (zh HR7.o 0 (.int .i64 ps[k].1)) 1 (.bool ps[k].2);have y0:=za HA3 0;have y1:=za HA3 1;simp at y0 y1;have hue:Upd (fun j=>j=w.heap.size+1) w7 ((w7.setCell ⟨w.heap.size+1,0,none⟩ (.int .i64 ps[k].1)).setCell ⟨w.heap.size+1,1,none⟩ (.bool ps[k].2)):=(zi w7 (w.heap.size+1) 0 _).trans (zi _ _ 1 _);refine qYp (v:=.tuple #[zN ps[k].1 ps[k].2,.int .i64 0]) ?_ rfl ⟨rfl,?_,?_⟩
  .simp [results,results213,go_sem,y0,y1]
  .exact HI.o.keep hue oM (fun j hj e=>by have:=H.o.slt j hj;omega)
  .exact HU.o.new (hue.mono (fun _ _ h=>h)) (fun j hj e=>oM)
theorem qE(w:World)(a:Nat)(h:w.heap[a]?=some (.cells #[.int .i64 0,.bool false] 256)):w.cell? ⟨a,0,none⟩=some (.int .i64 0)/\w.cell? ⟨a,1,none⟩=some (.bool false)/\w.frozen? ⟨a,0,none⟩=false/\w.frozen? ⟨a,1,none⟩=false:=
 ⟨za h 0,za h 1,zf h 0,zf h 1⟩
theorem qF(w:World)(a:Nat)(h:w.heap[a]?=some (.cells #[.int .i64 0,.bool false] 256)):
  (((w.setCell ⟨a,0,none⟩ (.int .i64 0)).setCell ⟨a,1,none⟩ (.bool false)).cell? ⟨a,0,none⟩=some (.int .i64 0)/\((w.setCell ⟨a,0,none⟩ (.int .i64 0)).setCell ⟨a,1,none⟩ (.bool false)).cell? ⟨a,1,none⟩=some (.bool false)):=by
 have h3:=zh (zh h 0 (.int .i64 0)) 1 (.bool false);have y0:=za h3 0;have y1:=za h3 1;simp at y0 y1;exact⟨y0,y1⟩
theorem uW{B:Nat}{a w:World}(h:Below B a w)(x:Nat)(hx:B<=x)(u u':Value):Below B a ((w.setCell ⟨x,0,none⟩ u).setCell ⟨x,1,none⟩ u'):=
 (h.setCell (p:=⟨x,0,none⟩) hx _).setCell (p:=⟨x,1,none⟩) hx _
theorem UX{w:World}{b mb N:Nat}{v:Value}{ps:List (Int×Bool)}{slots:Nat}(h:IndexAt w b v mb N ps slots)(k:Nat)(s:Int)(d:Bool)(hk:k<ps.length)(h0:0<=s)(h1:s<slots)(hm:¬mayPut ps k s):
  Calls prog 213 #[.pointer (some ⟨b,0,none⟩),.int .i64 k,zN s d] w fun e w'=>e=.returned (.tuple #[zN 0 false,.int .i64 15])/\Below w.heap.size w w':=by
 have hu:Upd (fun _=>False) w ((w.alloc (.cells #[.int .i64 s,.bool d] 256)).alloc (.cells #[.int .i64 0,.bool false] 256)):=((uur _ _).alloc _).alloc _;have H:=qqh h;have hbl:=h.blt;have hle:=h.le;have hsl:=h.sl1;have G1:=za h.str 1;have g0:=(hu.cellAt (o:=0) hbl id).trans (za h.str 0);have g2:=(hu.cellAt (o:=2) hbl id).trans (za h.str 2);simp at g0 G1 g2;obtain⟨ao,c,rfl⟩:=h.sl.rd.jU;have x1:¬(k:Int)<0:=oM;obtain⟨o,ho,hok⟩:∃o:Nat,atOf ps s=some o/\o≠k:=by
  cases e:atOf ps s with
  |none=>exact absurd (.inl e) hm
  |some o=>exact⟨o,rfl,fun e2=>hm (.inr (by rw[e,e2]))⟩
 have hoi:((o:Int)==(k:Int))=false:=by simp;omega
 clear h hm;go_enter func213,ntmps213
 go_wp2
 go_quiet(fail)
 clear g0 g2;generalize hw3:(((w.alloc (.cells #[.int .i64 s,.bool d] 256)).alloc (.cells #[.int .i64 0,.bool false] 256)).drewN nq)=w3;have hb3:Below w.heap.size w w3:=by rw[<-hw3];exact zQ (((qxl _ _).alloc (qXo _) _).alloc oe _) _
 have hu3:Upd (fun _=>False) w w3:=by rw[<-hw3];exact hu.drewN nq
 have hrx:w3.heap[w.heap.size+1]?=some (.cells #[.int .i64 0,.bool false] 256):=by rw[<-hw3];exact zc _ _ oe
 have hbx:w3.heap[w.heap.size]?=some (.cells #[.int .i64 s,.bool d] 256):=by
  rw[<-hw3];exact((Upd.alloc (uur (fun _=>False) _) (.cells #[.int .i64 0,.bool false] 256)).block w.heap.size oe id).trans (zc w _ rfl)
 clear hw3 hu;obtain⟨r0,r1,f0,f1⟩:=qE _ _ hrx;have Y:=qqh (qF _ _ hrx);have b0:=za hbx 0;simp at b0;have g1:=(hu3.cellAt hbl id).trans G1;have hl:=(show MapAt w3.drew mb N (atOf ps)from(MapAt.keep (w':=w3) H.o.map (S:=fun _=>False) hu3 id)).look (x:=s) oM oM;rw[ho]at hl;simp only[Option.getD_some,Option.isSome_some]at hl;clear hrx hbx hu3 G1 ho hok;go_wp2
 go_region
 clear hl;go_wp2
 refine qYp (v:=.tuple #[zN 0 false,.int .i64 15]) ?_ rfl ⟨rfl,uW (w:=w3.drew) hb3.drew _ oM _ _⟩;simp[results,results213,go_sem,Y.out.1,Y.out.2]
open Go Go.RowKit Go.Maps Tryz
theorem MapAt.look1{w:World}{mb N:Nat}{f:Int->Option Nat}(h:MapAt w mb N f){x:Int}(h1: -9223372036854775808<=x)(h2:x<9223372036854775808):
  (Instr.lookup 168 (.map (some mb)) (.int .i64 x) false).run prog w=.ok (.int .i64 (((f x).getD 0:Nat):Int)) w:=by
 obtain⟨D,ho,hf⟩:=h;obtain⟨v,ps,hr,hv⟩:=ho.lookup yy underlying168 (Qu w) (plainElem_int underlying3 de) (tQ h1 h2);obtain⟨c,rfl,hc,hwc⟩:=plainElem_int_inv underlying3 hv;simp only[qYd]at hc;rw[hr];have:c=(((f x).getD 0:Nat):Int):=by
  cases hx:f x with
  |none=>
   have h0:=(hf x).1;rw[hx]at h0;have:=atKey_of_not_has (D:=D) h0 (.lit (.int .i64 0));rw[this]at hc;simp at hc;simpa using hc.1.symm
  |some c'=>
   have:=(hf x).2 c' hx (.lit (.int .i64 0));rw[this]at hc;simp at hc;simpa using hc.1.symm
 rw[this]
end Go.Proofs.YtpejdgiccaijfaaGreatDoor
