/- The chapter's example of layer 14. Maps from i -/
import Derived.Maps.RangeWalk
import Derived.Test.YtfhfbpmlnjdfoaaGreatDoorG33
set_option maxRecDepth 100000
set_option maxHeartbeats 1000000
namespace Go.Proofs.YtfhfbpmlnjdfoaaGreatDoor
open Go Go.RowKit
theorem Eh(bl sl jo:Nat)(h1:1<=bl)(h2:bl<=12)(h3:1<=sl)(h4:sl<=8)(h5:4<=jo)(h6:jo<=12):(smN bl sl jo).Ok:=by
 have hp:(sl-1)/4<=1:=by omega
 constructor<;>simp only[smN,CaN.size]<;>omega
open Go Go.RowKit Go.Maps
theorem Zh{x y:Int}(e:Lit.int .i64 x=Lit.int .i64 y):x=y:=by injection e
section
variable{α:Type}
open Classical in
noncomputable def decR (enc:α->Value) (v:Value):Option (DataW α×List MemPlace):=if h:∃e,v=enc e then some (.held (Classical.choose h),[])else none
variable{enc:α->Value}
theorem uh(hi:∀x y,enc x=enc y->x=y)(e:α):decR enc (enc e)=some (.held e,[]):=by
 have h:∃e',enc e=enc e':=⟨e,rfl⟩
 unfold decR;rw[dif_pos h,<-hi _ _ (Classical.choose_spec h)]
theorem ui{v:Value}{y:DataW α×List MemPlace}(h:decR enc v=some y):∃e,v=enc e/\y=(.held e,[]):=by
 unfold decR at h;split at h
 .rename_i hx
  cases h;exact⟨_,Classical.choose_spec hx,rfl⟩
 .cases h
def XM(D:DataW α)(f:Int->Option α):Prop:=∀s:Int,Maps.has D (.int .i64 s)=(f s).isSome/\∀c,f s=some c->∀z,D.atKey (.int .i64 s) z=.held c
variable(enc)
def MapG(w:World)(mb N:Nat)(f:Int->Option α):Prop:=∃D:DataW α,w.ownsMap Tryz.prog 3 (decR enc) mb N D/\XM D f
def Zi(w:World)(mb r N:Nat)(f:Int->Option α)(left:Int->Bool)(cnt:Nat):Prop:=
 ∃(D:DataW α) (lf:Lit->Bool),w.ranges Tryz.prog 3 (decR enc) mb r N D lf cnt/\XM D f/\∀s:Int,lf (.int .i64 s)=left s
variable{enc}
variable{w:World}{mb N:Nat}{f:Int->Option α}
theorem MapG.lt(h:MapG enc w mb N f):mb<w.heap.size:=by obtain⟨D,h,_⟩:=h;exact h.lt
theorem MapG.keep{w':World}(h:MapG enc w mb N f){S:Nat->Prop}(hu:Upd S w w')(hs:¬S mb):MapG enc w' mb N f:=by
 obtain⟨D,⟨es,clock,hb,r⟩,hf⟩:=h;exact⟨D,⟨es,clock,(hu.block _ (zd hb) hs).trans hb,r⟩,hf⟩
theorem MapG.mono{N':Nat}(h:MapG enc w mb N f)(hn:N<=N'):MapG enc w mb N' f:=by obtain⟨D,h,hf⟩:=h;exact⟨D,h.mono hn,hf⟩
theorem MapG.made(w:World):MapG enc (w.alloc (.map #[] 0)) w.heap.size 0 (fun _=>none):=
 ⟨.map [],World.ownsMap_made w _ _ _,fun s=>⟨rfl,fun c h=>by cases h⟩⟩
theorem MapG.look(h:MapG enc w mb N f)(hi:∀x y,enc x=enc y->x=y){t e:TypeId}(ht:Tryz.prog.underlying t=some (.map 3 e)){z0:α}(hz:(zeroValue e).run Tryz.prog w=.ok (enc z0) w){x:Int}(h1: -9223372036854775808<=x)(h2:x<9223372036854775808):
  (Instr.lookup t (.map (some mb)) (.int .i64 x) true).run Tryz.prog w=.ok (.tuple #[enc ((f x).getD z0),.bool (f x).isSome]) w:=by
 obtain⟨D,ho,hf⟩:=h;obtain⟨v,ps,hr,hv⟩:=ho.look_ok yx ht hz (uh hi z0) (tr h1 h2);obtain⟨c,rfl,hc⟩:=ui hv;simp only[qYk]at hc;rw[hr,(hf x).1];have:c=(f x).getD z0:=by
  cases hx:f x with
  |none=>
   have h0:=(hf x).1;rw[hx]at h0;have:=atKey_of_not_has (D:=D) h0 (.held z0);rw[this]at hc;exact(DataW.held.inj hc.1).symm
  |some c'=>
   have:=(hf x).2 c' hx (.held z0);rw[this]at hc;exact(DataW.held.inj hc.1).symm
 rw[this]
theorem MapG.drop(h:MapG enc w mb N f){t e:TypeId}(ht:Tryz.prog.underlying t=some (.map 3 e)){x:Int}(h1: -9223372036854775808<=x)(h2:x<9223372036854775808)(ty:TypeId):
  ∃w',(Builtin.delete_ #[t,3] ty #[.map (some mb),.int .i64 x]).run Tryz.prog w=.ok (.tuple #[]) w'/\MapG enc w' mb N (fun s=>if s=x then none else f s)/\Upd (fun j=>j=mb) w w'/\w'.heap.size=w.heap.size:=by
 obtain⟨D,ho,hf⟩:=h;obtain⟨w',hr,ho',ht'⟩:=ho.drop yx ht (tr h1 h2) ty;refine⟨w',hr,⟨_,ho',fun s=>?_⟩,yy ht',yt ht'⟩;by_cases hs:s=x
 .subst hs;simp[has_del_same]
 .have hne:Lit.int .i64 s≠Lit.int .i64 x:=fun e=>hs (Zh e);simp only[if_neg hs,has_del_other hne];exact⟨(hf s).1,fun c hc z=>by rw[atKey_del_other hne];exact(hf s).2 c hc z⟩
theorem MapG.store(h:MapG enc w mb N f)(hi:∀x y,enc x=enc y->x=y){t e:TypeId}(ht:Tryz.prog.underlying t=some (.map 3 e)){x:Int}(h1: -9223372036854775808<=x)(h2:x<9223372036854775808)(c:α)(hn:N<maxLen):
  ∃w',(Instr.mapUpdate t (.map (some mb)) (.int .i64 x) (enc c)).run Tryz.prog w=.ok () w'/\MapG enc w' mb (N+1) (fun s=>if s=x then some c else f s)/\Upd (fun j=>j=mb) w w'/\w'.heap.size=w.heap.size:=by
 obtain⟨D,ho,hf⟩:=h;have hM:=ho.isMap;have hK:∀y:Int,WideAt.IsKeyLit (.int .i64 y):=fun _=>trivial;obtain⟨w',hr,ho',ht'⟩:=ho.store (ps:=[]) (d:=.held c) yx ht hn (tr h1 h2) (uh hi c);refine⟨w',hr,⟨_,ho',fun s=>?_⟩,yy ht',yt ht'⟩;by_cases hs:s=x
 .subst hs;simp only[if_pos];exact⟨by rw[has_put_same hM (hK _)];rfl,fun c' hc' z=>by obtain rfl:=qYj hc';exact atKey_put_same hM (hK _) _ _⟩
 .have hne:Lit.int .i64 s≠Lit.int .i64 x:=fun e=>hs (Zh e);simp only[if_neg hs,has_put_other hne];exact⟨(hf s).1,fun c hc z=>by rw[atKey_put_other hne];exact(hf s).2 c hc z⟩
theorem MapG.look1(h:MapG enc w mb N f)(hi:∀x y,enc x=enc y->x=y){t e:TypeId}(ht:Tryz.prog.underlying t=some (.map 3 e)){z0:α}(hz:(zeroValue e).run Tryz.prog w=.ok (enc z0) w){x:Int}(h1: -9223372036854775808<=x)(h2:x<9223372036854775808):
  (Instr.lookup t (.map (some mb)) (.int .i64 x) false).run Tryz.prog w=.ok (enc ((f x).getD z0)) w:=by
 obtain⟨D,ho,hf⟩:=h;obtain⟨v,ps,hr,hv⟩:=ho.lookup yx ht hz (uh hi z0) (tr h1 h2);obtain⟨c,rfl,hc⟩:=ui hv;simp only[qYk]at hc;rw[hr];have:c=(f x).getD z0:=by
  cases hx:f x with
  |none=>
   have h0:=(hf x).1;rw[hx]at h0;have:=atKey_of_not_has (D:=D) h0 (.held z0);rw[this]at hc;exact(DataW.held.inj hc.1).symm
  |some c'=>
   have:=(hf x).2 c' hx (.held z0);rw[this]at hc;exact(DataW.held.inj hc.1).symm
 rw[this]
variable(enc)in
def MapC(w:World)(mb N:Nat)(f:Int->Option α)(c:Nat):Prop:=∃D:DataW α,w.ownsMap Tryz.prog 3 (decR enc) mb N D/\XM D f/\Maps.size D=c
theorem MapC.g{c:Nat}(h:MapC enc w mb N f c):MapG enc w mb N f:=by obtain⟨D,h1,h2,-⟩:=h;exact⟨D,h1,h2⟩
theorem MapC.keep{c:Nat}{w':World}(h:MapC enc w mb N f c){S:Nat->Prop}(hu:Upd S w w')(hs:¬S mb):MapC enc w' mb N f c:=by
 obtain⟨D,⟨es,clock,hb,r⟩,hf,hc⟩:=h;exact⟨D,⟨es,clock,(hu.block _ (zd hb) hs).trans hb,r⟩,hf,hc⟩
theorem MapC.made(w:World):MapC enc (w.alloc (.map #[] 0)) w.heap.size 0 (fun _=>none) 0:=
 ⟨.map [],World.ownsMap_made w _ _ _,fun s=>⟨rfl,fun c h=>by cases h⟩,rfl⟩
theorem MapC.len{c:Nat}(h:MapC enc w mb N f c){t e:TypeId}(ht:Tryz.prog.underlying t=some (.map 3 e))(ty:TypeId):(Builtin.len_ #[t] ty #[.map (some mb)]).run Tryz.prog w=.ok (.int .i64 (c:Int)) w:=by
 obtain⟨D,h,-,rfl⟩:=h;exact h.len ht ty
theorem MapC.store{c0:Nat}(h:MapC enc w mb N f c0)(hi:∀x y,enc x=enc y->x=y){t e:TypeId}(ht:Tryz.prog.underlying t=some (.map 3 e)){x:Int}(h1: -9223372036854775808<=x)(h2:x<9223372036854775808)(c:α)(hn:N<maxLen):
  ∃w',(Instr.mapUpdate t (.map (some mb)) (.int .i64 x) (enc c)).run Tryz.prog w=.ok () w'/\MapC enc w' mb (N+1) (fun s=>if s=x then some c else f s) (if(f x).isSome then c0 else c0+1)/\Upd (fun j=>j=mb) w w'/\w'.heap.size=w.heap.size:=by
 obtain⟨D,ho,hf,hc0⟩:=h;have hM:=ho.isMap;have hK:∀y:Int,WideAt.IsKeyLit (.int .i64 y):=fun _=>trivial;obtain⟨w',hr,ho',ht'⟩:=ho.store (ps:=[]) (d:=.held c) yx ht hn (tr h1 h2) (uh hi c);refine⟨w',hr,⟨_,ho',fun s=>?_,?_⟩,yy ht',yt ht'⟩
 .by_cases hs:s=x
  .subst hs;simp only[if_pos];exact⟨by rw[has_put_same hM (hK _)];rfl,fun c' hc' z=>by obtain rfl:=qYj hc';exact atKey_put_same hM (hK _) _ _⟩
  .have hne:Lit.int .i64 s≠Lit.int .i64 x:=fun e=>hs (Zh e);simp only[if_neg hs,has_put_other hne];exact⟨(hf s).1,fun c hc z=>by rw[atKey_put_other hne];exact(hf s).2 c hc z⟩
 .rw [size_put (ho.tidy yx),(hf x).1,hc0]
theorem Zi.lt{r:Nat}{left:Int->Bool}{cnt:Nat}(h:Zi enc w mb r N f left cnt):mb<w.heap.size/\r<w.heap.size:=by
 obtain⟨D,lf,h,-,-⟩:=h;exact⟨h.owns.lt,h.lt⟩
theorem Zi.keep{r:Nat}{left:Int->Bool}{cnt:Nat}{w':World}(h:Zi enc w mb r N f left cnt){S:Nat->Prop}(hu:Upd S w w')(h1:¬S mb)(h2:¬S r):Zi enc w' mb r N f left cnt:=by
 obtain⟨l1,l2⟩:=h.lt;obtain⟨D,lf,⟨es,clock,since,seen,c0,hb,F,hs,hD,hr,rest⟩,hf,hl⟩:=h;exact⟨D,lf,⟨es,clock,since,seen,c0,(hu.block mb l1 h1).trans hb,F,hs,hD,(hu.block r l2 h2).trans hr,rest⟩,hf,hl⟩
end
section
variable{α:Type}{enc:α->Value}{w:World}{ops:Array Oper}{rest:List Oper}{o:Oper}{a:Act}{Q:Exit->Act->World->Prop}{mb N:Nat}{f:Int->Option α}
theorem qF(hg:o.guard=none)(m:Operand)(t:TypeId)(hop:o.op=Op.range t m){e:TypeId}(ht:Tryz.prog.underlying t=some (.map 3 e))
  (hm:a.eval m=.map (some mb)) (h:MapG enc w mb N f)
  (hK:∀w',(∃cnt,cnt<=N/\Zi enc w' mb w.heap.size N f (fun s=>(f s).isSome) cnt)->Upd (fun _=>False) w w'->w'.heap.size=w.heap.size+1->wpList Tryz.prog ops Q rest (a.put o.dst (.pointer (some ⟨w.heap.size,0,none⟩))) w'):
  wpList Tryz.prog ops Q (o::rest) a w:=by
 obtain⟨D,ho,hf⟩:=h;exact wpList_range_own w hg m t hop 3 e yx ht (decR enc) mb N D hm ho (fun w' h1 h2 h3=>hK w' ⟨_,ho.size_le,D,_,h1,hf,fun s=>(hf s).1⟩ (Upd.of_grown h2 (fun g hg=>by cases hg)) h3)
theorem rj(hg:o.guard=none)(it:Operand)(hop:o.op=Op.next it false){r cnt:Nat}{left:Int->Bool}
  (hit:a.eval it=.pointer (some ⟨r,0,none⟩)) (h:Zi enc w mb r N f left cnt)
  (hDone:(∀s,left s=false)->wpList Tryz.prog ops Q rest (a.put o.dst (.tuple #[.bool false])) w)
  (hMore:∀(x:Int) (c:α) (w':World),left x=true->f x=some c->(∃cnt',cnt'<cnt/\Zi enc w' mb r N f (fun z=>left z&&!decide (z=x)) cnt')->Upd (fun j=>j=r) w w'->w'.heap.size=w.heap.size->
   (Instr.entry (.pointer (some ⟨r,0,none⟩))).run Tryz.prog w'=.ok (.tuple #[.int .i64 x,enc c]) w'->wpList Tryz.prog ops Q rest (a.put o.dst (.tuple #[.bool true,.int .i64 x,enc c])) w'):
  wpList Tryz.prog ops Q (o::rest) a w:=by
 obtain⟨D,lf,h,hf,hl⟩:=h;refine wpList_next_ranges w hg it hop 3 yx (decR enc) (Value.int .i64) enc (fun key kl hk=>?_) (fun v y hv=>?_) mb r N D lf cnt hit h (fun _ h0=>hDone (fun s=>by rw[<-hl,h0])) (fun x c kl y w' cnt' hkey hlk hv hat hrg hlt hgr hsz hen=>?_)
 .obtain ⟨x,hx,-⟩:=Maps.keyOf_int_inv Tryz.underlying3 hk;exact⟨x,hx⟩
 .obtain ⟨e,he,-⟩:=ui hv;exact⟨e,he⟩
 .obtain ⟨x',ex,rfl,-⟩:=Maps.keyOf_int_inv Tryz.underlying3 hkey;cases ex;obtain⟨c',ec,rfl⟩:=ui hv;have hfx:f x=some c':=by
   have h1:=has_true_of_atKey hat;rw[(hf x).1]at h1;obtain⟨c2,hc2⟩:=Option.isSome_iff_exists.1 h1;have h2:=(hf x).2 c2 hc2 (.held c2);rw[hat]at h2;rw[hc2,DataW.held.inj h2]
  rw[ec]at hen⊢;refine hMore x c' w' (by rw[<-hl];exact hlk) hfx ⟨cnt',hlt,D,_,hrg,hf,fun s=>?_⟩ (Upd.of_grown hgr (fun g hg _=>(qYj hg).symm)) hsz hen;show(lf (.int .i64 s)&&!(Lit.int .i64 s).sameKey (.int .i64 x))=_;rw[hl];by_cases hs:s=x
  .subst hs;rw[WideAt.sameKey_self (show WideAt.IsKeyLit (.int .i64 s)from trivial),show(fun z=>left z&&!decide (z=s)) s=(left s&&!decide (s=s))from rfl,qYy rfl]
  .rw [sameKey_ne (fun e=>hs (Zh e)),show(fun z=>left z&&!decide (z=x)) s=(left s&&!decide (s=x))from rfl,decide_eq_false hs]
end
end Go.Proofs.YtfhfbpmlnjdfoaaGreatDoor
namespace Go.Proofs.YtfhfbpmlnjdfoaaGreatDoor
def Stop(G:Prop):Prop:=G
theorem Stop.i{G:Prop}(h:Stop G):G:=h
open Go Go.RowKit Go.Shelf
attribute [local go_sem] qYh
end Go.Proofs.YtfhfbpmlnjdfoaaGreatDoor
namespace Go.Proofs.YtfhfbpmlnjdfoaaGreatDoor
open Go Go.RowKit
def secL(base n k:Nat):List Int:=(List.range n).map fun i=>if i<k then((base+i:Nat):Int)else 0
theorem Yw(base n k:Nat):(secL base n k).length=n:=by simp[secL]
theorem Uj(base n:Nat):secL base n 0=List.replicate n 0:=by
 apply qye
 .simp [secL]
 .intro i h1 h2;simp[secL]
theorem Qj(base n:Nat){k:Nat}(_hk:k<n):(secL base n k).set k ((base+k:Nat):Int)=secL base n (k+1):=by
 apply qye
 .simp [secL]
 .intro i h1 h2;rw[qzb];simp only[secL,qyy,List.getElem_range];by_cases h:k=i
  .subst h;simp
  .rw [if_neg h];by_cases hl:i<k
   .rw [if_pos hl,if_pos (by omega)]
   .rw [if_neg hl,if_neg (by omega)]
theorem Qk(base n:Nat)(hn:n<=1024)(hb:base<=4096)(w:World):
  Calls Tryz.prog 105 #[.int .i64 (base:Int),.int .i64 (n:Int)] w fun e w'=>∃g,e=.returned (.slice (some ⟨g,0,none⟩) n n)/\w'.heap[g]?=some (.cells (ints (secL base n n)).toArray 3 (0,0))/\w.heap.size<=g/\Below w.heap.size w w':=by
 have hmk:=vR n (by omega) w;obtain⟨w1,hw1⟩:=qqe (w.alloc (.cells (ints (List.replicate n 0)).toArray 3));have hg:=zc w (.cells (ints (List.replicate n 0)).toArray 3) rfl;have hb1:Below w.heap.size w w1:=by rw[hw1];exact(qxl _ w).alloc (qXv _) _
 rw[<-hw1,<-Uj base n]at hg;have HW:=Y3 hw1 hg hb1;obtain⟨G,hG⟩:=qqe (w.heap.size);have HGG:=qqh hG;clear hg hb1 hw1 hG;go_enter Tryz.func105,Tryz.ntmps105
 go_upto_region 2 with fail
 rw[<-HW.o.1,<-HGG.o];clear hmk;go_wp2_with fail
 go_loopg[11] n (fun gk s11 wr=>∃k:Nat,k+gk=n/\s11=.int .i64 (k:Int)/\wr.heap[G]?=some (.cells (ints (secL base n k)).toArray 3 (0,0))/\Upd (fun j=>j=G) w1 wr)
 case atStart=>exact⟨0,by omega,rfl,by rw[HGG.o];exact HW.o.2.1,uur _ _⟩
 case round=>
  obtain⟨k,hk,rfl,hg,hu⟩:=hrel;by_cases hlt:k<n
  .have k1:(k:Int)<(n:Int):=by omega
   have k0:(0:Int)<=(k:Int):=by omega
   have f0:=zf hg k;have c0:∃v,wr.cell? ⟨G,k,none⟩=some v:=by
    rw[za hg,qxe (by rw[qXm,yq,Yw];omega)];exact⟨_,rfl⟩
   obtain⟨v0,c0⟩:=c0;have hgs:=zh hg k (.int .i64 ((base+k:Nat):Int));rw[qXi,vS,Qj base n hlt]at hgs;have hus:=hu.trans (zi wr G k (.int .i64 ((base+k:Nat):Int)));have e1:((base+k:Nat):Int)=(base:Int)+(k:Int):=by simp
   rw[e1]at hgs hus;have HN:=Y2 hgs hus;clear hg hu hgs hus e1;go_wp2_with fail
   go_roundg (gk-1)
   case measure=>omega
   case rel=>exact⟨k+1,by omega,by go_num,HN.o.1,HN.o.2⟩
  .obtain rfl:k=n:=by omega
   have k1:¬((k:Int)<(k:Int)):=by omega
   have HN:=Y2 hg hu;clear hg hu;go_wp2_with fail
   go_ret
   exact⟨G,rfl,HN.o.1,Nat.le_of_eq HGG.o.symm,zj HW.o.2.2 HN.o.2 (qXv _) (fun j hj=>Nat.le_of_eq (by rw[hj,HGG.o]))⟩
end Go.Proofs.YtfhfbpmlnjdfoaaGreatDoor
