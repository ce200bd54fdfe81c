/- Two caches of -/
import Derived.Test.YtfhfbpmlnjdfoaaGreatDoorG34
import Derived.Test.YtfhfbpmlnjdfoaaGreatDoorG27
namespace Go.Proofs.YtfhfbpmlnjdfoaaGreatDoor
open Go Go.RowKit Tryz
def mixO(own oB:Nat->Nat):Nat->Nat:=fun j=>if oB j=2\/oB j=3 then oB j else if own j=2\/own j=3 then 0 else own j
structure Bes(own oB:Nat->Nat):Prop where
 a:∀j,own j≠0->own j≠2->own j≠3->oB j=0
 b:∀j,oB j≠0->oB j≠2->oB j≠3->own j=0
 two:∀j,own j=2↔oB j=2
 three:∀j,own j=3↔oB j=3
theorem Bes.symm{own oB:Nat->Nat}(h:Bes own oB):Bes oB own:=⟨h.b,h.a,fun j=>(h.two j).symm,fun j=>(h.three j).symm⟩
def devO(own:Nat->Nat):Nat->Nat:=fun j=>if own j=2\/own j=3 then own j else 0
theorem Yf(own:Nat->Nat):Bes own (devO own):=by
 have h1:∀j,own j=2\/own j=3->devO own j=own j:=fun j h=>if_pos h;have h2:∀j,¬(own j=2\/own j=3)->devO own j=0:=fun j h=>if_neg h;have h3:∀j,devO own j=own j\/devO own j=0/\own j≠2/\own j≠3:=fun j=>by
  by_cases h:own j=2\/own j=3
  .exact .inl (h1 j h)
  .exact .inr ⟨h2 j h,by omega,by omega⟩
 refine⟨fun j h0 h2' h3'=>h2 j (by omega),fun j h0 h2' h3'=>?_,fun j=>?_,fun j=>?_⟩
 .by_cases h:own j=2\/own j=3
  .have:=h1 j h;omega
  .exact absurd (h2 j h) h0
 .have:=h3 j;omega
 .have:=h3 j;omega
def bothO(own oB:Nat->Nat):Nat->Nat:=fun j=>if own j=0 then oB j else own j
section
variable{own oB oB':Nat->Nat}{w w':World}{c:Nat}{n:CaN}{p:CaP}{a:CaS}{F G:List Bk}{O Q:List (Nat×Bk)}{P P':List Int}
theorem Bes.mix(hB:Bes own oB)(far:∀j,w.heap.size<=j->own j=0)(hd:Did oB oB' w w'):Bes (mixO own oB') oB':=by
 have ho:∀j,j<w.heap.size->oB' j=oB j:=hd.old;refine⟨fun j h0 h2 h3=>?_,fun j h0 h2 h3=>?_,fun j=>?_,fun j=>?_⟩
 .simp only[mixO]at h0 h2 h3;split at h0
  .rename_i h;rw[if_pos h]at h2 h3;omega
  .rename_i h
   rw[if_neg h]at h2 h3;split at h0
   .omega
   .rename_i h'
    by_cases hl:j<w.heap.size
    .rw [ho j hl];exact hB.a j h0 (by omega) (by omega)
    .exact absurd (far j (by omega)) h0
 .simp only[mixO];rw[if_neg (by omega)];split
  .rfl
  .by_cases hl:j<w.heap.size
   .rw [ho j hl]at h0 h2 h3;exact hB.b j h0 h2 h3
   .exact far j (by omega)
 .simp only[mixO];split
  .rfl
  .split<;>omega
 .simp only[mixO];split
  .rfl
  .split<;>omega
theorem CaAt.beside(h:CaAt own w c n p a)(hB:Bes own oB)(hd:Did oB oB' w w')(hs:Dv (fun j=>oB' j=2) w' p.ssd F O P)(hb:Dv (fun j=>oB' j=3) w' p.back G Q P')(fl:F.length=n.size)(gl:G.length=n.bl)
  (on:oB 0=0) (ot:oB 1=0):CaAt (mixO own oB') w' c n p {a with dF:=F,dO:=O,dP:=P,bF:=G,bO:=Q,bP:=P'}:=by
 have ho:∀j,j<w.heap.size->oB' j=oB j:=hd.old;have hk:∀j,j<w.heap.size->own j≠0->own j≠2->own j≠3->mixO own oB' j=own j/\¬(oB j≠0/\oB j<16):=fun j hl h0 h2 h3=>by
  have e:=hB.a j h0 h2 h3;have e':=ho j hl;refine⟨?_,fun h=>h.1 e⟩;simp only[mixO];rw[if_neg (by omega),if_neg (by omega)]
 have hz:∀j,j<w.heap.size->own j=0->oB j=0->mixO own oB' j=0:=fun j hl h0 h1=>by
  have e':=ho j hl;simp only[mixO];rw[if_neg (by omega),if_neg (by omega)];exact h0
 have ht:∀{R:(Nat->Prop)->World->Prop} (k:Nat),Thing R->k≠0->k≠2->k≠3->R (fun j=>own j=k) w->R (fun j=>mixO own oB' j=k) w':=fun{R} k hR h0 h2 h3 hr=>by
  have q1:R (fun j=>own j=k/\j<w.heap.size) w:=hR.out hr (fun j hj hs=>⟨hs,hj⟩);have q2:=hR.keep q1 hd.upd (fun j hs=>(hk j hs.2 (by omega) (by omega) (by omega)).2);exact hR.out q2 (fun j _ hs=>(hk j hs.2 (by omega) (by omega) (by omega)).1.trans hs.1)
 exact{h with
  str:=(hd.upd.block c h.clt (hk c h.clt (by rw[h.oc];decide) (by rw[h.oc];decide) (by rw[h.oc];decide)).2).trans h.str
  oc:=(hk c h.clt (by rw[h.oc];decide) (by rw[h.oc];decide) (by rw[h.oc];decide)).1.trans h.oc
  ssd:=(Dv.jQ _ _ _ _).out hs (fun j _ hs=>by simp only[mixO];rw[if_pos (.inl hs)];exact hs)
  back:=(Dv.jQ _ _ _ _).out hb (fun j _ hs=>by simp only[mixO];rw[if_pos (.inr hs)];exact hs)
  jr:=ht 4 (Jn.jQ _ _ _ _ _ _ _) (by decide) (by decide) (by decide) h.jr
  ix:=ht 5 (Ix.jQ _ _ _ _) (by decide) (by decide) (by decide) h.ix
  ss:=ht 6 (Ss.jQ _ _) (by decide) (by decide) (by decide) h.ss
  lg:=ht 7 (Lg.jQ _ _ _) (by decide) (by decide) (by decide) h.lg
  ck:=ht 8 (Ck.jQ _ _ _ _ _ _ _) (by decide) (by decide) (by decide) h.ck
  sm:=ht 9 (Mp.jQ _ _ _) (by decide) (by decide) (by decide) h.sm
  far:=fun j hj=>by
   have e1:=hd.far j hj;have e2:=h.far j (qXx hd.upd.size hj);simp only[mixO];rw[if_neg (by omega),if_neg (by omega)];exact e2
  nib:=h.nib.keep hd.upd (fun hs=>hs.1 on)
  tur:=h.tur.keep hd.upd (fun hs=>hs.1 ot)
  on:=hz _ h.nib.lt h.on on
  ot:=hz _ h.tur.lt h.ot ot
  fl:=fl
  gl:=gl}
theorem Did.both(hB:Bes own oB)(far:∀j,w.heap.size<=j->own j=0)(hd:Did oB oB' w w'):Did (bothO own oB) (bothO (mixO own oB') oB') w w':=by
 have ho:∀j,j<w.heap.size->oB' j=oB j:=hd.old;have b0:∀(f g:Nat->Nat) j,f j=0->bothO f g j=g j:=fun f g j h=>if_pos h;have b1:∀(f g:Nat->Nat) j,f j≠0->bothO f g j=f j:=fun f g j h=>if_neg h;have m0:∀j,oB' j=2\/oB' j=3->mixO own oB' j=oB' j:=fun j h=>if_pos h;have m1:∀j,¬(oB' j=2\/oB' j=3)->own j=2\/own j=3->mixO own oB' j=0:=fun j h h'=>by unfold mixO;rw[if_neg h,if_pos h']
 have m2:∀j,¬(oB' j=2\/oB' j=3)->¬(own j=2\/own j=3)->mixO own oB' j=own j:=fun j h h'=>by unfold mixO;rw[if_neg h,if_neg h']
 have mx:∀j,j<w.heap.size->mixO own oB' j=own j:=fun j hj=>by
  have h2:=hB.two j;have h3:=hB.three j;have e:=ho j hj;by_cases q:oB' j=2\/oB' j=3
  .rw [m0 j q];omega
  .exact m2 j q (by omega)
 refine⟨hd.upd.mono fun j hj hs=>?_,fun j hj=>?_,fun j hj=>?_,fun j hj=>?_⟩
 .by_cases h:own j=0
  .rw [b0 _ _ _ h];exact hs
  .rw [b1 _ _ _ h];have h2:=hB.two j;have h3:=hB.three j;have h4:=hB.a j;omega
 .unfold bothO;rw[mx j hj,ho j hj]
 .have e:=far j hj;have hn:=hd.new j hj;by_cases h:mixO own oB' j=0
  .rw [b0 _ _ _ h];exact hn
  .rw [b1 _ _ _ h];by_cases q:oB' j=2\/oB' j=3
   .rw [m0 j q];exact hn
   .rw [m2 j q (by omega),e];decide
 .have e1:=hd.far j hj;have e2:=far j (qXx hd.upd.size hj);rw[b0 _ _ _ (by rw[m2 j (by omega) (by omega)];exact e2)];exact e1
end
structure Two(w:World)(oA oB:Nat->Nat)(cA cB:Nat)(n:CaN)(pA pB:CaP)(a b:CaS):Prop where
 fst:CaAt oA w cA n pA a
 snd:CaAt oB w cB n pB b
 bes:Bes oA oB
 ps:pA.ssd=pB.ssd
 pb:pA.back=pB.back
 dv:a.dF=b.dF/\a.dO=b.dO/\a.dP=b.dP/\a.bF=b.bF/\a.bO=b.bO/\a.bP=b.bP
section
variable{w w':World}{oA oB o':Nat->Nat}{cA cB:Nat}{n:CaN}{pA pB:CaP}{a b:CaS}
theorem Two.symm(h:Two w oA oB cA cB n pA pB a b):Two w oB oA cB cA n pB pA b a:=
 ⟨h.snd,h.fst,h.bes.symm,h.ps.symm,h.pb.symm,h.dv.1.symm,h.dv.2.1.symm,h.dv.2.2.1.symm,h.dv.2.2.2.1.symm,h.dv.2.2.2.2.1.symm,h.dv.2.2.2.2.2.symm⟩
theorem Two.new(h:Two w oA oB cA cB n pA pB a b)(hu:Upd (fun _=>False) w w'):Two w' oA oB cA cB n pA pB a b:={h with fst:=h.fst.new hu,snd:=h.snd.new hu}
theorem Two.jt(h:Two w oA oB cA cB n pA pB a b){S:Nat->Prop}(hu:Upd S w w')(hS:∀j,S j->(oA j=0/\oB j=0)/\j≠0/\j≠1):Two w' oA oB cA cB n pA pB a b:=
 {h with fst:=h.fst.jt hu (fun j hj=>⟨(hS j hj).1.1,(hS j hj).2⟩),snd:=h.snd.jt hu (fun j hj=>⟨(hS j hj).1.2,(hS j hj).2⟩)}
theorem Two.did(h:Two w oA oB cA cB n pA pB a b)(hb:CaAt o' w' cB n pB b)(hd:Did oB o' w w'):Two w' (mixO oA o') o' cA cB n pA pB a b:=by
 obtain⟨e1,e2,e3,e4,e5,e6⟩:=h.dv;have hs:=hb.ssd;have hk:=hb.back;rw[<-h.ps,<-e1,<-e2,<-e3]at hs;rw[<-h.pb,<-e4,<-e5,<-e6]at hk;exact⟨h.fst.beside h.bes hd hs hk h.fst.fl h.fst.gl h.snd.on h.snd.ot,hb,h.bes.mix h.fst.far hd,h.ps,h.pb,h.dv⟩
theorem Bes.comm(h:Bes oA oB):bothO oA oB=bothO oB oA:=funext fun j=>by
 have h1:=h.a j;have h2:=h.two j;have h3:=h.three j;unfold bothO;split<;>split<;>omega
theorem Two.ji(h:Two w oA oB cA cB n pA pB a b)(hu:Upd (fun _=>False) w w'):Did (bothO oA oB) (bothO oA oB) w w':=by
 have hf:∀j,w.heap.size<=j->bothO oA oB j=0:=fun j hj=>by unfold bothO;rw[h.fst.far j hj,h.snd.far j hj];rfl
 exact⟨hu.mono (fun _ _ h=>h.elim),fun _ _=>rfl,fun j hj=>by rw[hf j hj];decide,fun j hj=>hf j (qXx hu.size hj)⟩
theorem Two.byB(h:Two w oA oB cA cB n pA pB a b)(hb:CaAt o' w' cB n pB b)(hd:Did oB o' w w'):∃oA',Two w' oA' o' cA cB n pA pB a b/\Did (bothO oA oB) (bothO oA' o') w w':=
 ⟨_,h.did hb hd,Did.both h.bes h.fst.far hd⟩
theorem Two.byA(h:Two w oA oB cA cB n pA pB a b)(ha:CaAt o' w' cA n pA a)(hd:Did oA o' w w'):∃oB',Two w' o' oB' cA cB n pA pB a b/\Did (bothO oA oB) (bothO o' oB') w w':=by
 obtain⟨oB',h1,h2⟩:=h.symm.byB ha hd;rw[h.symm.bes.comm,h1.bes.comm]at h2;exact⟨oB',h1.symm,h2⟩
end
theorem TA{n:CaN}{a:CaS}(h:a.NoP)(k:Int):(a.jn n k).1=a:=by
 obtain⟨h1,h2⟩:=h;have e1:({a with dP:=a.dP.tail}:CaS)=a:=by rw[h1];cases a;simp only at h1;rw[h1];rfl
 have e2:({a with bP:=a.bP.tail}:CaS)=a:=by rw[h2];cases a;simp only at h2;rw[h2];rfl
 unfold CaS.jn CaS.readS;split
 .exact e2
 .split
  .rfl
  .split
   .exact e1
   .split
    .exact e1
    .exact e1
theorem Sm(bl sl jo:Nat)(h1:1<=bl)(h2:bl<=12)(h3:1<=sl)(h4:sl<=8)(h5:4<=jo)(h6:jo<=12):(smN bl sl jo).Ok:=by
 have hp:(sl-1)/4<=1:=by omega
 constructor<;>simp only[smN,CaN.size]<;>omega
open Go Go.RowKit Go.Shelf Tryz
attribute [local go_sem] qYh
end Go.Proofs.YtfhfbpmlnjdfoaaGreatDoor
