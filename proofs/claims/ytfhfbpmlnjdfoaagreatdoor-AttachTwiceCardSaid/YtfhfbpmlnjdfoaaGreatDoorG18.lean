/- What a sector is: GetRecord and its like, by o -/
import Derived.Test.YtfhfbpmlnjdfoaaGreatDoorG17
set_option maxRecDepth 100000
set_option maxHeartbeats 1000000
namespace Go.Proofs.YtfhfbpmlnjdfoaaGreatDoor
open Go Go.RowKit Tryz
theorem wv{P:Prop}(h:P:=by
 have HN:=qqh hN;have Hb:=qqh hb;clear hN hb;go_enter q1b,q2b
 go_wp2_with fail
 change Code.wp _ _ _ _ ((w.alloc (.cells (bkC b).toArray 54)).alloc (.cells d3b.toArray n4b))
 have hr:((w.alloc (.cells (bkC b).toArray 54)).alloc (.cells d3b.toArray n4b)).rangeAt w.heap.size 0 (bkC b):=qYp (zh (zc w _ rfl)) _;have hg:((w.alloc (.cells (bkC b).toArray 54)).alloc (.cells d3b.toArray n4b)).heap[w.heap.size+1]?=some (.cells d3b.toArray n4b):=zc _ _ (by simp);have hu:Upd (fun _=>False) w ((w.alloc (.cells (bkC b).toArray 54)).alloc (.cells d3b.toArray n4b)):=((uur _ w).alloc _).alloc _;generalize (w.alloc (.cells (bkC b).toArray 54)).alloc (.cells d3b.toArray n4b)=w2 at*;have hb2:Below w.heap.size w w2:=Upd.below hu;refine qZj (S:=fun W=>W.rangeAt w.heap.size 0 (bkC b)) (by kernel_rfl) (by rw[qYq];exact hr) (fun hHeld=>?_);refine Wl.l 1 (fun w h=>h) underlying54 (zw _ Hb.out) hHeld ?_;refine Wl.r 0 (fun K hK=>?_);go_simp
 refine(q5b _).mono ?_;rintro e w3 ⟨gs,gt,rfl,hF,hb3⟩;have hb3':Below w2.heap.size w2 w3:=yy hb3;refine hK.o _ _ (Below.range hb3 hHeld) (fun hHeld2=>?_);clear hK K;refine Wl.r 2 (fun K hK=>?_);go_simp
 refine(q6b hF ((HN.o.keep hu (fun h=>h)).below hb3') b Hb.out).mono ?_;rintro e w4 ⟨⟨rs,hr1,hr2,rfl⟩,hb4⟩;have hb4':Below w2.heap.size w2 w4:=hb3'.trans (hb4.mono hb3'.size);have hg4:=(hb4'.block _ (zf hg)).trans hg;have hth:w4.there (w.heap.size+1) 0 n7b:=fun j hj=>by
  rw[za hg4,zg hg4];exact⟨by rw[qYe,qxe (by rw[qXm];exact hj)];rfl,rfl⟩
 have hrl:rs.length=n7b/\∀v∈rs,v.oneCell'=true:=by
  cases hk:d8b b with
  |true=>rw[hr1 hk];exact⟨q9b _,Ar _⟩
  |false=>rw[hr2 hk];exact⟨rfl,qxw.1 (by simpa using q11b:d3b.all (·.oneCell')=true)⟩
 have hst:w4.there (w.heap.size+1) 0 rs.toArray.size:=by rw[show rs.toArray.size=n7b by simpa using hrl.1];exact hth
 have hst2:w4.there (w.heap.size+1) 0 rs.length:=by rw[hrl.1];exact hth
 have hsz2:(prog.info? n4b).map (·.size)=some rs.toArray.size:=by rw[show rs.toArray.size=n7b by simpa using hrl.1];exact Jz
 have hsz3:(prog.info? n4b).map (·.size)=some rs.length:=by rw[hrl.1];exact Jz
 have hU5:Below w.heap.size w (w4.setCells (w.heap.size+1) 0 rs):=zl (hb2.trans (hb4'.mono hu.size)) (zq w4 (w.heap.size+1) 0 _) (qXv _) (fun k e=>by omega);refine hK.o _ _ (Below.range hb4 hHeld2) (fun hHeld3=>?_);clear hK K;refine Wl.i [3,4] ?_;iterate 2 refine Wl.t hHeld3 ?_
 refine Wl.o ?_;refine Wl.r 5 (fun K hK=>?_);rw[if_pos (by rfl)];refine qZk _ _ _ rfl _ _ (List.toArray _) rfl rfl (hst) (hsz2) (qYu hrl.2) ?_;simp only[Act.put,qXi];refine hK.o _ _ ((zq w4 (w.heap.size+1) 0 rs).range hHeld3 (by omega)) (fun hHeld4=>?_);clear hK K;refine Wl.r 6 (fun K hK=>?_);go_simp
 refine hK.o _ _ (hHeld4) (fun _=>?_);clear hK K;refine Wl.d ?_;have HE:=Y5 hU5 hst2 hsz3 hr1 hr2;clear hst hst2 hsz2 hsz3 hU5 hth hg4 hb4 hb4' hb3 hb3' hHeld hHeld2 hHeld3 hHeld4 hF hr hg hu hb2 hr1 hr2 hrl;go_wp2
 exact qYw (zp rfl _ _ (w.heap.size+1) 0 rs _ rfl (qYr _ _ _ _ HE.o.2.1) As rfl HE.o.2.2.1) rfl ⟨⟨rs,HE.o.2.2.2.1,HE.o.2.2.2.2,rfl⟩,HE.o.1⟩):P:=h
def numsR(b:Bk):List Nat:=numsAt b 1 Ux
def okR(b:Bk):Bool:=okGet b 2 Ux (mayR (natsI (numsR b)))
def cdR(b:Bk):Int:=xe b 2 Ux (mayR (natsI (numsR b)))
def YX(w:World)(b:Bk):Ending->World->Prop:=vl w (okR b) (dsR (natsI (numsR b))) tH (cdR b)
theorem sS{w:World}{gs gt:Nat}(hF:Qj w gs gt)(hN:Nib w)(b:Bk)(hb:b.length=64):
  Calls prog 177 #[Wb gs gt,.agg (bkC b).toArray] w (YX w b):=by
 obtain⟨hs,v,hv,hB⟩:=hF;refine QQ (w:=w) b hb 2 Ux ⟨by simp[Ux],by decide⟩ 7 rfl (by decide) gs 7 252 253 #[.pointer (some ⟨gt,0,none⟩)] #[] (.func (.func 250) #[] #[]) (mayR (natsI (numsR b))) (dsR (natsI (numsR b)))
  (by rw[qg];exact infoThR) (wo _) hs hN (fun _ _=>rfl) (fun _ _=>rfl) ?_ ?_
 .intro W gl c hc hW hr;subst hc;exact qH _ (by show(natsI (numsAt b 1 _)).length=7;simp[natsI,zP,Ux]) (qXv _) (by decide) ((uuo (S:=fun _=>False) hW).ja hv (fun h=>h)) (hB.below hW) hr
 .intro _ W gl c hc hW hr;subst hc;exact Ap _ (by show(natsI (numsAt b 1 _)).length=7;simp[natsI,zP,Ux]) hr
namespace fGetR2
theorem q1b:type_of% @func107:= @func107
theorem q2b:type_of% @ntmps107:= @ntmps107
abbrev d3b:= @tH
abbrev n4b:Nat:=101
theorem q5b:type_of% @xC:= @xC
theorem q6b:type_of% @sS:= @sS
abbrev n7b:Nat:=7
abbrev d8b:= @okR
theorem q9b:type_of% @qg:= @qg
theorem Ar:type_of% @wo:= @wo
theorem q11b:type_of% @ZD:= @ZD
theorem Jz:type_of% @infoThR:= @infoThR
theorem As:type_of% @underlying101:= @underlying101
end fGetR2
open fGetR2 in
theorem QT{w:World}(hN:Nib w)(b:Bk)(hb:b.length=64):
  Calls prog 107 #[.agg (bkC b).toArray] w (YX w b):=wv
def numsS(b:Bk):List Nat:=numsAt b 1 szS
def okS(b:Bk):Bool:=okGet b 1 szS (mayS (natsI (numsS b)))
def cdS(b:Bk):Int:=xe b 1 szS (mayS (natsI (numsS b)))
def YY(w:World)(b:Bk):Ending->World->Prop:=vl w (okS b) (dsS (natsI (numsS b))) zeroS (cdS b)
theorem sU{w:World}{gs gt:Nat}(hF:Qy w gs gt)(hN:Nib w)(b:Bk)(hb:b.length=64):
  Calls prog 129 #[Wm gs gt,.agg (bkC b).toArray] w (YY w b):=by
 obtain⟨hs,hB⟩:=hF;refine QR (w:=w) b hb 1 szS ⟨by simp[szS],by decide⟩ 7 rfl (by decide) gs 7 196 127 #[.pointer (some ⟨gt,0,none⟩)] #[] (.func (.func 125) #[] #[]) (mayS (natsI (numsS b))) (dsS (natsI (numsS b)))
  (by rw[qd];exact yw) (qe _) hs hN (fun _ _=>rfl) (fun _ _=>rfl) ?_ ?_
 .intro W gl c hc hW hr;subst hc;exact YO _ (by show(natsI (numsAt b 1 _)).length=7;simp[natsI,zP,szS]) (qXv _) (by decide) (hB.below hW) hr
 .intro _ W gl c hc hW hr;subst hc;exact Ao _ (by show(natsI (numsAt b 1 _)).length=7;simp[natsI,zP,szS]) hr
namespace fGetS2
theorem q1b:type_of% @func68:= @func68
theorem q2b:type_of% @ntmps68:= @ntmps68
abbrev d3b:= @zeroS
abbrev n4b:Nat:=40
theorem q5b:type_of% @vP:= @vP
theorem q6b:type_of% @sU:= @sU
abbrev n7b:Nat:=7
abbrev d8b:= @okS
theorem q9b:type_of% @qd:= @qd
theorem Ar:type_of% @qe:= @qe
theorem q11b:type_of% @qT:= @qT
theorem Jz:type_of% @yw:= @yw
theorem As:type_of% @underlying40:= @underlying40
end fGetS2
open fGetS2 in
theorem QU{w:World}(hN:Nib w)(b:Bk)(hb:b.length=64):
  Calls prog 68 #[.agg (bkC b).toArray] w (YY w b):=wv
def YZ(w:World)(b:Bk):Ending->World->Prop:=vl w (okP b) (dsP (natsI (numsP b))) vI (cdP b)
theorem sV{w:World}{gs gt:Nat}(hF:Ql w gs gt)(hN:Nib w)(b:Bk)(hb:b.length=64):
  Calls prog 245 #[Wc gs gt,.agg (bkC b).toArray] w (YZ w b):=by
 obtain⟨hs,v,hv,hB⟩:=hF;refine QS (w:=w) b hb 3 Vw ⟨by simp[Vw],by decide⟩ 20 rfl (by decide) gs 20 308 310 #[.pointer (some ⟨gt,0,none⟩)] #[] (.func (.func 307) #[] #[]) (mayP (natsI (numsP b))) (dsP (natsI (numsP b)))
  (by rw[vq];exact wn) (vr _) hs hN (fun _ _=>rfl) (fun _ _=>rfl) ?_ ?_
 .intro W gl c hc hW hr;subst hc;exact qI _ (by show(natsI (numsAt b 1 _)).length=20;simp[natsI,zP,Vw]) (qXv _) (by decide) ((uuo (S:=fun _=>False) hW).ja hv (fun h=>h)) (hB.below hW) hr
 .intro _ W gl c hc hW hr;subst hc;exact Aq _ (by show(natsI (numsAt b 1 _)).length=20;simp[natsI,zP,Vw]) hr (qXv _) (by decide)
namespace fGetP2
theorem q1b:type_of% @func172:= @func172
theorem q2b:type_of% @ntmps172:= @ntmps172
abbrev d3b:= @vI
abbrev n4b:Nat:=280
theorem q5b:type_of% @vm:= @vm
theorem q6b:type_of% @sV:= @sV
abbrev n7b:Nat:=20
abbrev d8b:= @okP
theorem q9b:type_of% @vq:= @vq
theorem Ar:type_of% @vr:= @vr
theorem q11b:type_of% @ZE:= @ZE
theorem Jz:type_of% @wn:= @wn
theorem As:type_of% @underlying280:= @underlying280
end fGetP2
open fGetP2 in
theorem Xa{w:World}(hN:Nib w)(b:Bk)(hb:b.length=64):
  Calls prog 172 #[.agg (bkC b).toArray] w (YZ w b):=wv
namespace fGuardI
end fGuardI
namespace fGuardI
end fGuardI
theorem QV:(prog.info? 159).map (·.size)=some 6:=by kernel_rfl
namespace fGuardC
end fGuardC
namespace fGuardC
end fGuardC
theorem QW:(prog.info? 165).map (·.size)=some 13:=by kernel_rfl
namespace fGuardF
end fGuardF
namespace fGuardF
end fGuardF
end Go.Proofs.YtfhfbpmlnjdfoaaGreatDoor
