/- A cache: Wipe, where nothing is planned; secto -/
import Derived.Test.YtpejdgiccaijfaaGreatDoorG25
import Derived.Test.YtpejdgiccaijfaaGreatDoorG23
namespace Go.Proofs.YtpejdgiccaijfaaGreatDoor
open Go Go.RowKit Tryz
section
variable{n:CaN}{a:CaS}
theorem zbg(F:List Bk)(L:List (Nat×Bk)):∀b,wrsR F L b []=⟨F,b++L,[],0⟩:=by
 induction L with
 |nil=>intro b;simp[wrsR]
 |cons x L h=>intro b;rw[wrsR,vc];dsimp only;rw[if_pos rfl,h];simp
theorem zbh(F:List Bk)(O L:List (Nat×Bk)):saveR F O [] L=⟨flushF F (O++L),[],[],0⟩:=by
 unfold saveR;rw[zbg,if_pos rfl,uF]
theorem CaS.NoP.ckpt_eq(b:a.NoP):a.ckpt n=({a with bF:=flushF a.bF a.bO,bO:=[],bP:=[],dF:=flushF (flushF a.dF a.dO) (ckO (1+(1-a.which)*n.pa) n.pa (pagesB (a.next-1) (a.ents n))),dO:=[],dP:=[],which:=1-a.which,cov:=a.next-1,W:=[],st:=freeTo a.st (pos a.st 3)},0):=by
 obtain⟨h1,h2⟩:=b;have h:flushR a.bF a.bO a.bP=⟨flushF a.bF a.bO,[],[],0⟩:=by rw[h2];rfl
 have k:flushR a.fb.dF a.fb.dO a.fb.dP=⟨flushF a.dF a.dO,[],[],0⟩:=by show flushR a.dF a.dO a.dP=_;rw[h1];rfl
 have j:a.fb.fd.svR n=⟨flushF (flushF a.dF a.dO) (ckO (1+(1-a.which)*n.pa) n.pa (pagesB (a.next-1) (a.ents n))),[],[],0⟩:=by
  have:a.fb.fd.svR n=saveR (flushR a.dF a.dO a.dP).F (flushR a.dF a.dO a.dP).O (flushR a.dF a.dO a.dP).P (ckO (1+(1-a.which)*n.pa) n.pa (pagesB (a.next-1) (a.ents n))):=rfl;rw[this,h1];exact zbh _ _ _
 unfold CaS.ckpt;rw[if_neg (by rw[h];exact fun b=>b rfl),if_neg (by rw[k];exact fun b=>b rfl),if_neg (by rw[j];exact fun b=>b rfl)];refine Prod.ext ?_ rfl;show a.fb.fd.ckd n=_;unfold CaS.ckd;rw[j];show({a.fb.fd with dF:=_,dO:=_,dP:=_,which:=_,cov:=_,W:=_,st:=_}:CaS)=_;have p:a.fb.fd={a with bF:=flushF a.bF a.bO,bO:=[],bP:=[],dF:=flushF a.dF a.dO,dO:=[],dP:=[]}:=by
  unfold CaS.fd CaS.fb;rw[h];show({a with bF:=_,bO:=_,bP:=_,dF:=(flushR a.dF a.dO a.dP).F,dO:=(flushR a.dF a.dO a.dP).O,dP:=(flushR a.dF a.dO a.dP).P}:CaS)=_;rw[h1];rfl
 rw[p]
end
end Go.Proofs.YtpejdgiccaijfaaGreatDoor
