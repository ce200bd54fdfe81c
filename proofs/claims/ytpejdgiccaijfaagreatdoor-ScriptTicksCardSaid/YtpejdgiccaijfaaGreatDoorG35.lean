/- What Entries tells of a cache's device that ha -/
import Derived.Test.YtpejdgiccaijfaaGreatDoorG31
import Derived.Test.YtpejdgiccaijfaaGreatDoorG26
namespace Go.Proofs.YtpejdgiccaijfaaGreatDoor
open Go Go.RowKit Tryz
theorem uw{b β:Type}{f:b->β}:∀{l:List b},(l.map f).Nodup->∀{x y:b},x∈l->y∈l->f x=f y->x=y
 |[],_,x,_,hx,_,_=>by cases hx
 |z::l,a,x,y,hx,hy,e=>by
  rw[qzi,qzx]at a;rcases qzn.1 hx with j|h1
  .rcases qzn.1 hy with h|h2
   .rw [j,h]
   .exact absurd (by rw[<-j,e];exact List.mem_map_of_mem h2) a.1
  .rcases qzn.1 hy with h|h2
   .exact absurd (by rw[<-h,<-e];exact List.mem_map_of_mem h1) a.1
   .exact uw a.2 h1 h2 e
theorem Zo.nd{n:CaN}{L:List Ent}(h:Zo n L):((L.map Ent.toI).map EI.b).Nodup:=by
 rw[qzj];refine qXb.2 (h.2.2.imp fun h e=>?_);simp only[Function.comp,Ent.toI]at e;omega
def attS(n:CaN):CaS:=((caS0 n 0 (0+1) (fmtF n (List.replicate n.size zB) []) [] [] (List.replicate n.bl zB) [] []).ckpt n).1
theorem RN(n:CaN)(a:CaS)(b:a.ps=List.replicate n.bl (-1,false)):a.ents n=[]:=by
 rw[List.eq_nil_iff_forall_not_mem];intro x hx;obtain⟨j,-,h,-⟩:=(CaS.ents_mem (by rw[b];exact qze)).1 hx;rw[b]at h;refine h ?_;rw[plc,qyg,qyo];split<;>rfl
theorem uj(n:CaN):attS n={caS0 n 0 1 (fmtF n (List.replicate n.size zB) []) [] [] (List.replicate n.bl zB) [] []with dF:=flushF (fmtF n (List.replicate n.size zB) []) (ckO (1+n.pa) n.pa (pagesB 1 [])),which:=1,st:=freeTo (List.replicate n.sl 0) (pos (List.replicate n.sl 0) 3)}:=by
 unfold attS;rw[CaS.NoP.ckpt_eq ⟨rfl,rfl⟩];have a:=RN n (caS0 n 0 (0+1) (fmtF n (List.replicate n.size zB) []) [] [] (List.replicate n.bl zB) [] []) rfl;rw[a];simp only[caS0,Nat.sub_zero,Nat.one_mul,qXy];rfl
theorem ES(n:CaN):(attS n).NoP:=by rw[uj];exact⟨rfl,rfl⟩
theorem zbq(n:CaN):(attS n).Gd n 3:=by
 rw[uj];refine⟨Ek n,⟨fun k v h=>ki,fun q h=>ki,?_,?_,?_,?_,?_,?_⟩,qXz _,qXz _⟩
 .show (2:Nat)<=3;decide
 .show (0:Nat)<=3;decide
 .show (0:Nat)<=3;decide
 .show (0:Nat)<=3;decide
 .show (0:Nat)<=3;decide
 .show (0:Nat)<=3;decide
end Go.Proofs.YtpejdgiccaijfaaGreatDoor
