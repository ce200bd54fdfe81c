/- What Entries tells of a cache's device that ha -/
import Derived.Test.YtbnpkobbnjihjaaGreatDoorG32
import Derived.Test.YtbnpkobbnjihjaaGreatDoorG30
namespace Go.Proofs.YtbnpkobbnjihjaaGreatDoor
open Go Go.RowKit Tryz
theorem ub{h β:Type}{f:h->β}:∀{l:List h},(l.map f).Nodup->∀{x y:h},x∈l->y∈l->f x=f y->x=y
 |[],_,x,_,hx,_,_=>by cases hx
 |z::l,b,x,y,hx,hy,e=>by
  rw[qzh,qzw]at b;rcases qzm.1 hx with k|h1
  .rcases qzm.1 hy with j|h2
   .rw [k,j]
   .exact absurd (by rw[<-k,e];exact List.mem_map_of_mem h2) b.1
  .rcases qzm.1 hy with j|h2
   .exact absurd (by rw[<-j,<-e];exact List.mem_map_of_mem h1) b.1
   .exact ub b.2 h1 h2 e
theorem sj.nd{n:CaN}{L:List Ent}(h:sj n L):((L.map Ent.toI).map EI.b).Nodup:=by
 rw[qzi];refine qXa.2 (h.2.2.imp fun h e=>?_);simp only[Function.comp,Ent.toI]at e;omega
def attS(n:CaN):CaS:=((caS0 n 0 (0+1) (fmtF n (List.replicate n.size zB) []) [] [] (List.replicate n.bl zB) [] []).ckpt n).1
theorem Rv(n:CaN)(a:CaS)(b:a.ps=List.replicate n.bl (-1,false)):a.ents n=[]:=by
 rw[List.eq_nil_iff_forall_not_mem];intro x hx;obtain⟨j,-,h,-⟩:=(CaS.ents_mem (by rw[b];exact qzd)).1 hx;rw[b]at h;refine h ?_;rw[plc,qyf,qyn];split<;>rfl
theorem vR(n:CaN):attS n={caS0 n 0 1 (fmtF n (List.replicate n.size zB) []) [] [] (List.replicate n.bl zB) [] []with dF:=flushF (fmtF n (List.replicate n.size zB) []) (ckO (1+n.pa) n.pa (pagesB 1 [])),which:=1,st:=freeTo (List.replicate n.sl 0) (pos (List.replicate n.sl 0) 3)}:=by
 unfold attS;rw[CaS.NoP.ckpt_eq ⟨rfl,rfl⟩];have b:=Rv n (caS0 n 0 (0+1) (fmtF n (List.replicate n.size zB) []) [] [] (List.replicate n.bl zB) [] []) rfl;rw[b];simp only[caS0,Nat.sub_zero,Nat.one_mul,qXy];rfl
theorem tn(n:CaN):(attS n).NoP:=by rw[vR];exact⟨rfl,rfl⟩
theorem Tz(n:CaN):(attS n).Gd n 3:=by
 rw[vR];refine⟨Em n,⟨fun k v h=>jS,fun q h=>jS,?_,?_,?_,?_,?_,?_⟩,qXz _,qXz _⟩
 .show (2:Nat)<=3;decide
 .show (0:Nat)<=3;decide
 .show (0:Nat)<=3;decide
 .show (0:Nat)<=3;decide
 .show (0:Nat)<=3;decide
 .show (0:Nat)<=3;decide
end Go.Proofs.YtbnpkobbnjihjaaGreatDoor
