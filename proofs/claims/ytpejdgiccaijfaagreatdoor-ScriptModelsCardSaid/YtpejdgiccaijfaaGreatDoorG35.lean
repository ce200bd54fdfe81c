/- What Entries tells of a cache's device that ha -/
import Derived.Test.YtpejdgiccaijfaaGreatDoorG30
import Derived.Test.YtpejdgiccaijfaaGreatDoorG31
namespace Go.Proofs.YtpejdgiccaijfaaGreatDoor
open Go Go.RowKit Tryz
theorem vL{α β:Type}{f:α->β}:∀{l:List α},(l.map f).Nodup->∀{x y:α},x∈l->y∈l->f x=f y->x=y
 |[],_,x,_,hx,_,_=>by cases hx
 |z::l,h,x,y,hx,hy,e=>by
  rw[qzh,qzw]at h;rcases qzm.1 hx with e1|h1
  .rcases qzm.1 hy with e2|h2
   .rw [e1,e2]
   .exact absurd (by rw[<-e1,e];exact List.mem_map_of_mem h2) h.1
  .rcases qzm.1 hy with e2|h2
   .exact absurd (by rw[<-e2,<-e];exact List.mem_map_of_mem h1) h.1
   .exact vL h.2 h1 h2 e
theorem sa.nd{n:CaN}{L:List Ent}(h:sa n L):((L.map Ent.toI).map EI.b).Nodup:=by
 rw[qzi];refine qXa.2 (h.2.2.imp fun h e=>?_);simp only[Function.comp,Ent.toI]at e;omega
def SK(n:CaN):CaS:=((caS0 n 0 (0+1) (fmtF n (List.replicate n.size zB) []) [] [] (List.replicate n.bl zB) [] []).ckpt n).1
end Go.Proofs.YtpejdgiccaijfaaGreatDoor
