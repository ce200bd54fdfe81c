/- A row of things of k cells, as the library's s -/
import Derived.Test.YtpejdgiccaijfaaGreatDoorG04
import Derived.Shelf.SlSortCmp.WholeK
namespace Go.Proofs.YtpejdgiccaijfaaGreatDoor
open Go Go.RowKit Go.Shelf Go.Lib Go.Sort Tryz
variable{α:Type}[Inhabited α]
theorem sO(enc:α->List Value){k:Nat}(a:∀x,(enc x).length=k)(n:0<k):∀(L:List α) (j:Nat),j<L.length*k->(L.flatMap enc)[j]?=some ((enc L.toArray[j/k]!)[j%k]!)
 |[],j,h=>by simp at h
 |x::L,j,h=>by
  rw[qyf];by_cases b:j<k
  .rw [qyh (by rw[a];exact b),Nat.div_eq_of_lt b,qXt b,qyk (by rw[a];exact b)];simp[a,b]
  .rw [qyi (by rw[a];omega),a,sO enc a n L (j-k) (by simp[Nat.succ_mul]at h;omega)];have p:j/k=(j-k)/k+1:=by rw[<-Nat.add_div_right _ n,Nat.sub_add_cancel oM]
   have q:j%k=(j-k)%k:=by rw[<-Nat.add_mod_right (j-k) k,Nat.sub_add_cancel oM]
   rw[p,q];have:(x::L).toArray[(j-k)/k+1]! =L.toArray[(j-k)/k]!:=oe;rw[this]
theorem WC{w:World}{e:TypeId}{enc:α->List Value}{k:Nat}(n:∀x,(enc x).length=k)(p:0<k){g off cap:Nat}{L:List α}(h:Sl w e k (.slice (some ⟨g,off,none⟩) L.length cap) L.length (L.flatMap enc)):HoldsK enc k w g off L.toArray:=by
 obtain⟨s,⟨a,-⟩|⟨v,A,D,E,a,b,-,-,-,q⟩⟩:=h
 .cases a
 .cases a;intro j hj;rw[size_flatK]at hj;simp only[qXi]at hj;refine⟨?_,zf b _⟩;rw[za b,get_flatK _ _ _ _ oC];exact q j _ (sO enc n p L j hj)
theorem ZV{w:World}{e:TypeId}{enc:α->List Value}{k:Nat}(s:∀x,(enc x).length=k)(G:0<k){g off cap:Nat}{L:List α}(h:Sl w e k (.slice (some ⟨g,off,none⟩) L.length cap) L.length (L.flatMap enc))(d:Array α)(b:d.size=L.length)(n:Nat)(os:Array Obj):
  Sl (sortWorldK enc k w g off n d os) e k (.slice (some ⟨g,off,none⟩) L.length cap) L.length (d.toList.flatMap enc)/\Upd (fun a=>a=g) w (sortWorldK enc k w g off n d os):=by
 obtain⟨U,⟨j,-⟩|⟨V,W,X,v,j,A,D,H,J,Y⟩⟩:=h
 .cases j
 .cases j;have M:=zd A;have N:g<(w.heap.modify g (onCells (putCells id off (flatK enc k d)))).size:=by simpa using M
  have p:(sortWorldK enc k w g off n d os).heap=w.heap.modify g (onCells (putCells id off (flatK enc k d)))++os:=rfl;have O:(sortWorldK enc k w g off n d os).heap[g]?=some (.cells (putCells id off (flatK enc k d) v) e (0,0)):=by
   rw[p,Array.getElem?_append_left N,Array.getElem?_modify,if_pos rfl,A];rfl
  have E:(d.toList.flatMap enc).length=L.length*k:=by rw[yI (f:=enc) s,qxh,b]
  refine⟨⟨E,.inr ⟨g,off,cap,_,rfl,O,D,H,by simpa[putCells]using J,fun a u q=>?_⟩⟩,rfl,rfl,rfl,by rw[p];simp,fun i hi Q=>?_⟩
  .have F:a<L.length*k:=by rw[<-E];exact(qym.1 q).1
   have S:=sO enc s G d.toList a (by rw[qxh,b];exact F);rw[S]at q;have T:off+a<v.size:=by have:=qXv k D;omega
   simp only[putCells,Array.getElem?_mapIdx,qxe T,Option.map_some];rw[if_pos ⟨oM,by rw[size_flatK,b];omega⟩,Nat.add_sub_cancel_left,get_flatK _ _ _ _ (by rw[b];exact F)];simpa using q
  .rw [p,Array.getElem?_append_left oz,Array.getElem?_modify,if_neg (fun e=>Q e.symm)]
end Go.Proofs.YtpejdgiccaijfaaGreatDoor
