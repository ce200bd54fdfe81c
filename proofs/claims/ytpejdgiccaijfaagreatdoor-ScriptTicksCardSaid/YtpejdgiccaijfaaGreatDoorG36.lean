/- A volume that is closed: each command answers -/
import Derived.Test.YtpejdgiccaijfaaGreatDoorG33
set_option maxRecDepth 100000
namespace Go.Proofs.YtpejdgiccaijfaaGreatDoor
open Go Go.RowKit Tryz
theorem we{P:Prop}(h:P:=by
 have HR:=qqh (xq h);have H:=qqh h;clear h;go_enter q1,q2
 go_wp2_with fail
 refine HR.o.mono ?_;rintro e w2 ⟨rfl,hw⟩;rw[hw];clear hw HR;go_wp2
 go_ret
 exact⟨rfl,own,H.o,Did.refl H.o.ca.far⟩):P:=h
section
variable{own own':Nat->Nat}{w w' W W':World}{v:Nat}{q:VoP}{n:CaN}{p:CaP}{a a':CaS}{md:Int}{f m:Int}{lv:Value}{firm:Bool}
theorem xq(h:VolAt own w v q n p a md true):Calls prog 99 #[ptr v] w fun e w'=>e=.returned (.int .i64 16)/\w'=w:=by
 have c:=za h.g 10;simp[Zb]at c;clear h;go_enter func99,ntmps99
 go_wp2
 go_ret
 exact⟨rfl,rfl⟩
namespace fShFlush
theorem q1:type_of% @func66:= @func66
theorem q2:type_of% @ntmps66:= @ntmps66
end fShFlush
open fShFlush in
theorem Zq(h:VolAt own W v q n p a md true):Calls prog 66 #[ptr v] W (xw own W v q n p a md true (.int .i64 16)):=we
namespace fShTick
theorem q1:type_of% @func69:= @func69
theorem q2:type_of% @ntmps69:= @ntmps69
end fShTick
open fShTick in
theorem Xc(h:VolAt own W v q n p a md true):Calls prog 69 #[ptr v] W (xw own W v q n p a md true (.int .i64 16)):=we
namespace fShDetach
theorem q1:type_of% @func72:= @func72
theorem q2:type_of% @ntmps72:= @ntmps72
end fShDetach
open fShDetach in
theorem sZ(h:VolAt own W v q n p a md true):Calls prog 72 #[ptr v] W (xw own W v q n p a md true (.int .i64 16)):=we
namespace fShMode
theorem q1:type_of% @func71:= @func71
theorem q2:type_of% @ntmps71:= @ntmps71
end fShMode
open fShMode in
theorem Xd(h:VolAt own W v q n p a md true):Calls prog 71 #[ptr v,.int .i64 f] W (xw own W v q n p a md true (.int .i64 16)):=we
theorem qP(h:VolAt own W v q n p a md true):Calls prog 65 #[ptr v,sI f m] W (xw own W v q n p a md true (.int .i64 16)):=by
 obtain⟨w1,j⟩:=qqe (W.alloc (.cells #[.int .i64 f,.int .i64 m] 52));have k:=qqu j;have s:=qqh (xq (h.new k));have b:=Y3 h k j;clear h j k;go_enter func65,ntmps65
 go_upto_region 1 with fail
 rw[<-b.o.2.2];go_wp2_with fail
 refine s.o.mono ?_;rintro e w' ⟨rfl,A⟩;rw[A];clear A s;go_wp2
 go_ret
 exact⟨rfl,own,b.o.1.new b.o.2.1,b.o.1.ca.ko b.o.2.1⟩
theorem Xe(h:VolAt own W v q n p a md true):Calls prog 62 #[ptr v,sI f m] W (TR own W v q n p a md true 16 []):=by
 obtain⟨A,k⟩:=qqe (W.heap.size);obtain⟨w1,j⟩:=qqe ((W.alloc (.cells #[ptr v] 49)).alloc (.cells #[.int .i64 f,.int .i64 m] 52));have s:Upd (fun _=>False) W w1:=by rw[j];exact((uur _ W).alloc _).alloc _
 have F:w1.cell? ⟨A,0,none⟩=some (ptr v):=za (show w1.heap[A]?=some (.cells #[ptr v] 49 (0,0)) by rw[j,k];exact(qxk _ _ _ oe).trans (zc W _ rfl)) 0;have D:=qqh (xq (h.new s));have b:=Y4 h s j k;clear h j s k;go_enter func62,ntmps62
 go_upto_region 1 with fail
 rw[<-b.o.2.2.1,<-b.o.2.2.2];go_wp2_with fail
 refine D.o.mono ?_;rintro e G ⟨rfl,E⟩;rw[E];clear E D F;go_wp2
 go_ret2
 exact⟨_,own,rfl,b.o.1.new b.o.2.1,b.o.1.ca.ko b.o.2.1,Ro.nil _ _ _⟩
theorem Zr{L:List Bk}(j:VolAt own W v q n p a md true)(A:Rz own W lv L):Calls prog 64 #[ptr v,.int .i64 f,.bool firm,lv] W (xw own W v q n p a md true (.int .i64 16)):=by
 obtain⟨G,H,rfl⟩:=A.1.rd.j6;clear A;obtain⟨D,k⟩:=qqe (W.heap.size);obtain⟨w1,h⟩:=qqe (((W.alloc (.cells #[ptr v] 49)).alloc (.cells #[.int .i64 f] 3)).alloc (.cells #[.slice G L.length H] 32));have s:Upd (fun _=>False) W w1:=by rw[h];exact(((uur _ W).alloc _).alloc _).alloc _
 have J:w1.cell? ⟨D,0,none⟩=some (ptr v):=za (show w1.heap[D]?=some (.cells #[ptr v] 49 (0,0)) by rw[h,k];exact(((uur (fun _=>False) _).alloc _).alloc _).j4 (zc W _ rfl)) 0;have E:=qqh (xq (j.new s));have b:=Y4 j s h k;clear j h s k;go_enter func64,ntmps64
 go_upto_region 1 with fail
 rw[<-b.o.2.2.1,<-b.o.2.2.2];go_wp2_with fail
 refine E.o.mono ?_;rintro e M ⟨rfl,F⟩;rw[F];clear F E J;go_wp2
 go_ret
 exact⟨rfl,own,b.o.1.new b.o.2.1,b.o.1.ca.ko b.o.2.1⟩
end
end Go.Proofs.YtpejdgiccaijfaaGreatDoor
