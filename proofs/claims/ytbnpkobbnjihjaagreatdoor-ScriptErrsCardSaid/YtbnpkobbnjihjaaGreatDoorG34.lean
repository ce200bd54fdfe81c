/- Ops that there are not. -/
import Derived.Test.YtbnpkobbnjihjaaGreatDoorG31
set_option maxRecDepth 100000
set_option maxHeartbeats 1000000
namespace Go.Proofs.YtbnpkobbnjihjaaGreatDoor
open Go Go.RowKit Tryz
theorem zbz{m:Int}(b:m<1\/64<m)(w:World):Calls prog 20 #[.int .i64 m] w fun e j=>e=.returned (.bool false)/\j=w:=by
 by_cases h1:1<=m
 .have q1:¬m<=64:=oM;clear b;go_enter func20,ntmps20
  go_wp2
  go_ret
  exact⟨rfl,rfl⟩
 .clear b;go_enter func20,ntmps20
  go_wp2
  go_ret
  exact⟨rfl,rfl⟩
theorem zfN{r:Nat}{d fr m fi:Int}{kp:Value}(_:kp.oneCell'=true)(p:d<0\/13<=d\/(d=1\/d=2)/\(m<1\/64<m))(w:World):
  Calls prog 10 #[ptr r,xI d fr m fi kp] w fun e q=>e=.returned (.agg #[.int .i64 1,.int .i64 0,.slice none 0 0])/\Below w.heap.size w q:=by
 obtain⟨ob,b⟩:=qqe (w.heap.size);obtain⟨w1,j⟩:=qqe ((w.alloc (.cells #[.int .i64 d,.int .i64 fr,.int .i64 m,.int .i64 fi,kp] 25)).alloc (.cells #[.int .i64 0,.int .i64 0,.slice none 0 0] 45));have s:Below w.heap.size w w1:=by rw[j];exact((qxl _ w).alloc (qXp _) _).alloc oe _
 have n:w1.heap[ob]?=some (.cells [.int .i64 d,.int .i64 fr,.int .i64 m,.int .i64 fi,kp].toArray 25 (0,0)):=by rw[j,b];exact(qxk _ _ _ oe).trans (zc w _ rfl)
 have v:w1.heap[ob+1]?=some (.cells #[.int .i64 0,.int .i64 0,.slice none 0 0] 45 (0,0)):=by rw[j,b];exact zc _ _ oe
 have E:=za n 0;have c2:=za n 2;simp at E c2;have A:=vy v;have F:=qqh (zj s (zo w1 (ob+1) 0 [.int .i64 1,.int .i64 0,.slice none 0 0]) (qXp _) (fun L G=>by rw[G,b];exact qXq _));have D:=Y2 j b;clear s n v j b;have H:d<0\/¬d<0/\d>=13\/Hid (m<1\/64<m)/\¬d<0/\¬d>=13/\(d==1)=true\/Hid (m<1\/64<m)/\¬d<0/\¬d>=13/\(d==1)=false/\(d==2)=true:=by
  rcases p with h|h|⟨h|h,k⟩
  .exact .inl h
  .exact .inr (.inl ⟨oM,h⟩)
  .exact .inr (.inr (.inl ⟨qqh k,oM,oM,by simpa using h⟩))
  .exact .inr (.inr (.inr ⟨qqh k,oM,oM,by rw[h];rfl,by simpa using h⟩))
 clear p;rcases H with h1|⟨h1,h2⟩|⟨k,h1,h2,J⟩|⟨k,h1,h2,J,M⟩
 all_goals
  go_enter func10,ntmps10
  go_upto_region 3 with fail
  rw[<-D.o.1,<-D.o.2];go_wp2_with (first
   |(refine qZc rfl _ _ _ rfl _ _ [.int .i64 1,.int .i64 0,.slice none 0 0].toArray rfl rfl A zO (qYo (yA rfl)) ?_)
   |(go_at_call 20;refine(zbz k.out w1).mono ?_;rintro e q ⟨rfl,K⟩;rw[K])
   |fail)
  exact qYq (zq rfl _ _ (ob+1) 0 [.int .i64 1,.int .i64 0,.slice none 0 0] _ rfl (qYl _ _ _ _ A) underlying45 rfl zO) rfl ⟨rfl,F.o⟩
end Go.Proofs.YtbnpkobbnjihjaaGreatDoor
