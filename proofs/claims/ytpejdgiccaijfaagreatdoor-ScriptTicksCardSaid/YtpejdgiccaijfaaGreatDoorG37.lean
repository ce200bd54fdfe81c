/- Ops that there are not. -/
import Derived.Test.YtpejdgiccaijfaaGreatDoorG33
set_option maxRecDepth 100000
set_option maxHeartbeats 1000000
namespace Go.Proofs.YtpejdgiccaijfaaGreatDoor
open Go Go.RowKit Tryz
theorem zbr{m:Int}(a:m<1\/64<m)(w:World):Calls prog 24 #[.int .i64 m] w fun e b=>e=.returned (.bool false)/\b=w:=by
 by_cases h1:1<=m
 .have q1:¬m<=64:=oM;clear a;go_enter func24,ntmps24
  go_wp2
  go_ret
  exact⟨rfl,rfl⟩
 .clear a;go_enter func24,ntmps24
  go_wp2
  go_ret
  exact⟨rfl,rfl⟩
theorem zfC{r:Nat}{d fr m fi:Int}{kp:Value}(_:kp.oneCell'=true)(n:d<0\/13<=d\/(d=1\/d=2)/\(m<1\/64<m))(w:World):
  Calls prog 11 #[ptr r,uJ d fr m fi kp] w fun e p=>e=.returned (.agg #[.int .i64 1,.int .i64 0,.slice none 0 0])/\Below w.heap.size w p:=by
 obtain⟨ob,a⟩:=qqe (w.heap.size);obtain⟨w1,b⟩:=qqe ((w.alloc (.cells #[.int .i64 d,.int .i64 fr,.int .i64 m,.int .i64 fi,kp] 30)).alloc (.cells #[.int .i64 0,.int .i64 0,.slice none 0 0] 34));have q:Below w.heap.size w w1:=by rw[b];exact((qxl _ w).alloc (qXp _) _).alloc oe _
 have k:w1.heap[ob]?=some (.cells [.int .i64 d,.int .i64 fr,.int .i64 m,.int .i64 fi,kp].toArray 30 (0,0)):=by rw[b,a];exact(qxk _ _ _ oe).trans (zc w _ rfl)
 have s:w1.heap[ob+1]?=some (.cells #[.int .i64 0,.int .i64 0,.slice none 0 0] 34 (0,0)):=by rw[b,a];exact zc _ _ oe
 have D:=za k 0;have c2:=za k 2;simp at D c2;have v:=vK s;have E:=qqh (zj q (zn w1 (ob+1) 0 [.int .i64 1,.int .i64 0,.slice none 0 0]) (qXp _) (fun L F=>by rw[F,a];exact qXq _));have A:=Y2 b a;clear q k s b a;have G:d<0\/¬d<0/\d>=13\/Hid (m<1\/64<m)/\¬d<0/\¬d>=13/\(d==1)=true\/Hid (m<1\/64<m)/\¬d<0/\¬d>=13/\(d==1)=false/\(d==2)=true:=by
  rcases n with h|h|⟨h|h,j⟩
  .exact .inl h
  .exact .inr (.inl ⟨oM,h⟩)
  .exact .inr (.inr (.inl ⟨qqh j,oM,oM,by simpa using h⟩))
  .exact .inr (.inr (.inr ⟨qqh j,oM,oM,by rw[h];rfl,by simpa using h⟩))
 clear n;rcases G with h1|⟨h1,h2⟩|⟨j,h1,h2,H⟩|⟨j,h1,h2,H,M⟩
 all_goals
  go_enter func11,ntmps11
  go_upto_region 3 with fail
  rw[<-A.o.1,<-A.o.2];go_wp2_with (first
   |(refine qZb rfl _ _ _ rfl _ _ [.int .i64 1,.int .i64 0,.slice none 0 0].toArray rfl rfl v zX (qYo (xZ rfl)) ?_)
   |(go_at_call 24;refine(zbr j.out w1).mono ?_;rintro e p ⟨rfl,J⟩;rw[J])
   |fail)
  exact qYq (zq rfl _ _ (ob+1) 0 [.int .i64 1,.int .i64 0,.slice none 0 0] _ rfl (qYl _ _ _ _ v) underlying34 rfl zX) rfl ⟨rfl,E.o⟩
end Go.Proofs.YtpejdgiccaijfaaGreatDoor
