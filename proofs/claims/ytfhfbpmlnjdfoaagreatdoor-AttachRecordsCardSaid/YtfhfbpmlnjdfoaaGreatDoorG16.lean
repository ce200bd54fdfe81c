/- The iterator over the slots in a state: its co -/
import Derived.RangeFuncNested
import Derived.RangeFuncBound
import Derived.RangeFuncCalls
import Derived.RangeFuncLeaves
import Derived.RangeFuncBox
import Derived.Shelf.Abstract
import Derived.OwnWalkIn
import Derived.TacticsInMore
import Derived.LoopNIn
import Derived.LoopIn
import Derived.Maps.AppendAt
import Derived.Test.YtfhfbpmlnjdfoaaGreatDoorG15
import Derived.RangeFuncWrites
set_option maxRecDepth 100000
set_option maxHeartbeats 2000000
namespace Go.Proofs.YtfhfbpmlnjdfoaaGreatDoor
open Go Go.RowKit Go.Shelf
attribute [local go_sem] qYh
def xx(l:List Int)(st:Int)(k:Nat):List Nat:=(List.range k).filter fun i=>l[i]?.getD 0==st
abbrev pos(l:List Int)(st:Int):List Nat:=xx l st l.length
theorem wP{l:List Int}{st:Int}{k:Nat}(h:(l[k]?.getD 0==st)=true):xx l st (k+1)=xx l st k++[k]:=by simp[xx,List.range_succ,h]
theorem qh{l:List Int}{st:Int}{k:Nat}(h:(l[k]?.getD 0==st)=false):xx l st (k+1)=xx l st k:=by simp[xx,List.range_succ,h]
theorem VN(l:List Int)(st:Int)(k:Nat):(xx l st k).length<=k:=by have:=List.length_filter_le (fun i=>l[i]?.getD 0==st) (List.range k);simpa[xx]using this
theorem vV(l:List Int)(st:Int){k m:Nat}(h:k<=m):xx l st k<+:xx l st m:=by
 induction m with
 |zero=>
  obtain rfl:k=0:=by omega
  exact List.prefix_rfl
 |succ m ih=>
  by_cases hk:k=m+1
  .subst hk;exact List.prefix_rfl
  .refine (ih (by omega)).trans ?_;by_cases hb:(l[m]?.getD 0==st)=true
   .rw [wP hb];exact List.prefix_append _ _
   .rw [qh (by simpa using hb)];exact List.prefix_rfl
theorem Za(l:List Int)(st:Int){k m:Nat}(h:k<m)(hb:(l[k]?.getD 0==st)=true):(xx l st k).length<(xx l st m).length:=by
 have h1:=(vV l st (show k+1<=m by omega)).length_le;rw[wP hb]at h1;simp at h1;omega
theorem JP(F:Fence)(n:Nat)(h7:F.fn 227)(hro:F.round=none)(hn:1<=n)(S:Nat->Prop)(l Bs Bt b off cap:Nat)(zs:List Int)(st:Int)(hle:zs.length<=1024)(hb:¬S b)(hBt:¬S Bt)(J Jx:List Nat->World->Prop)
  (hY:∀pre (x:Nat) W,J pre W->pre.length<(pos zs st).length->YieldAt F (n-1) Tryz.prog l #[.int .i64 (x:Int)] W fun e W'=>
   (e=.returned (.bool true)/\J (pre++[x]) W'/\Upd S W W')\/(e=.returned (.bool false)/\Jx (pre++[x]) W'))
  (W:World) (hbW:b<W.heap.size) (hBtW:Bt<W.heap.size) (hBs:W.cell? ⟨Bs,0,none⟩=some (.slice (some ⟨b,off,none⟩) zs.length cap)) (hct:W.cell? ⟨Bt,0,none⟩=some (.int .i64 st))
  (hc:∀j,j<zs.length->W.cell? ⟨b,off+j,none⟩=some (.int .i64 (zs[j]?.getD 0))) (h0:J [] W):
  CallsIn F n Tryz.prog 227 #[.func (.yield l) #[] #[],.pointer (some ⟨Bs,0,none⟩),.pointer (some ⟨Bt,0,none⟩)] W fun e W'=>(∃v,e=.returned v)/\
   ((∃ys,ys=pos zs st/\J ys W')\/(∃pre,pre<+:pos zs st/\Jx pre W')):=by
 refine callsIn_of_wp Tryz.func227 rfl h7 ?_ hro;simp only[Tryz.ntmps227,qXm,qze,qzh,Nat.reduceAdd,Nat.reduceSub,qxi,qxj,qXg,qxz,qzz,qya]
 gi_wp2
 gi_loopw [8] (fun i wr=>∃k:Nat,k<=zs.length/\i=.int .i64 k/\J (xx zs st k) wr/\Upd S W wr)
  (fun i _=>zs.length-(intOf i).toNat)
 case atStart=>exact⟨0,qYf _,rfl,h0,uur _ _⟩
 case round=>
  obtain⟨k,hk,rfl,hJs,hnx⟩:=hrel;have hct':wr.cell? ⟨Bt,0,none⟩=some (.int .i64 st):=(hnx.cellAt hBtW hBt).trans hct;by_cases hlt:k<zs.length
  .have hcx':wr.cell? ⟨b,off+k,none⟩=some (.int .i64 (zs[k]?.getD 0)):=(hnx.cellAt hbW hb).trans (hc k hlt);have hgd:Hid (zs[k]?.getD 0=zs[k]):=by show _=_;simp[hlt]
   by_cases hq:(zs[k]==st)=true
   .have hqq:Hid ((zs[k]?.getD 0==st)=true):=by rw[hgd.out];exact hq
    obtain⟨fn,tmps,assign,body,hy,hR⟩:=hY _ k wr hJs (Za zs st hlt hqq.out)
    gi_wp2
    refine hR.mono ?_;rintro e W3 (⟨rfl,hJ3,hk3⟩|⟨rfl,hJx3⟩)
    .gi_wp2
     go_roundw
     case rel=>exact⟨k+1,by omega,by simp,by rw[wP hqq.out];exact hJ3,hnx.trans hk3⟩
     case measure=>simp[intOf];omega
    .gi_wp2
     refine qYw (qZc rfl _ _ _) rfl ?_;exact⟨⟨_,rfl⟩,.inr ⟨_,by rw[<-wP hqq.out];exact vV zs st (by omega),hJx3⟩⟩
   .have hq':(zs[k]==st)=false:=by simpa using hq
    have hqq:Hid ((zs[k]?.getD 0==st)=false):=by rw[hgd.out];exact hq'
    clear hq
    gi_wp2
    refine⟨fun _ h=>(by cases h),?_⟩
    gi_wp2
    go_roundw
    case rel=>exact⟨k+1,by omega,by simp,by rw[qh hqq.out];exact hJs,hnx⟩
    case measure=>simp[intOf];omega
  .obtain rfl:k=zs.length:=by omega
   gi_wp2
   go_end0
   exact⟨⟨_,rfl⟩,.inl ⟨_,rfl,hJs⟩⟩
theorem rE(F:Fence)(n:Nat)(h7:F.fn 227)(hro:F.round=none)(hn:1<=n)(S:Nat->Prop)(Bs Bt b off cap:Nat)(zs:List Int)(st:Int)(w:World)(hle:zs.length<=1024)
  (hb:b<w.heap.size) (hBt:Bt<w.heap.size) (hBs:Bs<w.heap.size) (hbS:¬S b) (hBtS:¬S Bt)
  (hcs:w.cell? ⟨Bs,0,none⟩=some (.slice (some ⟨b,off,none⟩) zs.length cap)) (hct:w.cell? ⟨Bt,0,none⟩=some (.int .i64 st))
  (hc:∀j,j<zs.length->w.cell? ⟨b,off+j,none⟩=some (.int .i64 (zs[j]?.getD 0))):
  SeqStopsK F n Tryz.prog 227 #[.pointer (some ⟨Bs,0,none⟩),.pointer (some ⟨Bt,0,none⟩)] (fun x:Nat=> #[Value.int .i64 (x:Int)]) (Upd S) (fun ys=>ys=pos zs st) (fun pre=>pre<+:pos zs st) (pos zs st).length w:=fun l J Jx W hW _ _ hY h0=>
 JP F n h7 hro hn S l Bs Bt b off cap zs st hle hbS hBtS J Jx hY W (qXy hb hW.size) (qXy hBt hW.size) ((hW.cell (p:=⟨Bs,0,none⟩) hBs).trans hcs) ((hW.cell (p:=⟨Bt,0,none⟩) hBt).trans hct) (fun j hj=>(hW.cell (p:=⟨b,off+j,none⟩) hb).trans (hc j hj)) h0
theorem Yb{A B:World}{row:Option Nat}{b:Nat}{t:TypeId}{v:Value}(hs:Boxed A b t v)(hg:A.grownBy B row)(hr:∀r,row=some r->∃o:Obj,A.heap[r]?=some o/\o.isCells=false):Boxed B b t v:=
 hs.kept hg (fun e=>by
  obtain⟨o,ho,hc⟩:=hr _ e.symm;rw[show A.heap[b]?=_ from hs]at ho;cases ho;simp[Obj.isCells]at hc)
theorem uC{S:Nat->Prop}{A B C:World}(h:Upd S A B)(h':Upd S B C):Upd S A C:=h.trans h'
theorem wE{S:Nat->Prop}{M:Nat}(hS:∀j,M<=j->S j)(W:World)(l:Nat)(o o':Obj)(hl:M<=l)(_:W.heap[l]?=some o)(_:o.isCells=false)(_:o.isWalk=false):Upd S W (W.putObj l o'):=
 ⟨rfl,rfl,rfl,by simp[World.putObj],fun k _ hk=>by
  have:k≠l:=fun e=>hk (hS k (by omega));simp only[World.putObj];rw[qxg (fun e=>this e.symm)]⟩
theorem WB{w:World}{b:Nat}{v:Value}{l:List Int}(h:SlotsAt 327 w b v l)(st:Int)(hpos:0<l.length):
  Calls Tryz.prog 159 #[vL b,.int .i64 st] w fun e w'=>∃Bs Bt g off cap,e=.returned (.func (.func 227) #[] #[.pointer (some ⟨Bs,0,none⟩),.pointer (some ⟨Bt,0,none⟩)])/\
   (w.heap.size<=Bt/\w.heap.size<=g)/\Bs<w'.heap.size/\Bt<w'.heap.size/\g<w'.heap.size/\w'.cell? ⟨Bs,0,none⟩=some (.slice (some ⟨g,off,none⟩) l.length cap)/\w'.cell? ⟨Bt,0,none⟩=some (.int .i64 st)/\
   (∀j,j<l.length->w'.cell? ⟨g,off+j,none⟩=some (.int .i64 (l[j]?.getD 0)))/\Below w.heap.size w w':=by
 have hu0:Upd (fun _=>False) w (w.alloc (.cells #[.int .i64 st] 3)):=(uur _ _).alloc _;have h':=h.new hu0;have hc0:=za h'.str 0;simp at hc0;have HR:=qqh h'.sl.rd;have hle:=h.le;clear h h';go_enter Tryz.func159,Tryz.ntmps159
 go_wp2_with fail
 refine(VM HR.o (by omega)).mono ?_;rintro e w1 ⟨v',rfl,hs1,hf1,hb1⟩;obtain⟨g,off,cap,cur,rfl,hg,_,hcc⟩:=hs1.at hpos;have hlt:=zd hg;go_wp2
 go_ret
 have hsz:=hb1.size;simp at hsz;have hbox:w1.cell? ⟨w.heap.size,0,none⟩=some (.int .i64 st):=(hb1.cell (p:=⟨w.heap.size,0,none⟩) (by simp)).trans (by rw[za (zc _ _ rfl)];simp);have hA:=(uur (fun _=>False) w1).alloc (.cells #[.slice (some ⟨g,off,none⟩) l.length cap] 87);refine⟨w1.heap.size,w.heap.size,g,off,cap,rfl,⟨qXv _,by have:=hf1 g rfl;simp at this;omega⟩,by simp,by simp;omega,by simp;omega,?_,?_,fun j hj=>?_,?_⟩
 .rw [za (zc _ _ rfl)];simp
 .exact (hA.cellAt (by omega) (fun h=>h)).trans hbox
 .refine (hA.cellAt hlt (fun h=>h)).trans ?_;rw[za hg,hcc j _ (yp hj)];simp[hj]
 .exact zj (zj (qxl _ w) (Upd.new hu0 (uuo (S:=fun _=>False) hb1) (fun _ _ h=>h)) (qXv _) (fun _ h=>h.elim)) hA (qXv _) (fun _ h=>h.elim)
theorem VO{w:World}{b:Nat}{v:Value}{l:List Int}(h:SlotsAt 327 w b v l)(st:Int)(hpos:0<l.length):
  Calls Tryz.prog 84 #[vL b,.int .i64 st] w fun e w'=>e=.returned (.int .i64 (pos l st).length)/\Below w.heap.size w w':=by
 have h1:=h.new ((uur (fun _=>False) w).alloc (.cells #[.int .i64 0] 3));have hlen:Hid ((pos l st).length<=1024):=by have h1:=VN l st l.length;have h2:=h.le;exact qXx h1 h2
 have hle:=h.le;clear h;refine(callsIn_wide (n:=3)).1 ?_;refine callsIn_of_wp_marks Tryz.func84 rfl trivial ?_ rfl;simp only[Tryz.ntmps84,qXm,qze,qzh,Nat.reduceAdd,Nat.reduceSub,qxi,qxj,qXg,qxz,qzz,qya]
 gi_wp2_with (refine⟨trivial,?_⟩;gi_at_call 159;refine(callsIn_wide.2 (WB h1 st hpos)).mono ?_;rintro e w1 ⟨Bs,Bt,g,off,cap,rfl,hge,hBs,hBt,hg,hcs,hct,hcl,hb1⟩)
 have bO0:Boxed (w.alloc (.cells #[.int .i64 0] 3)) w.heap.size 3 (.int .i64 0):=Boxed.new w _ _;have bO:Boxed w1 w.heap.size 3 (.int .i64 0):=(hb1.block _ (by simp)).trans bO0;have hsz:=hb1.size;simp at hsz;have hB0:Below w.heap.size w w1:=zj ((qxl _ w).alloc (qXv _) _) (uuo (S:=fun _=>False) hb1) (qXv _) (fun _ h=>h.elim);refine wpIn_rangeFunc_ownF rfl (by omega) (gf:=227) (lb:= #[.pointer (some ⟨Bs,0,none⟩),.pointer (some ⟨Bt,0,none⟩)]) rfl trivial (enters_of Tryz.func227 (by kernel_rfl) rfl)
  (rE Fence.wide _ trivial rfl (by omega) (fun j=>w1.heap.size<=j\/j=w.heap.size) Bs Bt g off cap l st w1 hle hg hBt hBs (by simp at hge;omega) (by simp at hge;omega) hcs hct hcl) uC (fun W l o o' hl=>wE (M:=w1.heap.size) (fun j h=> .inl h) W l o o' hl) (qxl _ _) (fun _=>rfl)
  (fun pre W=>Boxed W w.heap.size 3 (.int .i64 pre.length)/\Below w.heap.size w W)
  (fun _ _ _=>False)
  (OwnFrom.and (Own.from (I:=fun(s:List Nat) A=>Boxed A w.heap.size 3 (.int .i64 s.length)) (fun s A B row hs hg hr=>Yb hs hg hr) _) (ownFrom_below (qXv _) (by omega)))
  (fun _ _ _ _ _ hs _ _=>hs)
  ⟨bO,hB0⟩
  (fun x=>{tmps:= #[vL b,Value.int IntKind.i64 st,undef,undef,Value.int IntKind.i64 0,
     Value.pointer (some {block:=w.heap.size,off:=0}),vL b,Value.int IntKind.i64 st,
     Value.func (Fn.func 227) #[]
      #[Value.pointer (some {block:=Bs,off:=0}),Value.pointer (some {block:=Bt,off:=0})],
     .int .i64 x,undef,undef,undef],defers:=[]}) ?assign ?body ?done ?stop
 case assign=>
  intro l x W K hK
  gi_wp2
  simpa using hK
 case body=>
  rintro l pre x W ⟨hv,hB⟩ hlt;have hc:=hv.cell;have hf:=hv.frozen;have hn:(pre.length:Int)<1024:=by have:=hlen.out;omega
  gi_wp2
  rw[show((pre.length:Int)+1)=((pre++[x]).length:Int) by simp];exact⟨KeepsOthers.setCell _ _ _,(zi W _ _ _).mono (fun k _ hk=> .inr hk),hv.set _,hB.setCell (p:=⟨w.heap.size,0,none⟩) (qXv _) _⟩
 case done=>
  rintro D ys W hD rfl ⟨hv,hB⟩ hK;have hc:=hv.cell
  gi_wp2
  refine⟨by simp,.inl ⟨_,_,rfl,run_takeDeferred hK,?_⟩⟩;exact⟨_,results_tmp rfl _ _ _,rfl,hB.trans (belowK_b (w:=w) (qXv _) W D _ _ (by omega) hK rfl rfl)⟩
 case stop=>
  rintro D c pre W _ _ h _;exact h.elim
end Go.Proofs.YtfhfbpmlnjdfoaaGreatDoor
namespace Go.Proofs.YtfhfbpmlnjdfoaaGreatDoor
open Go Go.RowKit
theorem Zb(l:List Int):(allocList l).length=l.length:=by simp[allocList]
section
variable{own:Nat->Nat}{w w':World}{c:Nat}{n:CaN}{p:CaP}{a:CaS}
theorem Tz(h:CaAt own w c n p a):
  Calls Tryz.prog 324 #[ptr p.ss] w (zu own w c n p {a with st:=allocList a.st} (.tuple #[.int .i64 (allocVal a.st),.int .i64 (allocCode a.st)])):=by
 obtain⟨v,hi,hb,hs⟩:=h.open6;exact(VL hi).mono fun _ _ ⟨he,hi',hu⟩=>
  have hu':=hu.mono (fun j _ hj=>hs j hj)
  ⟨he,_,h.turn6 hu' ⟨v,hi',hb,hs⟩ (Zb _),h.did6 hu'⟩
theorem vW(h:CaAt own w c n p a)(st:Int):
  Calls Tryz.prog 84 #[ptr p.ss,.int .i64 st] w (zu own w c n p a (.int .i64 (pos a.st st).length)):=by
 obtain⟨v,hi,-,-⟩:=h.ss;exact(VO hi st (by rw[h.sl];exact h.ok.s1)).mono fun _ _ ⟨he,hb⟩=>⟨he,own,h.new (uuo hb),h.didNew (uuo hb)⟩
end
open Go Go.RowKit Go.Shelf
attribute [local go_sem] qYh
abbrev AC(base:Nat){m:Nat}(x:{i:Nat//i<m}):Array Value:= #[.int .i64 (x.1:Int),.int .i64 ((base:Int)+(x.1:Int))]
theorem JQ(n:Nat)(hn:1<=n)(S:Nat->Prop)(l Bm Bb base m:Nat)(hm:m<=4096)(hbs:base<=4096)(hBm:¬S Bm)(hBb:¬S Bb)(J Jx:List {i:Nat//i<m}->World->Prop)
  (hY:∀pre (x:{i:Nat//i<m}) W,J pre W->pre.length<m->YieldAt Fence.wide (n-1) Tryz.prog l (AC base x) W fun e W'=>
   (e=.returned (.bool true)/\J (pre++[x]) W'/\Upd S W W')\/(e=.returned (.bool false)/\Jx (pre++[x]) W'))
  (W:World) (hmW:Bm<W.heap.size) (hbW:Bb<W.heap.size) (hcm:W.cell? ⟨Bm,0,none⟩=some (.int .i64 m)) (hcb:W.cell? ⟨Bb,0,none⟩=some (.int .i64 base)) (h0:J [] W):
  CallsIn Fence.wide n Tryz.prog 171 #[.func (.yield l) #[] #[],.pointer (some ⟨Bm,0,none⟩),.pointer (some ⟨Bb,0,none⟩)] W fun e W'=>(∃v,e=.returned v)/\
   ((∃ys:List {i:Nat//i<m},ys.map (·.1)=List.range m/\J ys W')\/(∃pre:List {i:Nat//i<m},pre.map (·.1)=List.range pre.length/\Jx pre W')):=by
 refine callsIn_of_wp Tryz.func171 rfl trivial ?_ rfl;simp only[Tryz.ntmps171,qXm,qze,qzh,Nat.reduceAdd,Nat.reduceSub,qxi,qxj,qXg,qxz,qzz,qya]
 gi_wp2
 gi_loopw [4] (fun i wr=>∃(k:Nat) (pre:List {i:Nat//i<m}),k<=m/\i=.int .i64 k/\pre.map (·.1)=List.range k/\J pre wr/\Upd S W wr)
  (fun i _=>m-(intOf i).toNat)
 case atStart=>exact⟨0,[],qYf _,rfl,rfl,h0,uur _ _⟩
 case round=>
  obtain⟨k,pre,hk,rfl,hpre,hJs,hnx⟩:=hrel;have hcm':wr.cell? ⟨Bm,0,none⟩=some (.int .i64 m):=(hnx.cellAt hmW hBm).trans hcm;have hcb':wr.cell? ⟨Bb,0,none⟩=some (.int .i64 base):=(hnx.cellAt hbW hBb).trans hcb;by_cases hlt:k<m
  .have hpl:pre.length=k:=by have:=congrArg List.length hpre;simpa using this
   obtain⟨fn,tmps,assign,body,hy,hR⟩:=hY pre ⟨k,hlt⟩ wr hJs (by omega);have b2:(k:Int)<(m:Int):=by omega
   gi_wp2
   refine hR.mono ?_;rintro e W3 (⟨rfl,hJ3,hk3⟩|⟨rfl,hJx3⟩)
   .gi_wp2
    go_roundw
    case rel=>exact⟨k+1,pre++[⟨k,hlt⟩],by omega,by simp,by simp[List.range_succ,hpre],hJ3,hnx.trans hk3⟩
    case measure=>simp[intOf];omega
   .gi_wp2
    refine qYw (qZc rfl _ _ _) rfl ?_;exact⟨⟨_,rfl⟩,.inr ⟨_,by simp[List.range_succ,hpre,hpl],hJx3⟩⟩
  .obtain rfl:k=m:=by omega
   gi_wp2
   go_end0
   exact⟨⟨_,rfl⟩,.inl ⟨_,hpre,hJs⟩⟩
theorem rG(n:Nat)(hn:1<=n)(S:Nat->Prop)(Bm Bb base m:Nat)(w:World)(hm:m<=4096)(hbs:base<=4096)(hmw:Bm<w.heap.size)(hbw:Bb<w.heap.size)(hmS:¬S Bm)(hbS:¬S Bb)
  (hcm:w.cell? ⟨Bm,0,none⟩=some (.int .i64 m)) (hcb:w.cell? ⟨Bb,0,none⟩=some (.int .i64 base)):
  SeqStopsK Fence.wide n Tryz.prog 171 #[.pointer (some ⟨Bm,0,none⟩),.pointer (some ⟨Bb,0,none⟩)] (fun x:{i:Nat//i<m}=>AC base x) (Upd S) (fun ys=>ys.map (·.1)=List.range m) (fun ys=>ys.map (·.1)=List.range ys.length) m w:=fun l J Jx W hW _ _ hY h0=>
 JQ n hn S l Bm Bb base m hm hbs hmS hbS J Jx hY W (qXy hmw hW.size) (qXy hbw hW.size) ((hW.cell (p:=⟨Bm,0,none⟩) hmw).trans hcm) ((hW.cell (p:=⟨Bb,0,none⟩) hbw).trans hcb) h0
theorem ta(base m:Int)(w:World):
  Calls Tryz.prog 98 #[.int .i64 base,.int .i64 m] w fun e w'=>e=.returned (.func (.func 171) #[] #[.pointer (some ⟨w.heap.size+1,0,none⟩),.pointer (some ⟨w.heap.size,0,none⟩)])/\
   w'=(w.alloc (.cells #[.int .i64 base] 3)).alloc (.cells #[.int .i64 m] 3):=by
 have hmf:=qqf;go_enter Tryz.func98,Tryz.ntmps98
 go_wp2
 go_ret
 exact⟨rfl,rfl⟩
theorem TA{S:Nat->Prop}{w:World}{b:Nat}{F:List Bk}{O:List (Nat×Bk)}{P:List Int}(h:Dv S w b F O P)(base m:Nat)(h1:1<=m)(h2:base+m<=F.length):
  Calls Tryz.prog 97 #[.pointer (some ⟨b,0,none⟩),.int .i64 (base:Int),.int .i64 (m:Int),.int .i64 1] w fun e w'=>e=.returned (.bool true)/\w=w':=by
 have hfl:=h.good.fl;have b1:¬((base:Int)>(F.length:Int)):=by omega
 have b2:(m:Int)<=((F.length:Int)-(base:Int)):=by omega
 have b3:¬((m:Int)<1):=by omega
 have b4:¬((base:Int)<0):=by omega
 have b5:0<=((F.length:Int)-(base:Int)):=by omega
 have q1:decide ((F.length:Int)<(base:Int))=false:=by simp;omega
 go_enter Tryz.func97,Tryz.ntmps97
 go_wp2_with (first
  |(go_at_call 47;refine(wW h).mono ?_;rintro e w' ⟨rfl,rfl⟩)
  |fail)
 go_ret
 exact⟨rfl,rfl⟩
attribute [local go_sem] qYh
def RZ(w:World)(S:Nat->Prop):Prop:=∀j,S j->j<w.heap.size->∃cs t z,w.heap[j]?=some (.cells cs t z)
theorem zA{S:Nat->Prop}{w w':World}(hu:Upd S w w')(hS:RZ w S):KeepsOthers w w':=
 ⟨hu.size,fun k o hk ho=>by
  have hl:=zd hk;refine(hu.block k hl (fun hs=>?_)).trans hk;obtain⟨cs,t,z,h⟩:=hS k hs hl;rw[hk]at h;cases h;simp[Obj.isCells]at ho⟩
theorem xq{S:Nat->Prop}{a w w':World}{row:Option Nat}(h:Upd S a w)(hg:w.grownBy w' row)(hr:∀r,row=some r->S r):Upd S a w':=
 h.trans (Upd.of_grown hg (fun g e _=>hr g e))
theorem Xq{w w':World}{row:Option Nat}{j:Nat}{cs:Array Value}{t:TypeId}{z:Nat×Nat}(h:w.heap[j]?=some (.cells cs t z))(_hg:w.grownBy w' row)(hr:∀r,row=some r->∃o:Obj,w.heap[r]?=some o/\o.isCells=false):row≠some j:=fun e=>by
 obtain⟨o,ho,hi⟩:=hr j e;rw[h]at ho;cases ho;simp[Obj.isCells]at hi
theorem JR:(#[.int .u8 0,.int .u8 0,.int .u8 0,.int .u8 0,.int .u8 0,.int .u8 0,.int .u8 0,.int .u8 0,.int .u8 0,.int .u8 0,.int .u8 0,.int .u8 0,.int .u8 0,.int .u8 0,.int .u8 0,.int .u8 0,.int .u8 0,.int .u8 0,.int .u8 0,.int .u8 0,.int .u8 0,.int .u8 0,.int .u8 0,.int .u8 0,.int .u8 0,.int .u8 0,.int .u8 0,.int .u8 0,.int .u8 0,.int .u8 0,.int .u8 0,.int .u8 0,.int .u8 0,.int .u8 0,.int .u8 0,.int .u8 0,.int .u8 0,.int .u8 0,.int .u8 0,.int .u8 0,.int .u8 0,.int .u8 0,.int .u8 0,.int .u8 0,.int .u8 0,.int .u8 0,.int .u8 0,.int .u8 0,.int .u8 0,.int .u8 0,.int .u8 0,.int .u8 0,.int .u8 0,.int .u8 0,.int .u8 0,.int .u8 0,.int .u8 0,.int .u8 0,.int .u8 0,.int .u8 0,.int .u8 0,.int .u8 0,.int .u8 0,.int .u8 0]:Array Value)=(bkC zB).toArray:=by kernel_rfl
def ZA(base:Nat)(B:List Bk)(i:Nat):Nat×Bk:=(base+i,B.getD i zB)
def ckO(base m:Nat)(B:List Bk):List (Nat×Bk):=(List.range m).map (ZA base B)
theorem DvAt.cells{w:World}{b:Nat}{vf vo vp:Value}{F:List Bk}{O:List (Nat×Bk)}{P:List Int}(h:DvAt w b vf vo vp F O P):∀j,Ao b vf vo vp j->∃cs t,w.heap[j]?=some (.cells cs t (0,0)):=by
 have hs:∀{e:TypeId} {k n:Nat} {v:Value} {xs:List Value},Sl w e k v n xs->∀j,v.ownBlock=some j->∃cs t,w.heap[j]?=some (.cells cs t (0,0)):=by
  intro e k n v xs hsl j hj;rcases hsl with⟨-,⟨rfl,-⟩|⟨g,off,cap,cur,rfl,hg,-⟩⟩
  .cases hj
  .cases hj;exact⟨_,_,hg⟩
 rintro j (rfl|hj|hj|hj)
 .exact ⟨_,_,h.str⟩
 .exact hs h.fs j hj
 .exact hs h.os j hj
 .exact hs h.ps j hj
theorem Dv.grown{S:Nat->Prop}{w w':World}{row:Option Nat}{b:Nat}{F:List Bk}{O:List (Nat×Bk)}{P:List Int}(h:Dv S w b F O P)(hg:w.grownBy w' row)(hr:∀r,row=some r->∃o:Obj,w.heap[r]?=some o/\o.isCells=false):Dv S w' b F O P:=by
 obtain⟨vf,vo,vp,h,hS⟩:=h;refine⟨vf,vo,vp,h.keep (Upd.of_grown (S:=fun j=>row=some j) hg (fun g e _=>e)) (fun j hj e=>?_),hS⟩;obtain⟨cs,t,hc⟩:=h.cells j hj;obtain⟨o,ho,hi⟩:=hr j e;rw[hc]at ho;cases ho;simp[Obj.isCells]at hi
section
variable{F:Fence}{n:Nat}{P:Program}{ops:Array Oper}{rest:List Oper}{op:Oper}{a:Act}{w:World}{Q:Exit->Act->World->Prop}
theorem wY{K:Act->World->Prop}(ty:TypeId)(x:Operand)(ho:op.op=.load ty x)(b o:Nat)(hx:a.eval x=.pointer (some ⟨b,o,none⟩))(cs:List Value)(d:TypeDesc)(hc:w.rangeAt b o cs)
  (hu:P.underlying ty=some d) (hd:d.isRow=true) (hi:(P.info? ty).map (·.size)=some cs.length) (h:K (a.put op.dst (.agg cs.toArray)) w):op.wpIn F n P a w K Q:=by
 unfold Oper.wpIn;refine⟨by simp[Oper.about,ho],?_⟩;rw[Oper.semAt_plain F _ _ (by rw[ho];intro c hc';cases hc')];unfold execOp;simp only[ho,hx,Instr.loadAt,Instr.sureAddr,qYm,Sem.run_pure,qYl,run_loadVar_mid w b o ty cs d hc hu hd hi];exact h
theorem yM(hgd:op.guard=none)(ty:TypeId)(x:Operand)(ho:op.op=.load ty x)(b o:Nat)(hx:a.eval x=.pointer (some ⟨b,o,none⟩))(cs:List Value)(d:TypeDesc)(hc:w.rangeAt b o cs)
  (hu:P.underlying ty=some d) (hd:d.isRow=true) (hi:(P.info? ty).map (·.size)=some cs.length) (h:wpListIn F n P ops Q rest (a.put op.dst (.agg cs.toArray)) w):wpListIn F n P ops Q (op::rest) a w:=
 wpListIn_plain hgd fun _ hK=>wY ty x ho b o hx cs d hc hu hd hi (hK _ _ h)
theorem qi{K:Act->World->Prop}(ty:TypeId)(x y:Operand)(ho:op.op=.store ty x y)(b o:Nat)(cells:Array Value)(hx:a.eval x=.pointer (some ⟨b,o,none⟩))(hy:a.eval y=.agg cells)
  (ht:w.there b o cells.size) (hi:(P.info? ty).map (·.size)=some cells.size) (h1:cells.all (·.oneCell')=true)
  (h:K (a.put op.dst undef) (w.setCells b o cells.toList)):op.wpIn F n P a w K Q:=by
 unfold Oper.wpIn;refine⟨by simp[Oper.about,ho],?_⟩;rw[Oper.semAt_plain F _ _ (by rw[ho];intro c hc';cases hc')];unfold execOp;simp only[ho,hx,hy,Instr.storeAt,Instr.sureAddr,qYm,Sem.run_pure,qYl,run_storeVar_mid w b o ty cells ht hi h1];exact h
theorem vu(hgd:op.guard=none)(ty:TypeId)(x y:Operand)(ho:op.op=.store ty x y)(b o:Nat)(cells:Array Value)(hx:a.eval x=.pointer (some ⟨b,o,none⟩))(hy:a.eval y=.agg cells)
  (ht:w.there b o cells.size) (hi:(P.info? ty).map (·.size)=some cells.size) (h1:cells.all (·.oneCell')=true)
  (h:wpListIn F n P ops Q rest (a.put op.dst undef) (w.setCells b o cells.toList)):wpListIn F n P ops Q (op::rest) a w:=
 wpListIn_plain hgd fun _ hK=>qi ty x y ho b o cells hx hy ht hi h1 (hK _ _ h)
theorem xy(hgd:op.guard=none)(ty:TypeId)(x y:Operand)(ho:op.op=.store ty x y)
  (zs:Array Value) (t:TypeId) (vs:List Value) (hx:a.eval x=.pointer (some ⟨w.heap.size,0,none⟩)) (hy:a.eval y=.agg vs.toArray) (hz:zs.size=vs.length)
  (hi:(P.info? ty).map (·.size)=some vs.length) (h1:∀v∈vs,v.oneCell'=true)
  (h:wpListIn F n P ops Q rest (a.put op.dst undef) (w.alloc (.cells vs.toArray t))):wpListIn F n P ops Q (op::rest) a (w.alloc (.cells zs t)):=by
 refine vu hgd ty x y ho w.heap.size 0 vs.toArray hx hy (fun j hj=>?_) (by simpa using hi) (qYu h1) ?_
 .rw [za (zc w _ rfl),zf (zc w _ rfl)];simp at hj;exact⟨by rw[qYe,qxe (by omega)];rfl,rfl⟩
 .rw [List.toList_toArray,uS w t vs zs hz];exact h
end
attribute [local go_sem] qYh
theorem Ss.exact{S:Nat->Prop}{w:World}{b:Nat}{l:List Int}(h:Ss S w b l):∃S0:Nat->Prop,Ss S0 w b l/\(∀j,S0 j->S j)/\∀j,S0 j->∃cs t z,w.heap[j]?=some (.cells cs t z):=by
 obtain⟨v,h,hb,hs⟩:=h;refine⟨fun j=>j=b\/v.ownBlock=some j,⟨v,h,.inl rfl,fun j hj=> .inr hj⟩,fun j hj=>by rcases hj with rfl|hj;exact hb;exact hs j hj,fun j hj=>?_⟩;rcases hj with rfl|hj
 .exact ⟨_,_,_,h.str⟩
 .rcases h.sl with⟨-,⟨e,-⟩|⟨g,off,cap,cur,e,hg,-⟩⟩
  .rw [e]at hj;cases hj
  .rw [e]at hj;cases hj;exact⟨_,_,_,hg⟩
theorem Ss.grown{S:Nat->Prop}{w w':World}{b:Nat}{l:List Int}{row:Option Nat}(h:Ss S w b l)(hg:w.grownBy w' row)(hr:∀r,row=some r->∃o:Obj,w.heap[r]?=some o/\o.isCells=false):Ss S w' b l:=by
 obtain⟨S0,h0,hs,hc⟩:=h.exact;have:=(Ss.thing b l).keep h0 (Upd.of_grown (S:=fun j=>row=some j) hg (fun g e _=>e)) (fun j hj e=>by
  obtain⟨cs,t,z,hj'⟩:=hc j hj;exact Xq hj' hg hr e)
 exact(Ss.thing b l).out this (fun j _ hj=>hs j hj)
theorem AD{S:Nat->Prop}{w:World}{b:Nat}{l:List Int}(h:Ss S w b l)(ht:Tur w)(slot state:Int):
  Calls Tryz.prog 176 #[ptr b,.int .i64 slot,.int .i64 state] w fun e w'=>e=.returned (.int .i64 (turnCode l slot state))/\Ss S w' b (turnList l slot state)/\Upd S w w':=by
 obtain⟨v,h,hb,hs⟩:=h;exact(ZJ h ht slot state).mono fun _ _ ⟨he,h',hu⟩=>⟨he,⟨v,h',hb,hs⟩,hu.mono (fun k _ hk=>hs k hk)⟩
theorem Zc(l:List Int)(slot state:Int):(turnList l slot state).length=l.length:=by unfold turnList;split<;>simp
def freeTo(l:List Int)(pre:List Nat):List Int:=pre.foldl (fun(l:List Int) (k:Nat)=>turnList l (k:Int) 0) l
theorem Yc(l:List Int)(pre:List Nat)(x:Nat):freeTo l (pre++[x])=turnList (freeTo l pre) (x:Int) 0:=by simp[freeTo]
theorem qj(l:List Int)(pre:List Nat):(freeTo l pre).length=l.length:=by
 induction pre generalizing l with
 |nil=>rfl
 |cons x pre ih=>exact(ih (turnList l (x:Int) 0)).trans (Zc _ _ _)
section
variable{own:Nat->Nat}{w w':World}{c:Nat}{n:CaN}{p:CaP}{a:CaS}
def Sa(own:Nat->Nat)(w:World)(c:Nat)(n:CaN)(p:CaP)(a:CaS)(e:Ending)(w':World):Prop:=zu own w c n p {a with st:=freeTo a.st (pos a.st 3)} (.tuple #[]) e w'
theorem WC(h:CaAt own w c n p a):Calls Tryz.prog 102 #[ptr c] w (Sa own w c n p a):=by
 have hu0:Upd (fun _=>False) w (w.alloc (.cells #[ptr c] 62)):=(uur _ w).alloc _;have h1:=h.new hu0;have bO0:Boxed (w.alloc (.cells #[ptr c] 62)) w.heap.size 62 (ptr c):=Boxed.new w _ _;obtain⟨d0,d1,d2,d3,d4,d5,d6,d7,d8⟩:=h1.cells;obtain⟨vs,hss,hsb,hsv⟩:=h1.ss;have hpos:0<a.st.length:=by have:=h.sl;have:=h.ok.s1;omega
 have hA:=WB hss 3 hpos;have hle:=hss.le;have HC:=Y4 h hu0 h1 hA;have hz:(w.alloc (.cells #[ptr c] 62)).heap.size=w.heap.size+1:=by simp
 have hcl:=h.clt;clear h hu0 h1 hA hss hsb hsv d0 d1 d2 d3 d4 d6 d7 d8;refine(callsIn_wide (n:=3)).1 ?_;refine callsIn_of_wp_marks Tryz.func102 rfl trivial ?_ rfl;simp only[Tryz.ntmps102,qXm,qze,qzh,Nat.reduceAdd,Nat.reduceSub,qxi,qxj,qXg,qxz,qzz,qya]
 gi_wp2_with (refine⟨trivial,?_⟩;gi_at_call 159;refine(callsIn_wide.2 HC.o.2.2.2).mono ?_;rintro e w1 ⟨Bs,Bt,g,off,cap,rfl,hge,hBs,hBt,hg,hcs,hct,hcl,hb1⟩)
 have hsz:=hb1.size;rw[hz]at hsz hge;have hu1:Upd (fun _=>False) w w1:=HC.o.2.1.trans (uuo hb1);have hca:=HC.o.1.new hu1;have bO:Boxed w1 w.heap.size 62 (ptr c):=(hb1.block _ (by rw[hz];omega)).trans bO0;have hS:Hid (∀j,¬(own j=6)->j<w1.heap.size->¬(w1.heap.size<=j\/own j=6)):=fun j h1 h2 h=>by rcases h with h|h;omega;exact h1 h
 have hfar:Hid (∀j,w.heap.size<=j->¬own j=6):=fun j hj e=>by rw[HC.o.1.far j hj]at e;exact absurd e (by decide)
 have HA:=qqh hca;clear hca;refine wpIn_rangeFunc_ownF rfl (by omega) (gf:=227) (lb:= #[.pointer (some ⟨Bs,0,none⟩),.pointer (some ⟨Bt,0,none⟩)]) rfl trivial (enters_of Tryz.func227 (by kernel_rfl) rfl)
  (rE Fence.wide _ trivial rfl (by omega) (fun j=>w1.heap.size<=j\/own j=6) Bs Bt g off cap a.st 3 w1 hle hg hBt hBs (hS.out _ (hfar.out _ (by omega)) hg) (hS.out _ (hfar.out _ (by omega)) hBt) hcs hct hcl) uC (fun W l o o' hl=>wE (M:=w1.heap.size) (fun j h=> .inl h) W l o o' hl) (qxl _ _) (fun _=>rfl)
  (fun pre W=>Ss (fun j=>own j=6) W p.ss (freeTo a.st pre)/\Upd (fun j=>w1.heap.size<=j\/own j=6) w1 W)
  (fun _ _ _=>False)
  (fun pre X Y row hs hg hr=>⟨hs.1.grown hg (fun r e=>(hr r e).2),xq hs.2 hg (fun r e=> .inl (hr r e).1)⟩)
  (fun _ _ _ _ _ hs _ _=>hs)
  ⟨HA.o.ss,uur _ _⟩
  (fun x=>{tmps:= #[ptr c,.pointer (some ⟨w.heap.size,0,none⟩),.int .i64 (x:Int),ptr c,ptr c,.pointer (some ⟨c,19,none⟩),ptr p.ss,.func (.func 227) #[] #[.pointer (some ⟨Bs,0,none⟩),.pointer (some ⟨Bt,0,none⟩)],.int .i64 (x:Int),undef,undef,undef,undef,undef,undef],defers:=[]}) ?assign ?body ?done ?stop
 case assign=>
  intro l x W K hK
  gi_wp2
  simpa using hK
 case body=>
  rintro l pre x W ⟨hv,hu⟩ hlt;have hb:=hu.block _ (zd bO) (hS.out _ (hfar.out _ (qXv _)) (zd bO))|>.trans bO
  have hc1:W.cell? ⟨w.heap.size,0,none⟩=some (ptr c):=za hb 0;have hstr:=(hu.block c HA.o.clt (hS.out _ (by rw[HA.o.oc];decide) HA.o.clt)).trans HA.o.str;have hc2:W.cell? ⟨c,19,none⟩=some (ptr p.ss):=za hstr 19;have htu:=HA.o.tur.keep hu (hS.out _ (by rw[HA.o.ot];decide) HA.o.tur.lt);obtain⟨S0,h0,hs0,hcs0⟩:=hv.exact;have HT:=Y4 (AD h0 htu (x:Int) 0) hu hs0 hcs0;clear hv hu hb hstr htu h0 hs0 hcs0
  gi_wp2_with ((first|(refine⟨trivial,fun _=>by omega,?_⟩)|(refine⟨trivial,?_⟩)|skip);gi_at_call 176;refine(CallsIn.inRound l (callsIn_wide.2 HT.o.1)).mono ?_;rintro e W2 ⟨rfl,hs2,hu2⟩)
  obtain⟨hT,hu,hs0,hcs0⟩:=HT.o;refine⟨zA hu2 (fun j hj _=>hcs0 j hj),hu2.mono (fun k _ hk=> .inr (hs0 k hk)),?_,hu.trans (hu2.mono (fun k _ hk=> .inr (hs0 k hk)))⟩;rw[Yc];exact(Ss.thing _ _).out hs2 (fun j _ hj=>hs0 j hj)
 case done=>
  rintro D ys W hD rfl ⟨hv,hu⟩ hK
  gi_wp2
  refine⟨by simp,.inl ⟨_,_,rfl,run_takeDeferred hK,?_⟩⟩;refine⟨_,qZc rfl _ _ _,?_⟩;have hW:=wE (S:=fun j=>w1.heap.size<=j\/own j=6) (M:=w1.heap.size) (fun j h=> .inl h) W D _ (.deferred none) hD hK rfl rfl;have hv2:=hv.grown (grownBy_putObj' W D (.deferred none)) (fun r e=>by cases e;exact⟨_,hK,rfl⟩);have hu2:Upd (fun j=>own j=6\/w.heap.size<=j) w (W.putObj D (.deferred none)):=(hu1.mono (fun _ _ h=>h.elim)).new (hu.trans hW) (fun i hi hs=>by rcases hs with hs|hs;omega;exact .inl hs);have hsz2:=hu2.size;exact⟨rfl,_,HC.o.1.turn6 hu2 ((Ss.thing _ _).out hv2 (fun j _ hj=> .inl hj)) (qj _ _),HC.o.1.did6 hu2⟩
 case stop=>
  rintro D c pre W _ _ h _;exact h.elim
end
end Go.Proofs.YtfhfbpmlnjdfoaaGreatDoor
