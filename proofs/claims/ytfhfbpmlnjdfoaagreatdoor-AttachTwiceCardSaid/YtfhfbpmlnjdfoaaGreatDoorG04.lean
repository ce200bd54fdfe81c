/- Slots: contrac -/
import Derived.Test.YtfhfbpmlnjdfoaaGreatDoorG03
set_option maxHeartbeats 1000000
namespace Go.Proofs.YtfhfbpmlnjdfoaaGreatDoor
open Go Go.RowKit Tryz
structure Tur(w:World):Prop where
 c0:w.cell? ⟨1,0,none⟩=some (.int .i64 2)
 c1:w.cell? ⟨1,1,none⟩=some (.int .i64 28)
 c2:w.cell? ⟨1,2,none⟩=some (.int .i64 24)
 c3:w.cell? ⟨1,3,none⟩=some (.int .i64 17)
 c4:w.cell? ⟨1,4,none⟩=some (.int .i64 0)
theorem Tur.lt{w:World}(h:Tur w):1<w.heap.size:=(zK h.c0).2
theorem Tur.keep{w w':World}(h:Tur w){S:Nat->Prop}(hu:Upd S w w')(hs:¬S 1):Tur w':=
 ⟨(hu.cellAt h.lt hs).trans h.c0,(hu.cellAt h.lt hs).trans h.c1,(hu.cellAt h.lt hs).trans h.c2,(hu.cellAt h.lt hs).trans h.c3,(hu.cellAt h.lt hs).trans h.c4⟩
theorem Tur.below{w w':World}(h:Tur w)(hb:Below w.heap.size w w'):Tur w':=h.keep (uuo (S:=fun _=>False) hb) (fun h=>h)
def mayB(a b:Int):Bool:=
 if a=0 then b==1 else if a=1 then b==2||b==3||b==4 else if a=2 then b==3||b==4 else if a=3 then b==0||b==4 else false
def stateB(a:Int):Bool:=decide (0<=a)&&decide (a<=4)
theorem yF(a:Int)(w:World):Calls prog 248 #[.int .i64 a] w fun e w'=>e=.returned (.bool (stateB a))/\w'=w:=by
 by_cases h1:0<=a
 .by_cases h2:a<=4
  .go_enter func248,ntmps248
   go_wp2
   go_ret
   exact⟨by simp[stateB,h1,h2],rfl⟩
  .go_enter func248,ntmps248
   go_wp2
   go_ret
   exact⟨by simp[stateB,h1,h2],rfl⟩
 .go_enter func248,ntmps248
  go_wp2
  go_ret
  exact⟨by simp[stateB];omega,rfl⟩
theorem Vf(a b:Int)(h:¬(0<=a/\a<=4)\/¬(0<=b/\b<=4)):mayB a b=false:=by
 unfold mayB
 repeat' split
 all_goals first|rfl|(simp;omega)
theorem Vg(a b:Int)(w:World)(ht:Tur w):Calls prog 249 #[.int .i64 a,.int .i64 b] w fun e w'=>e=.returned (.bool (mayB a b))/\w'=w:=by
 by_cases ha:0<=a/\a<=4
 .by_cases hb:0<=b/\b<=4
  .obtain ⟨c0,c1,c2,c3,c4⟩:=ht;have ha':a=0\/a=1\/a=2\/a=3\/a=4:=by omega
   have hb':b=0\/b=1\/b=2\/b=3\/b=4:=by omega
   clear ha hb;rcases ha' with rfl|rfl|rfl|rfl|rfl<;>rcases hb' with rfl|rfl|rfl|rfl|rfl
   all_goals
    go_enter func249,ntmps249
    go_wp2
    go_ret
    exact⟨rfl,rfl⟩
  .rw [Vf a b (.inr hb)];have hs:stateB a=true:=by simp[stateB,ha]
   have hs2:stateB b=false:=by simp[stateB];omega
   clear ht ha hb;go_enter func249,ntmps249
   go_wp2_with fail
   refine(yF a _).mono ?_;rintro e w' ⟨rfl,rfl⟩;rw[hs];go_wp2_with fail
   refine(yF b _).mono ?_;rintro e w' ⟨rfl,rfl⟩;rw[hs2];go_wp2
   go_ret
   exact⟨rfl,rfl⟩
 .rw [Vf a b (.inl ha)];have hs:stateB a=false:=by simp[stateB];omega
  clear ht ha;go_enter func249,ntmps249
  go_wp2_with fail
  refine(yF a _).mono ?_;rintro e w' ⟨rfl,rfl⟩;rw[hs];go_wp2
  go_ret
  exact⟨rfl,rfl⟩
structure SlotsAt(T:TypeId)(w:World)(b:Nat)(v:Value)(l:List Int):Prop where
 str:w.heap[b]?=some (.cells #[v] T (0,0))
 sl:Sl w 3 1 v l.length (ints l)
 ne:v.ownBlock≠some b
 le:l.length<=1024
abbrev vZ(b:Nat):Value:=.pointer (some ⟨b,0,none⟩)
section
variable{T:TypeId}{w w':World}{b:Nat}{v:Value}{l:List Int}
theorem SlotsAt.keep(h:SlotsAt T w b v l){S:Nat->Prop}(hu:Upd S w w')(hb:¬S b)(hv:∀g,v.ownBlock=some g->¬S g):SlotsAt T w' b v l:=
 ⟨(hu.block b (zf h.str) hb).trans h.str,h.sl.keep hu hv,h.ne,h.le⟩
theorem SlotsAt.new(h:SlotsAt T w b v l)(hu:Upd (fun _=>False) w w'):SlotsAt T w' b v l:=h.keep hu (fun h=>h) (fun _ _ h=>h)
theorem Sl.set{e:TypeId}{g off n cap:Nat}{l:List Int}(h:Sl w e 1 (.slice (some ⟨g,off,none⟩) n cap) n (ints l))(i:Nat)(hi:i<n)(x:Int):
  Sl (w.setCell ⟨g,off+i,none⟩ (.int .i64 x)) e 1 (.slice (some ⟨g,off,none⟩) n cap) n (ints (l.set i x)):=by
 obtain⟨hl,⟨h1,_⟩|⟨g',off',cap',cur,h1,hg,hn,hm,hs,hc⟩⟩:=h
 .cases h1
 .cases h1;refine⟨by simpa using hl,.inr ⟨g,off,cap,_,rfl,zi hg _ _,hn,hm,by simpa using hs,fun j u hj=>?_⟩⟩;have hjl:j<l.length:=by have:=(qyp.1 hj).1;simpa using this
  rw[yt (by simpa using hjl)]at hj;cases hj;by_cases hji:i=j
  .subst hji;rw[Array.getElem?_setIfInBounds_self,if_pos (by omega)];simp
  .rw [qxg (by omega),List.getElem_set_ne hji];exact hc j _ (yt hjl)
theorem SlotsAt.set{g off cap:Nat}(h:SlotsAt T w b (.slice (some ⟨g,off,none⟩) l.length cap) l)(i:Nat)(hi:i<l.length)(x:Int):
  SlotsAt T (w.setCell ⟨g,off+i,none⟩ (.int .i64 x)) b (.slice (some ⟨g,off,none⟩) l.length cap) (l.set i x)/\Upd (ownS (.slice (some ⟨g,off,none⟩) l.length cap)) w (w.setCell ⟨g,off+i,none⟩ (.int .i64 x)):=by
 have hu:Upd (ownS (.slice (some ⟨g,off,none⟩) l.length cap)) w (w.setCell ⟨g,off+i,none⟩ (.int .i64 x)):=(zj w g (off+i) _).mono (fun k _ hk=>by subst hk;rfl);refine⟨⟨(hu.block b (zf h.str) (fun e=>h.ne e)).trans h.str,?_,h.ne,by simpa using h.le⟩,hu⟩;have:=h.sl.set i hi x;rw[qzj];exact this
theorem SlotsAt.at(h:SlotsAt T w b v l){i:Nat}(hi:i<l.length):∃g off cap,v=.slice (some ⟨g,off,none⟩) l.length cap/\w.cell? ⟨g,off+i,none⟩=some (.int .i64 l[i])/\w.frozen? ⟨g,off+i,none⟩=false:=by
 obtain⟨g,off,cap,cur,rfl,hg,_,hc⟩:=h.sl.at (by omega);exact⟨g,off,cap,rfl,by rw[za hg];exact hc i _ (yt hi),zg hg _⟩
end
section
variable{w:World}{b:Nat}{v:Value}{l:List Int}
theorem Uj(h:SlotsAt 327 w b v l)(slot:Int)(ho:slot<0\/(l.length:Int)<=slot):
  Calls prog 247 #[vZ b,.int .i64 slot] w fun e w'=>e=.returned (.tuple #[.int .i64 0,.int .i64 10])/\w'=w:=by
 have hc0:=za h.str 0;simp at hc0;have hle:=h.le;obtain⟨ao,c,rfl⟩:=h.sl.rd.jd;clear h;by_cases h0:slot<0
 .clear ho;go_enter func247,ntmps247
  go_wp2
  go_ret2
  exact⟨rfl,rfl⟩
 .have h1:(l.length:Int)<=slot:=by omega
  clear ho;go_enter func247,ntmps247
  go_wp2
  go_ret2
  exact⟨rfl,rfl⟩
theorem qv(h:SlotsAt 327 w b v l)(i:Nat)(hi:i<l.length):
  Calls prog 247 #[vZ b,.int .i64 i] w fun e w'=>e=.returned (.tuple #[.int .i64 l[i],.int .i64 0])/\w'=w:=by
 have hc0:=za h.str 0;simp at hc0;have hle:=h.le;obtain⟨g,off,cap,rfl,hc,hf⟩:=h.at hi;clear h;go_enter func247,ntmps247
 go_wp2
 go_ret2
 exact⟨rfl,rfl⟩
def turnCode(l:List Int)(slot state:Int):Int:=
 if slot<0\/(l.length:Int)<=slot then 10 else if stateB state=false then 1 else if mayB (l.getD slot.toNat 0) state=false then 16 else 0
def turnList(l:List Int)(slot state:Int):List Int:=if turnCode l slot state=0 then l.set slot.toNat state else l
theorem Yr(h:SlotsAt 327 w b v l)(ht:Tur w)(slot state:Int):
  Calls prog 176 #[vZ b,.int .i64 slot,.int .i64 state] w fun e w'=>e=.returned (.int .i64 (turnCode l slot state))/\
   SlotsAt 327 w' b v (turnList l slot state)/\Upd (ownS v) w w':=by
 have H:=qqh h;have HT:=qqh ht;clear ht;by_cases h0:slot<0\/(l.length:Int)<=slot
 .have hcode:turnCode l slot state=10:=by simp[turnCode,h0]
  have hlist:turnList l slot state=l:=by simp[turnList,hcode]
  rw[hcode,hlist];have H0:=qqh h0;clear h hcode hlist h0;go_enter func176,ntmps176
  go_wp2_with fail
  refine(Uj H.o _ H0.o).mono ?_;rintro e w' ⟨rfl,rfl⟩;go_wp2
  go_ret
  exact⟨rfl,H.o,uur _ _⟩
 .obtain ⟨i,rfl⟩:=qxs (show 0<=slot by omega);have hi:i<l.length:=by omega
  have hgd:l.getD i 0=l[i]:=by simp[hi]
  by_cases h1:stateB state=false
  .have hcode:turnCode l i state=1:=by simp only[turnCode,if_neg h0,if_pos h1]
   have hlist:turnList l i state=l:=by simp[turnList,hcode]
   rw[hcode,hlist];have H1:=qqh h1;clear h hcode hlist h0 hgd h1;go_enter func176,ntmps176
   go_wp2_with fail
   refine(qv H.o i hi).mono ?_;rintro e w' ⟨rfl,rfl⟩;go_wp2_with fail
   refine(yF state _).mono ?_;rintro e w' ⟨rfl,rfl⟩;rw[H1.o];go_wp2
   go_ret
   exact⟨rfl,H.o,uur _ _⟩
  .have h1':stateB state=true:=by simpa using h1
   by_cases h2:mayB l[i] state=false
   .have hcode:turnCode l i state=16:=by simp only[turnCode,if_neg h0,if_neg h1,qxu,hgd,if_pos h2]
    have hlist:turnList l i state=l:=by simp[turnList,hcode]
    rw[hcode,hlist];have H1:=qqh h1';have H2:=qqh h2;clear h hcode hlist h0 hgd h1 h1' h2;go_enter func176,ntmps176
    go_wp2_with fail
    refine(qv H.o i hi).mono ?_;rintro e w' ⟨rfl,rfl⟩;go_wp2_with fail
    refine(yF state _).mono ?_;rintro e w' ⟨rfl,rfl⟩;rw[H1.o];go_wp2_with fail
    refine(Vg _ _ _ HT.o).mono ?_;rintro e w' ⟨rfl,rfl⟩;rw[H2.o];go_wp2
    go_ret
    exact⟨rfl,H.o,uur _ _⟩
   .have h2':mayB l[i] state=true:=by simpa using h2
    have hcode:turnCode l i state=0:=by simp only[turnCode,if_neg h0,if_neg h1,qxu,hgd,if_neg h2]
    have hlist:turnList l i state=l.set i state:=by simp only[turnList,hcode,if_true,qxu]
    rw[hcode,hlist];have H1:=qqh h1';have H2:=qqh h2';have hc0:=za h.str 0;simp at hc0;have hle:=h.le;obtain⟨g,off,cap,rfl,hc,hf⟩:=h.at hi;have HF:=qqh (H.o.set i hi state);clear h hcode hlist h0 hgd h1 h1' h2 h2';go_enter func176,ntmps176
    go_wp2_with fail
    refine(qv H.o i hi).mono ?_;rintro e w' ⟨rfl,rfl⟩;go_wp2_with fail
    refine(yF state _).mono ?_;rintro e w' ⟨rfl,rfl⟩;rw[H1.o];go_wp2_with fail
    refine(Vg _ _ _ HT.o).mono ?_;rintro e w' ⟨rfl,rfl⟩;rw[H2.o];go_wp2
    go_ret
    exact⟨rfl,HF.o.1,HF.o.2⟩
end
def free(l:List Int):Nat:=l.findIdx (·==0)
theorem SR(l:List Int):free l<=l.length:=List.findIdx_le_length
theorem TZ{l:List Int}{k:Nat}(h:k<=free l)(hk:k<l.length)(h0:l[k]=0):free l=k:=by
 rcases Nat.lt_or_ge k (free l)with hlt|hge
 .have:=List.not_of_lt_findIdx hlt;simp[h0]at this
 .omega
theorem Uk{l:List Int}{k:Nat}(h:k<=free l)(hk:k<l.length)(h0:l[k]≠0):k+1<=free l:=by
 rcases Nat.lt_or_ge k (free l)with hlt|hge
 .exact hlt
 .exfalso;have he:free l=k:=by omega
  have hl:l.findIdx (·==0)<l.length:=by show free l<_;omega
  have h1:=List.findIdx_getElem (w:=hl);have h2:l[k]==0:=by
   have:l.findIdx (·==0)=k:=he;simp only[this]at h1;exact h1
  exact h0 (by simpa using h2)
def allocVal(l:List Int):Int:=if free l<l.length then free l else 0
def allocCode(l:List Int):Int:=if free l<l.length then 0 else 17
def allocList(l:List Int):List Int:=l.set (free l) 1
theorem Ul(n:Nat):madeCells #[Value.int .i64 0] (n*1)=(ints (List.replicate n 0)).toArray:=by
 apply Array.ext
 .simp [size_madeCells]
 .intro i h1 h2;have:i%1=0:=Nat.mod_one i;simp[madeCells,ints,this]
theorem EA:(prog.info? 3).map (fun i=>(i.zero,i.size,i.bytes))=some (some (.int .i64 0),1,8):=by kernel_rfl
abbrev TS:TypeId:=327
theorem SS(n:Nat)(w:World)(h1:1<=n)(h2:n<=1024):
  Calls prog 133 #[.int .i64 n] w fun e w'=>e=.returned (.tuple #[vZ (w.heap.size+1),.int .i64 0])/\
   SlotsAt TS w' (w.heap.size+1) (.slice (some ⟨w.heap.size,0,none⟩) n n) (List.replicate n 0)/\Below w.heap.size w w'/\w'.heap.size=w.heap.size+2:=by
 obtain⟨i0,hi,hz0,hz1,hz2⟩:=qZa EA;have hmk:∀w:World,(Instr.makeSlice 87 (.int .i64 n) (.int .i64 n)).run prog w=.ok (.slice (some ⟨w.heap.size,0,none⟩) n n) (w.alloc (.cells (ints (List.replicate n 0)).toArray 3)):=by
  intro w;have:=run_make (P:=prog) w 87 3 i0 (.int .i64 0) underlying87 hi hz0 .i64 .i64 n n (by omega) (by omega) (by rw[hz2];omega) (by omega);rw[this];simp only[qxu,hz1,Value.cells];rw[Ul]
 have h1':¬(n:Int)<1:=by omega
 have h2':¬1024<(n:Int):=by omega
 clear hi hz0 hz1 hz2;go_enter func133,ntmps133
 go_wp2
 go_ret2
 have ha:(w.alloc (.cells (ints (List.replicate n 0)).toArray 3)).heap[w.heap.size]?=some (.cells (ints (List.replicate n 0)).toArray 3):=zc w _ rfl;refine⟨rfl,⟨zc _ _ (by simp),?_,by simp[Value.ownBlock],by simpa using h2⟩,((qxl _ _).alloc (qXv _) _).alloc (by simp) _,by simp⟩;refine⟨by simp,.inr ⟨w.heap.size,0,n,(ints (List.replicate n 0)).toArray,by simp,?_,by simp,by unfold maxLen;omega,by simp,?_⟩⟩
 .rw [qxk _ _ _ (by simp)];exact ha
 .intro j u hj;simpa using hj
section
variable{w:World}{b:Nat}{v:Value}{l:List Int}
theorem Um(h:SlotsAt TS w b v l):
  Calls prog 324 #[vZ b] w fun e w'=>e=.returned (.tuple #[.int .i64 (allocVal l),.int .i64 (allocCode l)])/\
   SlotsAt TS w' b v (allocList l)/\Upd (ownS v) w w':=by
 have hc0:=za h.str 0;simp at hc0;have hle:=h.le;have H:=qqh h;obtain⟨ao,c,rfl⟩:=h.sl.rd.jd;clear h;go_enter func324,ntmps324
 go_wp2
 go_step3
 go_wp2
 go_step3
 go_wp2
 go_loopg[4,5,15] (l.length+1) (fun g fv ev i wr=>∃k:Nat,k+g=l.length+1/\k<=l.length/\fv=.int .i64 0/\ev=.int .i64 17/\i=.int .i64 k/\k<=free l/\wr=w)
 case atStart=>exact⟨0,by omega,by omega,rfl,rfl,rfl,qYf _,rfl⟩
 case round=>
  obtain⟨k,hk,hkl,rfl,rfl,rfl,hf,rfl⟩:=hrel;by_cases hlt:k<l.length
  .obtain ⟨g,off,cap,hv,hcell,hfz⟩:=H.o.at hlt;cases hv;by_cases h0:l[k]=0
   .have hfr:=TZ hf hlt h0;have hb0:(l[k]==0)=true:=by simpa using h0
    have hr1:allocVal l=k:=by simp[allocVal,hfr,hlt]
    have hr2:allocCode l=0:=by simp[allocCode,hfr,hlt]
    have hr3:allocList l=l.set k 1:=by simp[allocList,hfr]
    have HF:=qqh (H.o.set k hlt 1);have HR:Hid (allocVal l=k/\allocCode l=0/\allocList l=l.set k 1):=⟨hr1,hr2,hr3⟩
    clear hf hfr h0 hr1 hr2 hr3;go_wp2
    rw[qxr];go_ret2
    exact⟨by rw[HR.o.1,HR.o.2.1];rfl,by rw[HR.o.2.2];exact HF.o.1,HF.o.2⟩
   .have hb0:(l[k]==0)=false:=by simpa using h0
    have hfs:=Uk hf hlt h0;clear hf h0;go_wp2
    go_roundg (gk-1)
    case measure=>omega
    case rel=>exact⟨k+1,by omega,by omega,rfl,rfl,by go_num,hfs,rfl⟩
  .obtain rfl:k=l.length:=by omega
   have hfr:free l=l.length:=Nat.le_antisymm (SR l) hf;have hr1:allocVal l=0:=by simp[allocVal,hfr]
   have hr2:allocCode l=17:=by simp[allocCode,hfr]
   have hr3:allocList l=l:=by simp only[allocList,hfr];exact List.set_eq_of_length_le (qXv _)
   have HR:Hid (allocVal l=0/\allocCode l=17/\allocList l=l):=⟨hr1,hr2,hr3⟩
   clear hf hfr hr1 hr2 hr3;go_wp2
   rw[qxr];go_ret2
   exact⟨by rw[HR.o.1,HR.o.2.1];rfl,by rw[HR.o.2.2];exact H.o,uur _ _⟩
theorem Un{w:World}{v:Value}{l:List Int}(h:Rd w 1 v l.length (ints l))(hle:l.length<=4096):
  Calls prog 113 #[v] w fun e w'=>∃v',e=.returned v'/\Sl w' 3 1 v' l.length (ints l)/\From w.heap.size v'/\Below w.heap.size w w':=by
 obtain⟨i0,hi,hz0,hz1,hz2⟩:=qZa EA;have H:=qqh h;obtain⟨hl,hm,ao,c,rfl,h0,_⟩:=h;have q34:=fun(w:World) (a:Option Addr) (n c:Nat)=>Lib.run_eql_slice_nil (P:=prog) w 87 3 a n c 0 0 underlying87;cases ao with
 |none=>
  have hn:=h0 rfl;obtain rfl:l=[]:=qyd hn;clear h0 hl;go_enter func113,ntmps113
  go_wp2
  go_ret
  exact⟨_,rfl,by simpa using Sl.nil _ _ _,From.nil _ _ _,qxl _ _⟩
 |some a=>
  clear h0 hl;have hs0:Sl (w.alloc (.cells #[] 3)) 3 1 (.slice (some ⟨w.heap.size,0,none⟩) 0 0) 0 []:=
   ⟨by simp,.inr ⟨w.heap.size,0,0,#[],rfl,zc _ _ rfl,by simp,by simp[maxLen],by simp,by simp⟩⟩
  have HR:Hid (Rd (w.alloc (.cells #[] 3)) 1 (.slice (some a) l.length c) l.length (ints l)):=H.o.keep ((uur (fun _=>False) _).alloc _) (fun _ _ h=>h);go_enter func113,ntmps113
  go_wp2_with (at_builtin;refine zD rfl _ _ 87 rfl i0 (.int .i64 0) 8 underlying87 hi hz0 hz1 hz2 rfl (by decide) rfl hs0 _ l.length (ints l) rfl HR.o (by simp[ints,Value.oneCell']) (by unfold maxLen;omega) (by omega) ?_)
  intro v' w2 hs2 hu2 hb2;go_wp2
  go_ret
  refine⟨_,rfl,by simpa using hs2,?_,?_⟩
  .exact hb2.ge (by simp) (by intro g hg;simp[Value.ownBlock]at hg;omega)
  .refine zl ((qxl _ _).alloc (qXv _) _) hu2 (qXv _) (by intro k hk;simp[ownS,Value.ownBlock]at hk;omega)
end
end Go.Proofs.YtfhfbpmlnjdfoaaGreatDoor
