/- The clock's fu -/
import Derived.Test.YtpejdgiccaijfaaGreatDoorG01
import Derived.Laws.StructEq
import Derived.RangeFuncNested
import Derived.RangeFuncBound
import Derived.RangeFuncCalls
import Derived.RangeFuncLeaves
import Derived.RangeFuncBox
import Derived.Shelf.Abstract
import Derived.OwnWalkIn
import Derived.TacticsInMore
import Derived.LoopNIn
import Derived.LoopIn
import Derived.Maps.AppendAt
set_option maxRecDepth 100000
set_option maxHeartbeats 2000000
namespace Go.Proofs.YtpejdgiccaijfaaGreatDoor
open Go Go.RowKit Tryz
theorem UH(p:Value)(w:World):
  CallsD prog 372 #[p] .returning w fun e u' w'=>e=.returned (.tuple #[])/\u'=.returning/\w'=w:=by
 refine callsD_of_wpS func372 rfl fun c₀ cs hu=>?_;apply wpS_seq;apply wpS_region;simp[wpOpsS,go_sem,recoverD,hu,ntmps372,Exit.thenS];refine wpS_cond (t:=false) ou ?_;simp only[Bool.false_eq_true,if_false];refine wpS_of_wp (wp_skip ?_);cases c₀
 simp_all[bodyPostS,results,results372]
theorem rQ(p:Value)(w:World):
  CallsD prog 470 #[p] .returning w fun e u' w'=>e=.returned (.tuple #[])/\u'=.returning/\w'=w:=by
 refine callsD_of_wpS func470 rfl fun c₀ cs hu=>?_;apply wpS_seq;apply wpS_region;simp[wpOpsS,go_sem,recoverD,hu,ntmps470,Exit.thenS];refine wpS_cond (t:=false) ou ?_;simp only[Bool.false_eq_true,if_false];refine wpS_of_wp (wp_skip ?_);cases c₀
 simp_all[bodyPostS,results,results470]
theorem XW(p:Value)(w:World):
  CallsD prog 445 #[p] .returning w fun e u' w'=>e=.returned (.tuple #[])/\u'=.returning/\w'=w:=by
 refine callsD_of_wpS func445 rfl fun c₀ cs hu=>?_;apply wpS_seq;apply wpS_region;simp[wpOpsS,go_sem,recoverD,hu,ntmps445,Exit.thenS];refine wpS_cond (t:=false) ou ?_;simp only[Bool.false_eq_true,if_false];refine wpS_of_wp (wp_skip ?_);cases c₀
 simp_all[bodyPostS,results,results445]
theorem xf{w:World}{v:Value}{l:List Int}(h:Rd w 1 v l.length (ints l))(hle:l.length<=4096)(k:Int):
  Calls prog 287 #[v,.int .i64 k] w fun e w'=>e=.returned (.int .i64 (idxI l k))/\Below w.heap.size w w':=by
 have hmf:=qqf;have HF:=qqh (fun(w1:World) (h1:Rd w1 1 v l.length (ints l))=>XP h1 hle k);have H:=qqh h;clear h
 go_enter_defers func287,ntmps287
 go_wp2_with fail
 refine(HF.o _ (H.o.keep ((uur (fun _=>False) w).alloc _) (fun _ _ h=>h))).mono ?_;rintro e w1 ⟨rfl,rfl⟩;go_wp2
 refine leaves_cons (f:=372) (args:= #[.pointer (some ⟨w.heap.size,0,none⟩)]) oe jM ?_;refine(UH _ _).mono ?_;rintro e u' w'' ⟨rfl,rfl,rfl⟩;simp[Leaves,settle,results,results287,go_sem];exact(qxl _ _).alloc (qXo _) _
structure Tur(w:World):Prop where
 c0:w.cell? ⟨1,0,none⟩=some (.int .i64 2)
 c1:w.cell? ⟨1,1,none⟩=some (.int .i64 28)
 c2:w.cell? ⟨1,2,none⟩=some (.int .i64 24)
 c3:w.cell? ⟨1,3,none⟩=some (.int .i64 17)
 c4:w.cell? ⟨1,4,none⟩=some (.int .i64 0)
theorem Tur.lt{w:World}(h:Tur w):1<w.heap.size:=(zJ h.c0).2
theorem Tur.keep{w w':World}(h:Tur w){S:Nat->Prop}(hu:Upd S w w')(hs:¬S 1):Tur w':=
 ⟨(hu.cellAt h.lt hs).trans h.c0,(hu.cellAt h.lt hs).trans h.c1,(hu.cellAt h.lt hs).trans h.c2,(hu.cellAt h.lt hs).trans h.c3,(hu.cellAt h.lt hs).trans h.c4⟩
def mayB(a b:Int):Bool:=
 if a=0 then b==1 else if a=1 then b==2||b==3||b==4 else if a=2 then b==3||b==4 else if a=3 then b==0||b==4 else false
def stateB(a:Int):Bool:=decide (0<=a)&&decide (a<=4)
theorem yF(a:Int)(w:World):Calls prog 285 #[.int .i64 a] w fun e w'=>e=.returned (.bool (stateB a))/\w'=w:=by
 by_cases h1:0<=a
 .by_cases h2:a<=4
  .go_enter func285,ntmps285
   go_wp2
   go_ret
   exact⟨by simp[stateB,h1,h2],rfl⟩
  .go_enter func285,ntmps285
   go_wp2
   go_ret
   exact⟨by simp[stateB,h1,h2],rfl⟩
 .go_enter func285,ntmps285
  go_wp2
  go_ret
  exact⟨by simp[stateB];omega,rfl⟩
theorem Vn(a b:Int)(h:¬(0<=a/\a<=4)\/¬(0<=b/\b<=4)):mayB a b=false:=by
 unfold mayB
 repeat' split
 all_goals first|rfl|(simp;omega)
theorem Vo(a b:Int)(w:World)(ht:Tur w):Calls prog 286 #[.int .i64 a,.int .i64 b] w fun e w'=>e=.returned (.bool (mayB a b))/\w'=w:=by
 by_cases ha:0<=a/\a<=4
 .by_cases hb:0<=b/\b<=4
  .obtain ⟨c0,c1,c2,c3,c4⟩:=ht;have ha':a=0\/a=1\/a=2\/a=3\/a=4:=oM;have hb':b=0\/b=1\/b=2\/b=3\/b=4:=oM;clear ha hb;rcases ha' with rfl|rfl|rfl|rfl|rfl<;>rcases hb' with rfl|rfl|rfl|rfl|rfl
   all_goals
    go_enter func286,ntmps286
    go_wp2
    go_ret
    exact⟨rfl,rfl⟩
  .rw [Vn a b (.inr hb)];have hs:stateB a=true:=by simp[stateB,ha]
   have hs2:stateB b=false:=by simp[stateB];omega
   clear ht ha hb;go_enter func286,ntmps286
   go_wp2_with fail
   refine(yF a _).mono ?_;rintro e w' ⟨rfl,rfl⟩;rw[hs];go_wp2_with fail
   refine(yF b _).mono ?_;rintro e w' ⟨rfl,rfl⟩;rw[hs2];go_wp2
   go_ret
   exact⟨rfl,rfl⟩
 .rw [Vn a b (.inl ha)];have hs:stateB a=false:=by simp[stateB];omega
  clear ht ha;go_enter func286,ntmps286
  go_wp2_with fail
  refine(yF a _).mono ?_;rintro e w' ⟨rfl,rfl⟩;rw[hs];go_wp2
  go_ret
  exact⟨rfl,rfl⟩
structure SlotsAt(T:TypeId)(w:World)(b:Nat)(v:Value)(l:List Int):Prop where
 str:w.heap[b]?=some (.cells #[v] T (0,0))
 sl:Sl w 3 1 v l.length (ints l)
 ne:v.ownBlock≠some b
 le:l.length<=1024
abbrev vZ(b:Nat):Value:=.pointer (some ⟨b,0,none⟩)
section
variable{T:TypeId}{w w':World}{b:Nat}{v:Value}{l:List Int}
theorem SlotsAt.keep(h:SlotsAt T w b v l){S:Nat->Prop}(hu:Upd S w w')(hb:¬S b)(hv:∀g,v.ownBlock=some g->¬S g):SlotsAt T w' b v l:=
 ⟨(hu.block b (zd h.str) hb).trans h.str,h.sl.keep hu hv,h.ne,h.le⟩
theorem SlotsAt.new(h:SlotsAt T w b v l)(hu:Upd (fun _=>False) w w'):SlotsAt T w' b v l:=h.keep hu id (fun _ _ h=>h)
theorem Sl.set{e:TypeId}{g off n cap:Nat}{l:List Int}(h:Sl w e 1 (.slice (some ⟨g,off,none⟩) n cap) n (ints l))(i:Nat)(hi:i<n)(x:Int):
  Sl (w.setCell ⟨g,off+i,none⟩ (.int .i64 x)) e 1 (.slice (some ⟨g,off,none⟩) n cap) n (ints (l.set i x)):=by
 obtain⟨hl,⟨h1,_⟩|⟨g',off',cap',cur,h1,hg,hn,hm,hs,hc⟩⟩:=h
 .cases h1
 .cases h1;refine⟨by simpa using hl,.inr ⟨g,off,cap,_,rfl,zh hg _ _,hn,hm,by simpa using hs,fun j u hj=>?_⟩⟩;have hjl:j<l.length:=by have:=(qyl.1 hj).1;simpa using this
  rw[yk (by simpa using hjl)]at hj;cases hj;by_cases hji:i=j
  .subst hji;rw[Array.getElem?_setIfInBounds_self,if_pos oM];simp
  .rw [qxg oM,List.getElem_set_ne hji];exact hc j _ (yk hjl)
theorem SlotsAt.set{g off cap:Nat}(h:SlotsAt T w b (.slice (some ⟨g,off,none⟩) l.length cap) l)(i:Nat)(hi:i<l.length)(x:Int):
  SlotsAt T (w.setCell ⟨g,off+i,none⟩ (.int .i64 x)) b (.slice (some ⟨g,off,none⟩) l.length cap) (l.set i x)/\Upd (ownS (.slice (some ⟨g,off,none⟩) l.length cap)) w (w.setCell ⟨g,off+i,none⟩ (.int .i64 x)):=by
 have hu:Upd (ownS (.slice (some ⟨g,off,none⟩) l.length cap)) w (w.setCell ⟨g,off+i,none⟩ (.int .i64 x)):=(zi w g (off+i) _).mono (fun k _ hk=>by subst hk;rfl);refine⟨⟨(hu.block b (zd h.str) (fun e=>h.ne e)).trans h.str,?_,h.ne,by simpa using h.le⟩,hu⟩;have:=h.sl.set i hi x;rw[qze];exact this
theorem SlotsAt.at(h:SlotsAt T w b v l){i:Nat}(hi:i<l.length):∃g off cap,v=.slice (some ⟨g,off,none⟩) l.length cap/\w.cell? ⟨g,off+i,none⟩=some (.int .i64 l[i])/\w.frozen? ⟨g,off+i,none⟩=false:=by
 obtain⟨g,off,cap,cur,rfl,hg,_,hc⟩:=h.sl.at oM;exact⟨g,off,cap,rfl,by rw[za hg];exact hc i _ (yk hi),zf hg _⟩
end
section
variable{w:World}{b:Nat}{v:Value}{l:List Int}
theorem UI(h:SlotsAt 326 w b v l)(slot:Int)(ho:slot<0\/(l.length:Int)<=slot):
  Calls prog 284 #[vZ b,.int .i64 slot] w fun e w'=>e=.returned (.tuple #[.int .i64 0,.int .i64 10])/\w'=w:=by
 have hc0:=za h.str 0;simp at hc0;have hle:=h.le;obtain⟨ao,c,rfl⟩:=h.sl.rd.jU;clear h;by_cases h0:slot<0
 .clear ho;go_enter func284,ntmps284
  go_wp2
  go_ret2
  exact⟨rfl,rfl⟩
 .have h1:(l.length:Int)<=slot:=oM;clear ho;go_enter func284,ntmps284
  go_wp2
  go_ret2
  exact⟨rfl,rfl⟩
theorem qt(h:SlotsAt 326 w b v l)(i:Nat)(hi:i<l.length):
  Calls prog 284 #[vZ b,.int .i64 i] w fun e w'=>e=.returned (.tuple #[.int .i64 l[i],.int .i64 0])/\w'=w:=by
 have hc0:=za h.str 0;simp at hc0;have hle:=h.le;obtain⟨g,off,cap,rfl,hc,hf⟩:=h.at hi;clear h;go_enter func284,ntmps284
 go_wp2
 go_ret2
 exact⟨rfl,rfl⟩
def turnCode(l:List Int)(slot state:Int):Int:=
 if slot<0\/(l.length:Int)<=slot then 10 else if stateB state=false then 1 else if mayB (l.getD slot.toNat 0) state=false then 16 else 0
def turnList(l:List Int)(slot state:Int):List Int:=if turnCode l slot state=0 then l.set slot.toNat state else l
theorem YC(h:SlotsAt 326 w b v l)(ht:Tur w)(slot state:Int):
  Calls prog 214 #[vZ b,.int .i64 slot,.int .i64 state] w fun e w'=>e=.returned (.int .i64 (turnCode l slot state))/\
   SlotsAt 326 w' b v (turnList l slot state)/\Upd (ownS v) w w':=by
 have H:=qqh h;have HT:=qqh ht;clear ht;by_cases h0:slot<0\/(l.length:Int)<=slot
 .have hcode:turnCode l slot state=10:=by simp[turnCode,h0]
  have hlist:turnList l slot state=l:=by simp[turnList,hcode]
  rw[hcode,hlist];have H0:=qqh h0;clear h hcode hlist h0;go_enter func214,ntmps214
  go_wp2_with fail
  refine(UI H.o _ H0.o).mono ?_;rintro e w' ⟨rfl,rfl⟩;go_wp2
  go_ret
  exact⟨rfl,H.o,uur _ _⟩
 .obtain ⟨i,rfl⟩:=qxr (show 0<=slot by omega);have hi:i<l.length:=oM;have hgd:l.getD i 0=l[i]:=by simp[hi]
  by_cases h1:stateB state=false
  .have hcode:turnCode l i state=1:=by simp only[turnCode,if_neg h0,if_pos h1]
   have hlist:turnList l i state=l:=by simp[turnList,hcode]
   rw[hcode,hlist];have H1:=qqh h1;clear h hcode hlist h0 hgd h1;go_enter func214,ntmps214
   go_wp2_with fail
   refine(qt H.o i hi).mono ?_;rintro e w' ⟨rfl,rfl⟩;go_wp2_with fail
   refine(yF state _).mono ?_;rintro e w' ⟨rfl,rfl⟩;rw[H1.o];go_wp2
   go_ret
   exact⟨rfl,H.o,uur _ _⟩
  .have h1':stateB state=true:=by simpa using h1
   by_cases h2:mayB l[i] state=false
   .have hcode:turnCode l i state=16:=by simp only[turnCode,if_neg h0,if_neg h1,qxt,hgd,if_pos h2]
    have hlist:turnList l i state=l:=by simp[turnList,hcode]
    rw[hcode,hlist];have H1:=qqh h1';have H2:=qqh h2;clear h hcode hlist h0 hgd h1 h1' h2;go_enter func214,ntmps214
    go_wp2_with fail
    refine(qt H.o i hi).mono ?_;rintro e w' ⟨rfl,rfl⟩;go_wp2_with fail
    refine(yF state _).mono ?_;rintro e w' ⟨rfl,rfl⟩;rw[H1.o];go_wp2_with fail
    refine(Vo _ _ _ HT.o).mono ?_;rintro e w' ⟨rfl,rfl⟩;rw[H2.o];go_wp2
    go_ret
    exact⟨rfl,H.o,uur _ _⟩
   .have h2':mayB l[i] state=true:=by simpa using h2
    have hcode:turnCode l i state=0:=by simp only[turnCode,if_neg h0,if_neg h1,qxt,hgd,if_neg h2]
    have hlist:turnList l i state=l.set i state:=by simp only[turnList,hcode,if_true,qxt]
    rw[hcode,hlist];have H1:=qqh h1';have H2:=qqh h2';have hc0:=za h.str 0;simp at hc0;have hle:=h.le;obtain⟨g,off,cap,rfl,hc,hf⟩:=h.at hi;have HF:=qqh (H.o.set i hi state);clear h hcode hlist h0 hgd h1 h1' h2 h2';go_enter func214,ntmps214
    go_wp2_with fail
    refine(qt H.o i hi).mono ?_;rintro e w' ⟨rfl,rfl⟩;go_wp2_with fail
    refine(yF state _).mono ?_;rintro e w' ⟨rfl,rfl⟩;rw[H1.o];go_wp2_with fail
    refine(Vo _ _ _ HT.o).mono ?_;rintro e w' ⟨rfl,rfl⟩;rw[H2.o];go_wp2
    go_ret
    exact⟨rfl,HF.o.1,HF.o.2⟩
end
theorem vA:∀(xs ys:List Int),xs.length=ys.length->((List.range xs.length).all fun i=>xs.getD i 0==ys.getD i 0)=(xs==ys)
 |[],[],_=>rfl
 |x::xs,y::ys,h=>by
  have ih:=vA xs ys (by simpa using h);rw[qyz,List.range_succ_eq_map,List.all_cons,List.all_map];simp only[List.getD_cons_zero,Function.comp_def,List.getD_cons_succ,ih];simp[List.cons_beq_cons]
 |[],_::_,h=>by simp at h
 |_::_,[],h=>by simp at h
section
variable{P:Program}(w:World)
theorem uQ(d:Nat)(t e:TypeId)(n:Nat)(ht:P.underlying t=some (.array n e))(he:P.underlying e=some (.int .i64))(hsz:∀w,(sizeOf e).run P w=.ok 1 w)
  (xs ys:List Int) (hx:xs.length=n) (hy:ys.length=n):
  (Op.equalIn (d+2) t (.agg (ints xs).toArray) (.agg (ints ys).toArray)).run P w=.ok (xs==ys) w:=by
 rw[<-vA xs ys (hx.trans hy.symm),hx,List.range_eq_range',Op.equalIn];simp only[qYf,qYv ht,qYe,hsz,Std.Legacy.Range.forIn_eq_forIn_range',Std.Legacy.Range.size,Nat.sub_zero,Nat.add_sub_cancel,Nat.div_one];have hl:∀i∈List.range' 0 n 1,i<n:=fun i hi=>by simpa using(List.mem_range'_1.1 hi).2
 generalize List.range' 0 n 1=l at hl⊢
 induction l with
 |nil=>simp
 |cons i l ih=>
  have hi:i<n:=hl i oe;have px:(part e (ints xs).toArray (i*1)).run P w=.ok (.int .i64 (xs.getD i 0)) w:=by
   simp[ints,part,isAgg,run_underlying he,List.getD,List.getElem?_eq_getElem (show i<xs.length by omega)]
  have py:(part e (ints ys).toArray (i*1)).run P w=.ok (.int .i64 (ys.getD i 0)) w:=by
   simp[ints,part,isAgg,run_underlying he,List.getD,List.getElem?_eq_getElem (show i<ys.length by omega)]
  have pe:(Op.equalIn (d+1) e (.int .i64 (xs.getD i 0)) (.int .i64 (ys.getD i 0))).run P w=.ok (xs.getD i 0==ys.getD i 0) w:=by
   rw[run_equalIn_int w d e .i64 .i64 _ _ he]
  simp only[List.forIn_cons,qYf,px,py,pe,qYe,List.all_cons];cases hb:(xs.getD i 0==ys.getD i 0)
  .simp
  .simp only[Bool.not_true,Bool.false_eq_true,if_false,Sem.run_pure,qYe,qxp];exact ih fun j hj=>hl j (by simp[hj])
theorem Zl(t e:TypeId)(n:Nat)(ht:P.underlying t=some (.array n e))(he:P.underlying e=some (.int .i64))(hsz:∀w,(sizeOf e).run P w=.ok 1 w)
  (xs ys:List Int) (hx:xs.length=n) (hy:ys.length=n):
  (binOp .eql t (.agg (ints xs).toArray) (.agg (ints ys).toArray)).run P w=.ok (.bool (xs==ys)) w:=by
 rw[run_eql_struct,uQ w 9998 t e n ht he hsz xs ys hx hy];rfl
end
def free(l:List Int):Nat:=l.findIdx (·==0)
theorem Jk(l:List Int):free l<=l.length:=List.findIdx_le_length
theorem Qn{l:List Int}{k:Nat}(h:k<=free l)(hk:k<l.length)(h0:l[k]=0):free l=k:=by
 rcases Nat.lt_or_ge k (free l)with hlt|hge
 .have:=List.not_of_lt_findIdx hlt;simp[h0]at this
 .omega
theorem UJ{l:List Int}{k:Nat}(h:k<=free l)(hk:k<l.length)(h0:l[k]≠0):k+1<=free l:=by
 rcases Nat.lt_or_ge k (free l)with hlt|hge
 .exact hlt
 .exfalso;have he:free l=k:=oM;have hl:l.findIdx (·==0)<l.length:=by show free l<_;omega
  have h1:=List.findIdx_getElem (w:=hl);have h2:l[k]==0:=by
   have:l.findIdx (·==0)=k:=he;simp only[this]at h1;exact h1
  exact h0 (by simpa using h2)
def allocVal(l:List Int):Int:=if free l<l.length then free l else 0
def allocCode(l:List Int):Int:=if free l<l.length then 0 else 17
def allocList(l:List Int):List Int:=l.set (free l) 1
theorem UK(n:Nat):madeCells #[Value.int .i64 0] (n*1)=(ints (List.replicate n 0)).toArray:=by
 apply Array.ext
 .simp [size_madeCells]
 .intro i h1 h2;have:i%1=0:=Nat.mod_one i;simp[madeCells,ints,this]
theorem Ai:(prog.info? 3).map (fun i=>(i.zero,i.size,i.bytes))=some (some (.int .i64 0),1,8):=kR
abbrev TS:TypeId:=326
theorem Jl(n:Nat)(w:World)(h1:1<=n)(h2:n<=1024):
  Calls prog 141 #[.int .i64 n] w fun e w'=>e=.returned (.tuple #[vZ (w.heap.size+1),.int .i64 0])/\
   SlotsAt TS w' (w.heap.size+1) (.slice (some ⟨w.heap.size,0,none⟩) n n) (List.replicate n 0)/\Below w.heap.size w w'/\w'.heap.size=w.heap.size+2:=by
 obtain⟨i0,hi,hz0,hz1,hz2⟩:=qYs Ai;have hmk:∀w:World,(Instr.makeSlice 87 (.int .i64 n) (.int .i64 n)).run prog w=.ok (.slice (some ⟨w.heap.size,0,none⟩) n n) (w.alloc (.cells (ints (List.replicate n 0)).toArray 3)):=by
  intro w;have:=run_make (P:=prog) w 87 3 i0 (.int .i64 0) underlying87 hi hz0 .i64 .i64 n n oM oM jm oM;rw[this];simp only[qxt,hz1,Value.cells];rw[UK]
 have h1':¬(n:Int)<1:=oM;have h2':¬1024<(n:Int):=oM;clear hi hz0 hz1 hz2;go_enter func141,ntmps141
 go_wp2
 go_ret2
 have ha:(w.alloc (.cells (ints (List.replicate n 0)).toArray 3)).heap[w.heap.size]?=some (.cells (ints (List.replicate n 0)).toArray 3):=zc w _ rfl;refine⟨rfl,⟨zc _ _ oe,?_,by simp[Value.ownBlock],by simpa using h2⟩,((qxl _ _).alloc (qXo _) _).alloc oe _,oe⟩;refine⟨oe,.inr ⟨w.heap.size,0,n,(ints (List.replicate n 0)).toArray,oe,?_,oe,by unfold maxLen;omega,oe,?_⟩⟩
 .rw [qxk _ _ _ oe];exact ha
 .intro j u hj;simpa using hj
section
variable{w:World}{b:Nat}{v:Value}{l:List Int}
theorem UL(h:SlotsAt TS w b v l):
  Calls prog 384 #[vZ b] w fun e w'=>e=.returned (.tuple #[.int .i64 (allocVal l),.int .i64 (allocCode l)])/\
   SlotsAt TS w' b v (allocList l)/\Upd (ownS v) w w':=by
 have hc0:=za h.str 0;simp at hc0;have hle:=h.le;have H:=qqh h;obtain⟨ao,c,rfl⟩:=h.sl.rd.jU;clear h;go_enter func384,ntmps384
 go_wp2
 go_step3
 go_wp2
 go_step3
 go_wp2
 go_loopg[4,5,15] (l.length+1) (fun g fv ev i wr=>∃k:Nat,k+g=l.length+1/\k<=l.length/\fv=.int .i64 0/\ev=.int .i64 17/\i=.int .i64 k/\k<=free l/\wr=w)
 case atStart=>exact⟨0,oM,oM,rfl,rfl,rfl,qXy _,rfl⟩
 case round=>
  obtain⟨k,hk,hkl,rfl,rfl,rfl,hf,rfl⟩:=hrel;by_cases hlt:k<l.length
  .obtain ⟨g,off,cap,hv,hcell,hfz⟩:=H.o.at hlt;cases hv;by_cases h0:l[k]=0
   .have hfr:=Qn hf hlt h0;have hb0:(l[k]==0)=true:=by simpa using h0
    have hr1:allocVal l=k:=by simp[allocVal,hfr,hlt]
    have hr2:allocCode l=0:=by simp[allocCode,hfr,hlt]
    have hr3:allocList l=l.set k 1:=by simp[allocList,hfr]
    have HF:=qqh (H.o.set k hlt 1);have HR:Hid (allocVal l=k/\allocCode l=0/\allocList l=l.set k 1):=⟨hr1,hr2,hr3⟩
    clear hf hfr h0 hr1 hr2 hr3;go_wp2
    rw[qxq];go_ret2
    exact⟨by rw[HR.o.1,HR.o.2.1];rfl,by rw[HR.o.2.2];exact HF.o.1,HF.o.2⟩
   .have hb0:(l[k]==0)=false:=by simpa using h0
    have hfs:=UJ hf hlt h0;clear hf h0;go_wp2
    go_roundg (gk-1)
    case measure=>omega
    case rel=>exact⟨k+1,oM,oM,rfl,rfl,by go_num,hfs,rfl⟩
  .obtain rfl:k=l.length:=oM;have hfr:free l=l.length:=Nat.le_antisymm (Jk l) hf;have hr1:allocVal l=0:=by simp[allocVal,hfr]
   have hr2:allocCode l=17:=by simp[allocCode,hfr]
   have hr3:allocList l=l:=by simp only[allocList,hfr];exact List.set_eq_of_length_le (qXo _)
   have HR:Hid (allocVal l=0/\allocCode l=17/\allocList l=l):=⟨hr1,hr2,hr3⟩
   clear hf hfr hr1 hr2 hr3;go_wp2
   rw[qxq];go_ret2
   exact⟨by rw[HR.o.1,HR.o.2.1];rfl,by rw[HR.o.2.2];exact H.o,uur _ _⟩
theorem UM{w:World}{v:Value}{l:List Int}(h:Rd w 1 v l.length (ints l))(hle:l.length<=4096):
  Calls prog 302 #[v] w fun e w'=>∃v',e=.returned v'/\Sl w' 3 1 v' l.length (ints l)/\From w.heap.size v'/\Below w.heap.size w w':=by
 obtain⟨i0,hi,hz0,hz1,hz2⟩:=qYs Ai;have H:=qqh h;obtain⟨hl,hm,ao,c,rfl,h0,_⟩:=h;have q34:=fun(w:World) (a:Option Addr) (n c:Nat)=>Lib.run_eql_slice_nil (P:=prog) w 87 3 a n c 0 0 underlying87;cases ao with
 |none=>
  have hn:=h0 rfl;obtain rfl:l=[]:=qyb hn;clear h0 hl;go_enter func302,ntmps302
  go_wp2
  go_ret
  exact⟨_,rfl,by simpa using Sl.nil _ _ _,From.nil _ _ _,qxl _ _⟩
 |some a=>
  clear h0 hl;have hs0:Sl (w.alloc (.cells #[] 3)) 3 1 (.slice (some ⟨w.heap.size,0,none⟩) 0 0) 0 []:=
   ⟨oe,.inr ⟨w.heap.size,0,0,#[],rfl,zc _ _ rfl,oe,by simp[maxLen],oe,oe⟩⟩
  have HR:Hid (Rd (w.alloc (.cells #[] 3)) 1 (.slice (some a) l.length c) l.length (ints l)):=H.o.keep ((uur (fun _=>False) _).alloc _) (fun _ _ h=>h);go_enter func302,ntmps302
  go_wp2_with (at_builtin;refine zI rfl _ _ 87 rfl i0 (.int .i64 0) 8 underlying87 hi hz0 hz1 hz2 rfl de rfl hs0 _ l.length (ints l) rfl HR.o (by simp[ints,Value.oneCell']) oj oM ?_)
  intro v' w2 hs2 hu2 hb2;go_wp2
  go_ret
  refine⟨_,rfl,by simpa using hs2,?_,?_⟩
  .exact hb2.ge oe oD
  .refine zj ((qxl _ _).alloc (qXo _) _) hu2 (qXo _) oB
end
open Go Go.RowKit Go.Shelf Tryz
attribute [local go_sem] qYa
def xx(l:List Int)(st:Int)(k:Nat):List Nat:=(List.range k).filter fun i=>l[i]?.getD 0==st
abbrev pos(l:List Int)(st:Int):List Nat:=xx l st l.length
theorem vm{l:List Int}{st:Int}{k:Nat}(h:(l[k]?.getD 0==st)=true):xx l st (k+1)=xx l st k++[k]:=by simp[xx,List.range_succ,h]
theorem qu{l:List Int}{st:Int}{k:Nat}(h:(l[k]?.getD 0==st)=false):xx l st (k+1)=xx l st k:=by simp[xx,List.range_succ,h]
theorem UN(l:List Int)(st:Int)(k:Nat):(xx l st k).length<=k:=by have:=List.length_filter_le (fun i=>l[i]?.getD 0==st) (List.range k);simpa[xx]using this
theorem ua(l:List Int)(st:Int){k m:Nat}(h:k<=m):xx l st k<+:xx l st m:=by
 induction m with
 |zero=>
  obtain rfl:k=0:=oM;exact List.prefix_rfl
 |succ m ih=>
  by_cases hk:k=m+1
  .subst hk;exact List.prefix_rfl
  .refine (ih oM).trans ?_;by_cases hb:(l[m]?.getD 0==st)=true
   .rw [vm hb];exact List.prefix_append _ _
   .rw [qu (by simpa using hb)];exact List.prefix_rfl
theorem Zm(l:List Int)(st:Int){k m:Nat}(h:k<m)(hb:(l[k]?.getD 0==st)=true):(xx l st k).length<(xx l st m).length:=by
 have h1:=(ua l st (show k+1<=m by omega)).length_le;rw[vm hb]at h1;simp at h1;omega
theorem AF(F:Fence)(n:Nat)(h7:F.fn 303)(hro:F.round=none)(hn:1<=n)(S:Nat->Prop)(l Bs Bt b off cap:Nat)(zs:List Int)(st:Int)(hle:zs.length<=1024)(hb:¬S b)(hBt:¬S Bt)(J Jx:List Nat->World->Prop)
  (hY:∀pre (x:Nat) W,J pre W->pre.length<(pos zs st).length->YieldAt F (n-1) prog l #[.int .i64 (x:Int)] W fun e W'=>
   (e=.returned (.bool true)/\J (pre++[x]) W'/\Upd S W W')\/(e=.returned (.bool false)/\Jx (pre++[x]) W'))
  (W:World) (hbW:b<W.heap.size) (hBtW:Bt<W.heap.size) (hBs:W.cell? ⟨Bs,0,none⟩=some (.slice (some ⟨b,off,none⟩) zs.length cap)) (hct:W.cell? ⟨Bt,0,none⟩=some (.int .i64 st))
  (hc:∀j,j<zs.length->W.cell? ⟨b,off+j,none⟩=some (.int .i64 (zs[j]?.getD 0))) (h0:J [] W):
  CallsIn F n prog 303 #[.func (.yield l) #[] #[],.pointer (some ⟨Bs,0,none⟩),.pointer (some ⟨Bt,0,none⟩)] W fun e W'=>(∃v,e=.returned v)/\
   ((∃ys,ys=pos zs st/\J ys W')\/(∃pre,pre<+:pos zs st/\Jx pre W')):=by
 refine callsIn_of_wp func303 rfl h7 ?_ hro;simp only[ntmps303,qXh,qyz,qzc,Nat.reduceAdd,Nat.reduceSub,qxi,qxj,qXb,qxy,qzu,qxz]
 gi_wp2
 gi_loopw [8] (fun i wr=>∃k:Nat,k<=zs.length/\i=.int .i64 k/\J (xx zs st k) wr/\Upd S W wr)
  (fun i _=>zs.length-(intOf i).toNat)
 case atStart=>exact⟨0,qXy _,rfl,h0,uur _ _⟩
 case round=>
  obtain⟨k,hk,rfl,hJs,hnx⟩:=hrel;have hct':wr.cell? ⟨Bt,0,none⟩=some (.int .i64 st):=(hnx.cellAt hBtW hBt).trans hct;by_cases hlt:k<zs.length
  .have hcx':wr.cell? ⟨b,off+k,none⟩=some (.int .i64 (zs[k]?.getD 0)):=(hnx.cellAt hbW hb).trans (hc k hlt);have hgd:Hid (zs[k]?.getD 0=zs[k]):=by show _=_;simp[hlt]
   by_cases hq:(zs[k]==st)=true
   .have hqq:Hid ((zs[k]?.getD 0==st)=true):=by rw[hgd.out];exact hq
    obtain⟨fn,tmps,assign,body,hy,hR⟩:=hY _ k wr hJs (Zm zs st hlt hqq.out)
    gi_wp2
    refine hR.mono ?_;rintro e W3 (⟨rfl,hJ3,hk3⟩|⟨rfl,hJx3⟩)
    .gi_wp2
     go_roundw
     case rel=>exact⟨k+1,oM,oe,by rw[vm hqq.out];exact hJ3,hnx.trans hk3⟩
     case measure=>simp[intOf];omega
    .gi_wp2
     refine qYp (qYu rfl _ _ _) rfl ?_;exact⟨⟨_,rfl⟩,.inr ⟨_,by rw[<-vm hqq.out];exact ua zs st oM,hJx3⟩⟩
   .have hq':(zs[k]==st)=false:=by simpa using hq
    have hqq:Hid ((zs[k]?.getD 0==st)=false):=by rw[hgd.out];exact hq'
    clear hq
    gi_wp2
    refine⟨fun _ h=>(by cases h),?_⟩
    gi_wp2
    go_roundw
    case rel=>exact⟨k+1,oM,oe,by rw[qu hqq.out];exact hJs,hnx⟩
    case measure=>simp[intOf];omega
  .obtain rfl:k=zs.length:=oM
   gi_wp2
   go_end0
   exact⟨⟨_,rfl⟩,.inl ⟨_,rfl,hJs⟩⟩
theorem sy(F:Fence)(n:Nat)(h7:F.fn 303)(hro:F.round=none)(hn:1<=n)(S:Nat->Prop)(Bs Bt b off cap:Nat)(zs:List Int)(st:Int)(w:World)(hle:zs.length<=1024)
  (hb:b<w.heap.size) (hBt:Bt<w.heap.size) (hBs:Bs<w.heap.size) (hbS:¬S b) (hBtS:¬S Bt)
  (hcs:w.cell? ⟨Bs,0,none⟩=some (.slice (some ⟨b,off,none⟩) zs.length cap)) (hct:w.cell? ⟨Bt,0,none⟩=some (.int .i64 st))
  (hc:∀j,j<zs.length->w.cell? ⟨b,off+j,none⟩=some (.int .i64 (zs[j]?.getD 0))):
  SeqStopsK F n prog 303 #[.pointer (some ⟨Bs,0,none⟩),.pointer (some ⟨Bt,0,none⟩)] (fun x:Nat=> #[Value.int .i64 (x:Int)]) (Upd S) (fun ys=>ys=pos zs st) (fun pre=>pre<+:pos zs st) (pos zs st).length w:=fun l J Jx W hW _ _ hY h0=>
 AF F n h7 hro hn S l Bs Bt b off cap zs st hle hbS hBtS J Jx hY W (qXr hb hW.size) (qXr hBt hW.size) ((hW.cell (p:=⟨Bs,0,none⟩) hBs).trans hcs) ((hW.cell (p:=⟨Bt,0,none⟩) hBt).trans hct) (fun j hj=>(hW.cell (p:=⟨b,off+j,none⟩) hb).trans (hc j hj)) h0
theorem YD{A B:World}{row:Option Nat}{b:Nat}{t:TypeId}{v:Value}(hs:Boxed A b t v)(hg:A.grownBy B row)(hr:∀r,row=some r->∃o:Obj,A.heap[r]?=some o/\o.isCells=false):Boxed B b t v:=
 hs.kept hg (fun e=>by
  obtain⟨o,ho,hc⟩:=hr _ e.symm;rw[show A.heap[b]?=_ from hs]at ho;cases ho;simp[Obj.isCells]at hc)
theorem uR{S:Nat->Prop}{A B C:World}(h:Upd S A B)(h':Upd S B C):Upd S A C:=h.trans h'
theorem wH{S:Nat->Prop}{M:Nat}(hS:∀j,M<=j->S j)(W:World)(l:Nat)(o o':Obj)(hl:M<=l)(_:W.heap[l]?=some o)(_:o.isCells=false)(_:o.isWalk=false):Upd S W (W.putObj l o'):=
 ⟨rfl,rfl,rfl,by simp[World.putObj],fun k _ hk=>by
  have:k≠l:=fun e=>hk (hS k oM);simp only[World.putObj];rw[qxg (fun e=>this e.symm)]⟩
theorem Vp{w:World}{b:Nat}{v:Value}{l:List Int}(h:SlotsAt 326 w b v l)(st:Int)(hpos:0<l.length):
  Calls prog 232 #[vZ b,.int .i64 st] w fun e w'=>∃Bs Bt g off cap,e=.returned (.func (.func 303) #[] #[.pointer (some ⟨Bs,0,none⟩),.pointer (some ⟨Bt,0,none⟩)])/\
   (w.heap.size<=Bt/\w.heap.size<=g)/\Bs<w'.heap.size/\Bt<w'.heap.size/\g<w'.heap.size/\w'.cell? ⟨Bs,0,none⟩=some (.slice (some ⟨g,off,none⟩) l.length cap)/\w'.cell? ⟨Bt,0,none⟩=some (.int .i64 st)/\
   (∀j,j<l.length->w'.cell? ⟨g,off+j,none⟩=some (.int .i64 (l[j]?.getD 0)))/\Below w.heap.size w w':=by
 have hu0:Upd (fun _=>False) w (w.alloc (.cells #[.int .i64 st] 3)):=(uur _ _).alloc _;have h':=h.new hu0;have hc0:=za h'.str 0;simp at hc0;have HR:=qqh h'.sl.rd;have hle:=h.le;clear h h';go_enter func232,ntmps232
 go_wp2_with fail
 refine(UM HR.o oM).mono ?_;rintro e w1 ⟨v',rfl,hs1,hf1,hb1⟩;obtain⟨g,off,cap,cur,rfl,hg,_,hcc⟩:=hs1.at hpos;have hlt:=zd hg;go_wp2
 go_ret
 have hsz:=hb1.size;simp at hsz;have hbox:w1.cell? ⟨w.heap.size,0,none⟩=some (.int .i64 st):=(hb1.cell (p:=⟨w.heap.size,0,none⟩) oe).trans (by rw[za (zc _ _ rfl)];simp);have hA:=(uur (fun _=>False) w1).alloc (.cells #[.slice (some ⟨g,off,none⟩) l.length cap] 87);refine⟨w1.heap.size,w.heap.size,g,off,cap,rfl,⟨qXo _,by have:=hf1 g rfl;simp at this;omega⟩,oe,by simp;omega,by simp;omega,?_,?_,fun j hj=>?_,?_⟩
 .rw [za (zc _ _ rfl)];simp
 .exact (hA.cellAt oM id).trans hbox
 .refine (hA.cellAt hlt id).trans ?_;rw[za hg,hcc j _ (yk hj)];simp[hj]
 .exact zj (zj (qxl _ w) (Upd.new hu0 (uuo (S:=fun _=>False) hb1) (fun _ _ h=>h)) (qXo _) (fun _ h=>h.elim)) hA (qXo _) (fun _ h=>h.elim)
theorem UO{w:World}{b:Nat}{v:Value}{l:List Int}(h:SlotsAt 326 w b v l)(st:Int)(hpos:0<l.length):
  Calls prog 385 #[vZ b,.int .i64 st] w fun e w'=>e=.returned (.int .i64 (pos l st).length)/\Below w.heap.size w w':=by
 have h1:=h.new ((uur (fun _=>False) w).alloc (.cells #[.int .i64 0] 3));have hlen:Hid ((pos l st).length<=1024):=by have h1:=UN l st l.length;have h2:=h.le;exact qXq h1 h2
 have hle:=h.le;clear h;refine(callsIn_wide (n:=3)).1 ?_;refine callsIn_of_wp_marks func385 rfl trivial ?_ rfl;simp only[ntmps385,qXh,qyz,qzc,Nat.reduceAdd,Nat.reduceSub,qxi,qxj,qXb,qxy,qzu,qxz]
 gi_wp2_with (refine⟨trivial,?_⟩;gi_at_call 232;refine(callsIn_wide.2 (Vp h1 st hpos)).mono ?_;rintro e w1 ⟨Bs,Bt,g,off,cap,rfl,hge,hBs,hBt,hg,hcs,hct,hcl,hb1⟩)
 have bO0:Boxed (w.alloc (.cells #[.int .i64 0] 3)) w.heap.size 3 (.int .i64 0):=Boxed.new w _ _;have bO:Boxed w1 w.heap.size 3 (.int .i64 0):=(hb1.block _ oe).trans bO0;have hsz:=hb1.size;simp at hsz;have hB0:Below w.heap.size w w1:=zj ((qxl _ w).alloc (qXo _) _) (uuo (S:=fun _=>False) hb1) (qXo _) (fun _ h=>h.elim);refine wpIn_rangeFunc_ownF rfl oM (gf:=303) (lb:= #[.pointer (some ⟨Bs,0,none⟩),.pointer (some ⟨Bt,0,none⟩)]) rfl trivial (enters_of func303 kR rfl)
  (sy Fence.wide _ trivial rfl oM (fun j=>w1.heap.size<=j\/j=w.heap.size) Bs Bt g off cap l st w1 hle hg hBt hBs (by simp at hge;omega) (by simp at hge;omega) hcs hct hcl) uR (fun W l o o' hl=>wH (M:=w1.heap.size) (fun j h=> .inl h) W l o o' hl) (qxl _ _) (fun _=>rfl)
  (fun pre W=>Boxed W w.heap.size 3 (.int .i64 pre.length)/\Below w.heap.size w W)
  (fun _ _ _=>False)
  (OwnFrom.and (Own.from (I:=fun(s:List Nat) A=>Boxed A w.heap.size 3 (.int .i64 s.length)) (fun s A B row hs hg hr=>YD hs hg hr) _) (ownFrom_below (qXo _) oM))
  (fun _ _ _ _ _ hs _ _=>hs)
  ⟨bO,hB0⟩
  (fun x=>{tmps:= #[vZ b,Value.int IntKind.i64 st,undef,undef,Value.int IntKind.i64 0,
     Value.pointer (some {block:=w.heap.size,off:=0}),vZ b,Value.int IntKind.i64 st,
     Value.func (Fn.func 303) #[]
      #[Value.pointer (some {block:=Bs,off:=0}),Value.pointer (some {block:=Bt,off:=0})],
     .int .i64 x,undef,undef,undef],defers:=[]}) ?assign ?body ?done ?stop
 case assign=>
  intro l x W K hK
  gi_wp2
  simpa using hK
 case body=>
  rintro l pre x W ⟨hv,hB⟩ hlt;have hc:=hv.cell;have hf:=hv.frozen;have hn:(pre.length:Int)<1024:=by have:=hlen.out;omega
  gi_wp2
  rw[show((pre.length:Int)+1)=((pre++[x]).length:Int) by simp];exact⟨KeepsOthers.setCell _ _ _,(zi W _ _ _).mono (fun k _ hk=> .inr hk),hv.set _,hB.setCell (p:=⟨w.heap.size,0,none⟩) (qXo _) _⟩
 case done=>
  rintro D ys W hD rfl ⟨hv,hB⟩ hK;have hc:=hv.cell
  gi_wp2
  refine⟨oe,.inl ⟨_,_,rfl,run_takeDeferred hK,?_⟩⟩;exact⟨_,results_tmp rfl _ _ _,rfl,hB.trans (belowK_b (w:=w) (qXo _) W D _ _ oM hK rfl rfl)⟩
 case stop=>
  rintro D c pre W _ _ h _;exact h.elim
end Go.Proofs.YtpejdgiccaijfaaGreatDoor
