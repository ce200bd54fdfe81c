/- A ledger in memory: New, has, hasAny, Put, Scr -/
import Derived.Test.YtfhfbpmlnjdfoaaGreatDoorG04
import Derived.Deep.RegionLaw
import Derived.Lib.SliceRun
import Derived.Lib.AppendZeros
set_option maxRecDepth 100000
set_option maxHeartbeats 1000000
namespace Go.Proofs.YtfhfbpmlnjdfoaaGreatDoor
open Go Go.RowKit
abbrev LgC(M:List (Nat×(Int->Bool))):List Value:=M.map fun p=> .map (some p.1)
structure LgAt(w:World)(b:Nat)(v:Value)(blocks:Nat)(M:List (Nat×(Int->Bool))):Prop where
 str:w.heap[b]?=some (.cells #[.int .i64 blocks,v] 330 (0,0))
 sl:Sl w 331 1 v M.length (LgC M)
 sets:∀p∈M,SetAt w p.1 4097 p.2
 nd:(M.map (·.1)).Nodup
 mb:∀p∈M,p.1≠b/\v.ownBlock≠some p.1
 vb:v.ownBlock≠some b
 len:M.length<=1024
 bl:1<=blocks/\blocks<=4096
 rg:∀p∈M,∀s:Int,p.2 s=true->-1<=s/\s<(blocks:Int)
def lgS(b:Nat)(v:Value)(M:List (Nat×(Int->Bool))):Nat->Prop:=fun j=>j=b\/v.ownBlock=some j\/j∈M.map (·.1)
section
variable{w w':World}{b blocks:Nat}{v:Value}{M:List (Nat×(Int->Bool))}
theorem LgAt.keep(h:LgAt w b v blocks M){S:Nat->Prop}(hu:Upd S w w')(hs:∀j,lgS b v M j->¬S j):LgAt w' b v blocks M:=
 {h with
  str:=(hu.block _ (zd h.str) (hs b (.inl rfl))).trans h.str
  sl:=h.sl.keep hu (fun g hg=>hs g (.inr (.inl hg)))
  sets:=fun p hp=>(h.sets p hp).keep hu (hs p.1 (.inr (.inr (qzv.2 ⟨p,hp,rfl⟩))))}
theorem LgAt.new(h:LgAt w b v blocks M)(hu:Upd (fun _=>False) w w'):LgAt w' b v blocks M:=h.keep hu (fun _ _ h=>h)
theorem LgAt.slt(h:LgAt w b v blocks M):∀j,lgS b v M j->j<w.heap.size:=by
 rintro j (rfl|hj|hj)
 .exact zd h.str
 .exact h.sl.lt hj
 .obtain ⟨p,hp,rfl⟩:=qzv.1 hj;exact(h.sets p hp).lt
theorem LgAt.c(h:LgAt w b v blocks M):w.cell? ⟨b,0,none⟩=some (.int .i64 blocks)/\w.cell? ⟨b,1,none⟩=some v:=by
 refine⟨?_,?_⟩<;>rw[za h.str]<;>rfl
theorem LgAt.at(h:LgAt w b v blocks M){k:Nat}(hk:k<M.length):∃g off cap,v=.slice (some ⟨g,off,none⟩) M.length cap/\w.cell? ⟨g,off+k,none⟩=some (.map (some M[k].1)):=by
 obtain⟨g,off,cap,cur,rfl,hg,hs,hc⟩:=h.sl.at (by omega);refine⟨g,off,cap,rfl,?_⟩;rw[za hg];exact hc k _ (by simp[LgC,hk])
theorem sC{M:List (Nat×(Int->Bool))}{k:Nat}(hk:k<M.length)(A:Int->Bool):(M.set k (M[k].1,A)).map (·.1)=M.map (·.1):=by
 apply qye (by simp);intro i h1 h2;simp only[qyy,qzb];split
 .rename_i e;subst e;rfl
 .rfl
theorem Rv{M:List (Nat×(Int->Bool))}{k:Nat}(hk:k<M.length)(A:Int->Bool):LgC (M.set k (M[k].1,A))=LgC M:=by
 have h:∀M:List (Nat×(Int->Bool)),LgC M=(M.map (·.1)).map fun b=>Value.map (some b):=fun M=>by simp[LgC]
 rw[h,h,sC hk]
theorem LgAt.turn(h:LgAt w b v blocks M){k:Nat}(hk:k<M.length)(hu:Upd (fun j=>j=M[k].1) w w'){A:Int->Bool}(hs:SetAt w' M[k].1 4097 A)(hr:∀s:Int,A s=true->-1<=s/\s<(blocks:Int)):
  LgAt w' b v blocks (M.set k (M[k].1,A)):=by
 have hmk:=h.mb M[k] (qyz hk);exact{h with
  str:=(hu.block _ (zd h.str) (fun e=>hmk.1 e.symm)).trans h.str
  sl:=by rw[Rv hk,qzj];exact h.sl.keep hu (fun g hg e=>hmk.2 (by rw[hg,e]))
  sets:=fun p hp=>by
   obtain⟨i,hi,rfl⟩:=qza hp;simp only[qzj]at hi;rw[qzb];split
   .exact hs
   .rename_i hne
    refine(h.sets _ (qyz hi)).keep hu (fun e=>hne ?_);have:=(List.getElem_inj (i:=i) (j:=k) (h₀:=by simpa using hi) (h₁:=by simpa using hk) h.nd).1 (by simpa using e);exact this.symm
  nd:=by rw[sC hk];exact h.nd
  mb:=fun p hp=>by
   have:p.1∈(M.set k (M[k].1,A)).map (·.1):=qzv.2 ⟨p,hp,rfl⟩;rw[sC hk]at this;obtain⟨q,hq,hqe⟩:=qzv.1 this;rw[<-hqe];exact h.mb q hq
  len:=by rw[qzj];exact h.len
  rg:=fun p hp s hps=>by
   obtain⟨i,hi,rfl⟩:=qza hp;simp only[qzj]at hi;rw[qzb]at hps;split at hps
   .exact hr s hps
   .exact h.rg _ (qyz hi) s hps}
end
def Lg(S:Nat->Prop)(w:World)(b blocks:Nat)(G:List (Int->Bool)):Prop:=∃v M,LgAt w b v blocks M/\M.map (·.2)=G/\∀j,lgS b v M j->S j
theorem Lg.thing(b blocks:Nat)(G:List (Int->Bool)):Thing (fun S w=>Lg S w b blocks G)where
 keep:=fun h hu hs=>by
  obtain⟨v,M,h,hG,hS⟩:=h;exact⟨v,M,h.keep hu (fun j hj=>hs j (hS j hj)),hG,hS⟩
 out:=fun h hs=>by
  obtain⟨v,M,h,hG,hS⟩:=h;exact⟨v,M,h,hG,fun j hj=>hs j (h.slt j hj) (hS j hj)⟩
theorem sD{w:World}{b blocks:Nat}{v:Value}{M:List (Nat×(Int->Bool))}(h:LgAt w b v blocks M)(k:Nat)(hk:k<M.length):
  Calls Tryz.prog 271 #[.pointer (some ⟨b,0,none⟩),.int .i64 (k:Int)] w fun e w'=>e=.returned (.int .i64 0)/\w=w':=by
 obtain⟨-,g1⟩:=h.c;obtain⟨g,off,cap,rfl,-⟩:=h.at hk;have hl:=h.len;have q1:decide ((k:Int)<0)=false:=by simp
 have q2:decide ((k:Int)>=(M.length:Int))=false:=by simp;omega
 have q3:decide ((M.length:Int)<=(k:Int))=false:=by simp;omega
 have q4:decide (M.length<=k)=false:=by simp;omega
 clear h;go_enter Tryz.func271,Tryz.ntmps271
 go_wp2
 go_ret
 exact⟨rfl,rfl⟩
theorem Av{w:World}{mb N:Nat}{A:Int->Bool}(h:SetAt w mb N A):
  Calls Tryz.prog 272 #[.map (some mb)] w fun e w'=>e=.returned (.bool (A (-1)))/\Below w.heap.size w w':=by
 have hl:=h.look (x:= -1) (by unfold InR;omega);clear h;go_enter Tryz.func272,Tryz.ntmps272
 go_wp2
 go_ret
 exact⟨rfl,(qxl _ _).alloc (qXv _) _⟩
def putA(A:Int->Bool)(x:Int):Int->Bool:=if x≠-1/\A (-1)=true then A else updB (if x= -1 then fun _=>false else A) x true
theorem Rw{A:Int->Bool}{x:Int}{n:Nat}(hA:∀s:Int,A s=true->-1<=s/\s<(n:Int))(hx:x= -1\/0<=x/\x<(n:Int))(hn:1<=n):∀s:Int,putA A x s=true->-1<=s/\s<(n:Int):=by
 intro s hs;unfold putA at hs;split at hs
 .exact hA s hs
 .unfold updB at hs;split at hs
  .omega
  .split at hs
   .simp at hs
   .exact hA s hs
def PutL(w:World)(b blocks:Nat)(v:Value)(M:List (Nat×(Int->Bool)))(k:Nat)(hk:k<M.length)(A:Int->Bool)(e:Ending)(w':World):Prop:=
 e=.returned (.int .i64 0)/\LgAt w' b v blocks (M.set k (M[k].1,A))/\Upd (fun j=>j=M[k].1) w w'
theorem Rx{w:World}{b blocks:Nat}{v:Value}{M:List (Nat×(Int->Bool))}(h:LgAt w b v blocks M)(k:Nat)(hk:k<M.length)(x:Int)(hx:x= -1\/(0<=x/\x<(blocks:Int))):
  Calls Tryz.prog 202 #[.pointer (some ⟨b,0,none⟩),.int .i64 (k:Int),.int .i64 x] w (PutL w b blocks v M k hk (putA M[k].2 x)):=by
 have hmap:LgAt w b v blocks (M.set k (M[k].1,M[k].2)):=by
  have:M.set k (M[k].1,M[k].2)=M:=by apply qye (by simp);intro i h1 h2;rw[qzb];split;(rename_i e;subst e;rfl);rfl
  rw[this];exact h
 have hset:=h.sets M[k] (qyz hk);have hrg:=h.rg M[k] (qyz hk);have hbl:=h.bl;have hl:=h.len;obtain⟨g0,g1⟩:=h.c;obtain⟨g,off,cap,rfl,gk⟩:=h.at hk;have b1:(0:Int)<=(k:Int):=by omega
 have b2:(k:Int)<(M.length:Int):=by omega
 have hrg2:=Rw hrg hx hbl.1;have HP:=Y5 hmap hset hrg h hrg2;clear hmap hset hrg h hrg2;by_cases h1:x= -1
 .have e1:putA M[k].2 x=updB (fun _=>false) x true:=by unfold putA;rw[if_neg (fun h=>h.1 h1),if_pos h1]
  rw[e1]at HP⊢;subst h1;clear e1 hx;obtain⟨w2,hr2,hs2,hu2,hz2⟩:=(HP.o.2.1).clear;obtain⟨w3,hr3,hs3,hu3,hz3⟩:=hs2.store (x:= -1) (by unfold InR;omega) (by unfold maxLen;omega);have HE:Hid (PutL w b blocks (.slice (some ⟨g,off,none⟩) M.length cap) M k hk (updB (fun _=>false) (-1) true) (.returned (.int .i64 0)) w3):=
   ⟨rfl,HP.o.2.2.2.1.turn hk (hu2.trans hu3) ((hs3.tight blocks HP.o.2.2.2.2).mono (by omega)) HP.o.2.2.2.2,hu2.trans hu3⟩
  clear hs2 hu2 hz2 hs3 hu3 hz3;go_enter Tryz.func202,Tryz.ntmps202
  go_wp2_with (first
   |(go_at_call 271;refine(sD HP.o.2.2.2.1 k hk).mono ?_;rintro e w' ⟨rfl,rfl⟩)
   |fail)
  go_ret
  exact HE.o
 .have hx':0<=x/\x<(blocks:Int):=hx.resolve_left h1;obtain⟨c1,c2⟩:=hx';have q1:(x != -1)=true:=by rw[bne_iff_ne];exact h1
  have q2:decide (x<0)=false:=by simp;omega
  have q3:decide (x>=(blocks:Int))=false:=by simp;omega
  have q4:decide ((blocks:Int)<=x)=false:=by simp;omega
  have q5:(x== -1)=false:=by rw[qYv];exact h1
  by_cases h2:M[k].2 (-1)=true
  .have e1:putA M[k].2 x=M[k].2:=by unfold putA;rw[if_pos ⟨h1,h2⟩]
   rw[e1]at HP⊢;have hany:Calls Tryz.prog 272 #[.map (some M[k].1)] w fun e w'=>e=.returned (.bool true)/\Below w.heap.size w w':=(Av HP.o.2.1).mono (fun e w' h=>⟨by rw[h.1,h2],h.2⟩);clear e1 hx h1 h2;go_enter Tryz.func202,Tryz.ntmps202
   go_wp2_with (first
    |(go_at_call 271;refine(sD HP.o.2.2.2.1 k hk).mono ?_;rintro e w' ⟨rfl,rfl⟩)
    |(go_at_call 272;refine hany.mono ?_;rintro e w1 ⟨rfl,hb1⟩)
    |fail)
   go_ret
   exact⟨rfl,HP.o.1.new (uuo hb1),uuo hb1⟩
  .have e1:putA M[k].2 x=updB M[k].2 x true:=by unfold putA;rw[if_neg (fun h=>h2 h.2),if_neg h1]
   rw[e1]at HP⊢;have h2':M[k].2 (-1)=false:=by simpa using h2
   have hany:Calls Tryz.prog 272 #[.map (some M[k].1)] w fun e w'=>e=.returned (.bool false)/\Below w.heap.size w w':=(Av HP.o.2.1).mono (fun e w' h=>⟨by rw[h.1,h2'],h.2⟩);clear e1 hx h1 h2 h2';go_enter Tryz.func202,Tryz.ntmps202
   go_wp2_with (first
    |(go_at_call 271;refine(sD HP.o.2.2.2.1 k hk).mono ?_;rintro e w' ⟨rfl,rfl⟩)
    |fail)
   refine hany.mono ?_;rintro e w1 ⟨rfl,hb1⟩;have hu1:=qqb hb1;have h1:=HP.o.2.2.2.1.new hu1;obtain⟨w3,hr3,hs3,hu3,hz3⟩:=(HP.o.2.1.keep hu1 (fun h=>h)).store (x:=x) (by unfold InR;omega) (by unfold maxLen;omega);have HE:Hid (PutL w b blocks (.slice (some ⟨g,off,none⟩) M.length cap) M k hk (updB M[k].2 x true) (.returned (.int .i64 0)) w3):=
    ⟨rfl,h1.turn hk hu3 ((hs3.tight blocks HP.o.2.2.2.2).mono (by omega)) HP.o.2.2.2.2,(hu1.mono (fun _ _ h=>h.elim)).trans hu3⟩
   clear hs3 hu3 hz3 h1 hu1 hb1;go_wp2
   go_ret
   exact HE.o
def sF(G:List (Int->Bool))(k:Nat)(x:Int):List (Int->Bool):=G.modify k (fun A=>putA A x)
theorem Vl{M:List (Nat×(Int->Bool))}{k:Nat}(hk:k<M.length)(f:(Int->Bool)->Int->Bool):(M.set k (M[k].1,f M[k].2)).map (·.2)=(M.map (·.2)).modify k f:=by
 apply qye (by simp);intro i h1 h2;simp only[qyy,qzb,List.getElem_modify];split
 .rename_i e;subst e;rfl
 .rfl
theorem zap{S:Nat->Prop}{w:World}{b blocks:Nat}{G:List (Int->Bool)}(h:Lg S w b blocks G)(k:Nat)(hk:k<G.length)(x:Int)(hx:x= -1\/(0<=x/\x<(blocks:Int))):
  Calls Tryz.prog 202 #[.pointer (some ⟨b,0,none⟩),.int .i64 (k:Int),.int .i64 x] w fun e w'=>e=.returned (.int .i64 0)/\Lg S w' b blocks (sF G k x)/\Upd S w w':=by
 obtain⟨v,M,h,rfl,hS⟩:=h;have hk':k<M.length:=by simpa using hk
 refine(Rx h k hk' x hx).mono ?_;rintro e w' ⟨rfl,h2,hu⟩;refine⟨rfl,⟨v,_,h2,Vl hk' (fun A=>putA A x),fun j hj=>hS j ?_⟩,hu.mono (fun j _ hj=>hS j (.inr (.inr (by rw[hj];exact qzv.2 ⟨M[k],qyz hk',rfl⟩))))⟩;rcases hj with hj|hj|hj
 .exact .inl hj
 .exact .inr (.inl hj)
 .rw [sC hk']at hj;exact .inr (.inr hj)
theorem wJ:(Tryz.prog.info? 3).map (fun i=>(i.zero,i.size,i.bytes))=some (some (.int .i64 0),1,8):=by kernel_rfl
theorem vI(l:List Int):∀u∈ints l,u.oneCell'=true:=by intro u hu;simp only[ints,qzv]at hu;obtain⟨p,_,rfl⟩:=hu;rfl
theorem yz{w:World}{v:Value}{l:List Int}(h:Rd w 1 v l.length (ints l))(hle:l.length<=4096):
  Calls Tryz.prog 113 #[v] w fun e w'=>∃v',e=.returned v'/\Sl w' 3 1 v' l.length (ints l)/\From w.heap.size v'/\Below w.heap.size w w':=by
 obtain⟨i0,hi,hz0,hz1,hz2⟩:=qZa wJ;have H:=qqh h;obtain⟨hl,hm,ao,c,rfl,h0,_⟩:=h;have q34:=fun(w:World) (a:Option Addr) (n c:Nat)=>Lib.run_eql_slice_nil (P:=Tryz.prog) w 87 3 a n c 0 0 Tryz.underlying87;cases ao with
 |none=>
  have hn:=h0 rfl;have hE:Hid (Sl w 3 1 (.slice none 0 0) l.length (ints l)):=by
   have:l=[]:=List.length_eq_zero_iff.1 hn;subst this;exact Sl.nil _ _ _
  clear h0 hl H hm;go_enter Tryz.func113,Tryz.ntmps113
  go_wp2
  go_ret
  exact⟨_,rfl,hE.out,From.nil _ _ _,qxl _ _⟩
 |some a=>
  clear h0 hl;have hs0:Sl (w.alloc (.cells #[] 3)) 3 1 (.slice (some ⟨w.heap.size,0,none⟩) 0 0) 0 []:=
   ⟨by simp,.inr ⟨w.heap.size,0,0,#[],rfl,zc _ _ rfl,by simp,by simp[maxLen],by simp,by simp⟩⟩
  have HR:Hid (Rd (w.alloc (.cells #[] 3)) 1 (.slice (some a) l.length c) l.length (ints l)):=H.o.keep ((uur (fun _=>False) _).alloc _) (fun _ _ h=>h);have hone:=vI l;go_enter Tryz.func113,Tryz.ntmps113
  go_wp2_with (at_builtin;refine zK rfl _ _ 87 rfl i0 (.int .i64 0) 8 Tryz.underlying87 hi hz0 hz1 hz2 rfl (by decide) rfl hs0 _ l.length (ints l) rfl HR.o hone (by unfold maxLen;omega) (by omega) ?_)
  intro v' w2 hs2 hu2 hb2;go_wp2
  go_ret
  refine⟨_,rfl,by simpa using hs2,?_,?_⟩
  .exact hb2.ge (by simp) (by intro g hg;simp[Value.ownBlock]at hg;omega)
  .refine zj ((qxl _ _).alloc (qXv _) _) hu2 (qXv _) (by intro k hk;simp[ownS,Value.ownBlock]at hk;omega)
theorem qZ(l:List Int)(i j:Nat):(l.eraseIdx i)[j]?=if j<i then l[j]? else l[j+1]?:=by
 rw[List.getElem?_eraseIdx]
theorem sG{w:World}{v:Value}{l:List Int}(h:Sl w 3 1 v l.length (ints l))(hle:l.length<=4096){i:Nat}(hi:i<l.length):
  Calls Tryz.prog 238 #[v,.int .i64 i,.int .i64 ((i:Int)+1)] w fun e w'=>∃v',e=.returned v'/\v'.ownBlock=v.ownBlock/\Sl w' 3 1 v' (l.eraseIdx i).length (ints (l.eraseIdx i))/\Upd (ownS v) w w':=by
 obtain⟨i0,hi0,hz0,hz1,hz2⟩:=qZa wJ;obtain⟨hl,⟨rfl,h0⟩|⟨g,off,cap,cur,rfl,hg,hn,hm,hs,hc⟩⟩:=h
 .omega
 have hlen:(l.eraseIdx i).length=l.length-1:=List.length_eraseIdx_of_lt hi;obtain⟨news,hnews⟩:=qqe (ints (l.drop (i+1)));have hnl:news.length=l.length-(i+1):=by rw[hnews];simp
 have hg':w.drew.heap[g]?=some (.cells cur 3 (0,0)):=hg;obtain⟨A,hA,hsrc⟩:∃A:Addr,(if cap=i+1 then some (⟨g,off,none⟩:Addr)else some ⟨g,off+(i+1),none⟩)=some A/\Hid (∀t u,news[t]?=some u->w.drew.cell? (A.add t)=some u):=by
  by_cases h:cap=i+1
  .refine ⟨⟨g,off,none⟩,by simp[h],fun t u hu=>?_⟩;have h0:news.length=0:=by omega
   rw[List.length_eq_zero_iff.1 h0]at hu;simp at hu
  .refine ⟨⟨g,off+(i+1),none⟩,by simp[h],fun t u hu=>?_⟩;rw[qxa,za hg'];rw[hnews]at hu;have:(ints l)[i+1+t]?=some u:=by
    rw[<-hu];simp[ints,List.getElem?_drop]
   rw[show off+(i+1)+t=off+(i+1+t) by omega];exact hc _ _ this
 have s1:Hid (news.length=(l.length-(i+1))*1):=by rw[Nat.mul_one];exact hnl
 have s2:Hid (∀u∈news,u.oneCell'=true):=by rw[hnews];exact vI _
 have s3:Hid (∀t,t<news.length->(w.drew.cell? ⟨g,off+i*1+t,none⟩).isSome=true/\w.drew.frozen? ⟨g,off+i*1+t,none⟩=false):=by
  intro t ht;rw[za hg',zf hg'];refine⟨?_,rfl⟩;rw[qxe (by omega)];rfl
 obtain⟨cur1,hb1,hz1',hget1⟩:=zG news (off+i*1) w.drew g cur 3 (0,0) hg';obtain⟨W1,hW1⟩:=qqe (w.drew.setCells g (off+i*1) news);rw[<-hW1]at hb1;have hk1:∀t,t<l.length-(i+(l.length-(i+1)))->(W1.cell? ⟨g,off+(i+(l.length-(i+1)))+t,none⟩).isSome=true:=by
  intro t ht;rw[za hb1,qxe (by omega)];rfl
 have hcl:∀ty,(Builtin.clear_ #[87] ty #[.slice (some ⟨g,off+(i+(l.length-(i+1))),none⟩) (l.length-(i+(l.length-(i+1)))) (cap-(i+(l.length-(i+1))))]).run Tryz.prog W1=.ok (.tuple #[]) (W1.setCells g (off+(i+(l.length-(i+1)))) (List.replicate (l.length-(i+(l.length-(i+1)))) (.int .i64 0))):=
  fun ty=>Lib.run_clear_slice W1 _ 3 ty (.int .i64 0) Tryz.underlying87 (fun w=>Tryz.zeroValue3 w) rfl rfl g (off+(i+(l.length-(i+1)))) _ _ (by omega) hk1 (fun t _=>zf hb1 _)
 obtain⟨cur2,hb2,hz2',hget2⟩:=zG (List.replicate (l.length-(i+(l.length-(i+1)))) (Value.int .i64 0)) (off+(i+(l.length-(i+1)))) W1 g cur1 3 (0,0) hb1;have hU:Upd (ownS (.slice (some ⟨g,off,none⟩) l.length cap)) w (W1.setCells g (off+(i+(l.length-(i+1)))) (List.replicate (l.length-(i+(l.length-(i+1)))) (.int .i64 0))):=by
  refine Upd.trans (b:=W1) ?_ (yv _ _ _ _ _ rfl);rw[hW1];exact((uur _ w).drew).trans (yv _ _ _ _ _ rfl)
 have hend:Sl (W1.setCells g (off+(i+(l.length-(i+1)))) (List.replicate (l.length-(i+(l.length-(i+1)))) (.int .i64 0))) 3 1 (.slice (some ⟨g,off,none⟩) (i+(l.length-(i+1))) cap) (l.eraseIdx i).length (ints (l.eraseIdx i)):=by
  refine⟨by simp,.inr ⟨g,off,cap,cur2,by rw[hlen,show i+(l.length-(i+1))=l.length-1 by omega],hb2,by omega,hm,by omega,fun j u hu=>?_⟩⟩;have hj:=(qyp.1 hu).1;rw[yq,hlen]at hj;rw[hget2,if_neg (by omega),hget1];simp only[ints,qyq,qZ]at hu;by_cases hji:j<i
  .rw [if_neg (by omega)];rw[if_pos hji]at hu;exact hc j u (by simpa[ints]using hu)
  .rw [if_neg hji]at hu;rw[if_pos ⟨by omega,by omega,by omega⟩,hnews,show off+j-(off+i*1)=j-i by omega];simp only[ints,qyq,qym];rw[show i+1+(j-i)=j+1 by omega];exact hu
 have HU:=qqh hU;have HE:=qqh hend;have hW:Hid (W1=w.drew.setCells g (off+i*1) news):=hW1;have hic:i<=cap:=by omega
 have hjc:i+1<=cap:=by omega
 have hj0:(0:Int)<=(i:Int)+1:=by omega
 have hj1:(i:Int)+1<=(l.length:Int):=by omega
 have hj2:0<=(i:Int)+1/\(i:Int)+1<=(l.length:Int):=⟨hj0,hj1⟩
 have hb:((i:Int)==(i:Int)+1)=false:=by simp;omega
 clear hk1 hU hend hget2 hget1 hb2 hb1 hW1 hc hg hg' hnews hnl hs;go_enter Tryz.func238,Tryz.ntmps238
 go_wp2_with fail
 go_region_law (refine step_append_room rfl (.tmp 22) (.tmp 25) 87 rfl 3 i0 1 Tryz.underlying87 hi0 hz1 g off i cap (by simp[Act.eval,Act.put]) A (l.length-(i+1)) (cap-(i+1)) news (by simp[Act.eval,Act.put]) s1.out hsrc.out s2.out (by omega) s3.out ?_;rw[<-hW.out])
 go_wp2
 go_ret
 exact⟨_,rfl,rfl,HE.o,HU.o⟩
theorem UR(n:Nat)(hn:n<=4096)(w:World):
  Calls Tryz.prog 303 #[.slice none 0 0,.int .i64 n] w fun e w'=>∃v',e=.returned v'/\Sl w' 3 1 v' 0 []/\From w.heap.size v'/\Below w.heap.size w w':=by
 obtain⟨i0,hi0,hz0,hz1,hz2⟩:=qZa wJ;by_cases h0:n=0
 .subst h0;go_enter Tryz.func303,Tryz.ntmps303
  go_wp2
  go_ret
  exact⟨_,rfl,Sl.nil _ _ _,From.nil _ _ _,qxl _ _⟩
 .have h63:(n:Int)<=9223372036854775807:=by omega
  have hrun:=Lib.run_append_nil_zeros (P:=Tryz.prog) w 87 3 87 3 i0 (.int .i64 0) .i64 .i64 Tryz.underlying87 Tryz.underlying3 hi0 hz0 n (by omega) (by omega) h63 (by rw[hz2];omega);have hge:=grownCap_ge w n 0 3;have hle:=grownCap_le_maxLen w n 0 3 (by unfold maxLen;omega);generalize grownCap w n 0 3=cap at hrun hge hle;obtain⟨C,hC⟩:=qqe (Builtin.zeroCells (Value.int .i64 0).cells n++Builtin.zeroCells (Value.int .i64 0).cells (cap-n));have hsz:C.size=cap:=by
   rw[hC];simp[Builtin.zeroCells,Value.cells];omega
  rw[<-hC]at hrun;have hp:(0:Int)<(n:Int):=by omega
  have hcap:(cap:Int)<=9223372036854775807:=by unfold maxLen at hle;omega
  have HS:=qqh hsz;have HL:=qqh hle;clear hC hsz hle;go_enter Tryz.func303,Tryz.ntmps303
  go_wp2_with (at_builtin;refine Lib.wpList_append_run _ rfl _ _ _ _ rfl _ _ rfl rfl _ _ hrun ?_)
  go_wp2
  go_ret
  refine⟨_,rfl,⟨rfl,.inr ⟨w.heap.size,0,cap,C,rfl,zc _ _ rfl,by omega,HL.o,by rw[HS.o];omega,by simp⟩⟩,?_,?_⟩
  .intro g hg;simp[Value.ownBlock]at hg;omega
  .exact (qxl _ w).trans (Upd.below (((uur _ w).drew).alloc _))
theorem Xb{w:World}{gs:Nat}{va vb:Value}{fz:Nat×Nat}{la lb:List Int}(hgs:w.heap[gs]?=some (.cells #[va,vb] 87 fz))
  (ha:Rd w 1 va la.length (ints la)) (hb:Rd w 1 vb lb.length (ints lb)) (hle:la.length+lb.length<=4096):
  Calls Tryz.prog 237 #[.slice (some ⟨gs,0,none⟩) 2 2] w fun e w'=>∃v',e=.returned v'/\Sl w' 3 1 v' (la.length+lb.length) (ints la++ints lb)/\From w.heap.size v'/\Below w.heap.size w w':=by
 obtain⟨i0,hi0,hz0,hz1,hz2⟩:=qZa wJ;have HA:=qqh ha;have HB:=qqh hb;have HG:=qqh hgs;obtain⟨aoa,ca,rfl⟩:=ha.nil_iff;obtain⟨aob,cb,rfl⟩:=hb.nil_iff;have g0:=za hgs 0;have g1:=za hgs 1;simp at g0 g1;have G:=Y2 g0 g1;clear ha hb hgs g0 g1;go_enter Tryz.func237,Tryz.ntmps237
 go_wp2
 go_loopg[3,11] 2 (fun g sz i wr=>∃j:Nat,j+g=2/\i=.int .i64 j/\sz=.int .i64 ((if j=0 then 0 else if j=1 then la.length else la.length+lb.length:Nat):Int)/\wr=w)
 case atStart=>exact⟨0,rfl,rfl,rfl,rfl⟩
 case round=>
  obtain⟨j,hj,rfl,rfl,rfl⟩:=hrel;obtain⟨g0,g1⟩:=G.out;rcases(by omega:j=0\/j=1\/j=2)with rfl|rfl|rfl
  .simp only[if_true];have q:decide (((0:Nat):Int)+(la.length:Int)<0)=false:=by simp only[qYx];omega
   go_wp2
   go_roundg 1
   case measure=>omega
   case rel=>exact⟨1,rfl,rfl,by simp,rfl⟩
  .have e1:(if(1:Nat)=0 then 0 else if(1:Nat)=1 then la.length else la.length+lb.length)=la.length:=rfl;rw[e1];clear e1;have q:decide ((la.length:Int)+(lb.length:Int)<0)=false:=by simp only[qYx];omega
   go_wp2
   go_roundg 0
   case measure=>omega
   case rel=>exact⟨2,rfl,rfl,by simp,rfl⟩
  .have e1:(if(2:Nat)=0 then 0 else if(2:Nat)=1 then la.length else la.length+lb.length)=la.length+lb.length:=rfl;rw[e1];clear e1;go_wp2_with fail
   refine(UR (la.length+lb.length) hle _).mono ?_;rintro e w1 ⟨v1,rfl,hs1,hf1,hb1⟩;have S1:=Y3 hs1 hf1 hb1;clear hs1 hf1 hb1;obtain⟨wb,rfl⟩:∃wb:World,wb=wr:=⟨_,rfl⟩
   obtain⟨go,hgo⟩:∃x,x=gk:=⟨_,rfl⟩
   clear hgo hj;go_wp2
   go_loopg[6,27] 2 (fun g v i wr=>∃j:Nat,j+g=2/\i=.int .i64 j/\∃ls:List Int,ls=(if j=0 then[]else if j=1 then la else la++lb)/\Sl wr 3 1 v ls.length (ints ls)/\From wb.heap.size v/\Below wb.heap.size wb wr)
   case atStart=>exact⟨0,rfl,rfl,[],rfl,S1.out.1,S1.out.2.1,S1.out.2.2⟩
   case round=>
    obtain⟨j,hj,rfl,ls,rfl,hs,hf,hb⟩:=hrel;have S2:=Y3 hs hf hb;have hblt:gs<wb.heap.size:=zd HG.o;have g0:=(hb.cell (p:=⟨gs,0,none⟩) hblt).trans G.out.1;have g1:=(hb.cell (p:=⟨gs,1,none⟩) hblt).trans G.out.2;clear hs hf hb;rcases(by omega:j=0\/j=1\/j=2)with rfl|rfl|rfl
    .have H1:Hid (Sl wr 3 1 u6 ([]:List Int).length (ints [])):=S2.out.1;go_wp2_with (at_builtin;refine zK rfl _ _ 87 rfl i0 (.int .i64 0) 8 Tryz.underlying87 hi0 hz0 hz1 hz2 rfl (by decide) rfl H1.o _ la.length (ints la) rfl (HA.o.below S2.out.2.2) (vI _) (by unfold maxLen;simp;omega) (by simp;omega) ?_)
     intro v2 w2 hs2 hu2 hb2;go_wp2
     go_roundg 1
     case measure=>omega
     case rel=>exact⟨1,rfl,rfl,la,rfl,by simpa using hs2,hb2.ge S2.out.2.2.size S2.out.2.1,zj S2.out.2.2 hu2 (qXv _) S2.out.2.1.own⟩
    .have H1:Hid (Sl wr 3 1 u6 la.length (ints la)):=S2.out.1;go_wp2_with (at_builtin;refine zK rfl _ _ 87 rfl i0 (.int .i64 0) 8 Tryz.underlying87 hi0 hz0 hz1 hz2 rfl (by decide) rfl H1.o _ lb.length (ints lb) rfl (HB.o.below S2.out.2.2) (vI _) (by unfold maxLen;omega) (by omega) ?_)
     intro v2 w2 hs2 hu2 hb2;go_wp2
     go_roundg 0
     case measure=>omega
     case rel=>exact⟨2,rfl,rfl,la++lb,rfl,by simpa using hs2,hb2.ge S2.out.2.2.size S2.out.2.1,zj S2.out.2.2 hu2 (qXv _) S2.out.2.1.own⟩
    .go_wp2
     go_ret
     exact⟨_,rfl,by simpa using S2.out.1,S2.out.2.1,S2.out.2.2⟩
structure CkGood(most few:Nat)(K:List Int)(A:Int->Bool)(G:List Int):Prop where
 kr:∀x∈K,InR x
 gr:∀x∈G,InR x
 kd:K.Nodup
 gd:G.Nodup
 dis:∀x∈K,x∉G
 ask:∀x,A x=true->x∈K
 kl:K.length<=most
 gl:G.length<=few
 ml:most<=1024
 fl:few<=1024
 m1:1<=most
structure CkMem(w:World)(b mb N:Nat)(vk vg:Value)(most few:Nat)(K:List Int)(A:Int->Bool)(G:List Int):Prop where
 str:w.heap[b]?=some (.cells #[.int .i64 most,.int .i64 few,vk,.map (some mb),vg] 333 (0,0))
 ks:Sl w 3 1 vk K.length (ints K)
 gs:Sl w 3 1 vg G.length (ints G)
 set:SetAt w mb N A
 kb:vk.ownBlock≠some b
 gb:vg.ownBlock≠some b
 km:vk.ownBlock≠some mb
 gm:vg.ownBlock≠some mb
 bm:mb≠b
 kg:Dis vk vg
structure CkAt(w:World)(b mb N:Nat)(vk vg:Value)(most few:Nat)(K:List Int)(A:Int->Bool)(G:List Int):Prop extends CkMem w b mb N vk vg most few K A G where
 good:CkGood most few K A G
def US(b mb:Nat)(vk vg:Value):Nat->Prop:=fun j=>j=b\/j=mb\/vk.ownBlock=some j\/vg.ownBlock=some j
section
variable{w w':World}{b mb N most few:Nat}{vk vg:Value}{K G:List Int}{A:Int->Bool}
theorem CkMem.keep(h:CkMem w b mb N vk vg most few K A G){S:Nat->Prop}(hu:Upd S w w')(hs:∀j,US b mb vk vg j->¬S j):CkMem w' b mb N vk vg most few K A G:=
 {h with
  str:=(hu.block _ (zd h.str) (hs b (.inl rfl))).trans h.str
  ks:=h.ks.keep hu (fun g hg=>hs g (.inr (.inr (.inl hg))))
  gs:=h.gs.keep hu (fun g hg=>hs g (.inr (.inr (.inr hg))))
  set:=SetAt.keep h.set hu (hs mb (.inr (.inl rfl)))}
theorem CkMem.below(h:CkMem w b mb N vk vg most few K A G)(hb:Below w.heap.size w w'):CkMem w' b mb N vk vg most few K A G:=
 h.keep (uuo (S:=fun _=>False) hb) (fun _ _ h=>h)
theorem CkAt.keep(h:CkAt w b mb N vk vg most few K A G){S:Nat->Prop}(hu:Upd S w w')(hs:∀j,US b mb vk vg j->¬S j):CkAt w' b mb N vk vg most few K A G:=
 {h with
  str:=(hu.block _ (zd h.str) (hs b (.inl rfl))).trans h.str
  ks:=h.ks.keep hu (fun g hg=>hs g (.inr (.inr (.inl hg))))
  gs:=h.gs.keep hu (fun g hg=>hs g (.inr (.inr (.inr hg))))
  set:=SetAt.keep h.set hu (hs mb (.inr (.inl rfl)))}
theorem CkAt.below(h:CkAt w b mb N vk vg most few K A G)(hb:Below w.heap.size w w'):CkAt w' b mb N vk vg most few K A G:=
 h.keep (uuo (S:=fun _=>False) hb) (fun _ _ h=>h)
theorem CkAt.mono(h:CkAt w b mb N vk vg most few K A G){N':Nat}(hn:N<=N'):CkAt w b mb N' vk vg most few K A G:={h with set:=h.set.mono hn}
theorem CkAt.blt(h:CkAt w b mb N vk vg most few K A G):b<w.heap.size:=zd h.str
theorem CkAt.slt(h:CkAt w b mb N vk vg most few K A G):∀j,US b mb vk vg j->j<w.heap.size:=by
 rintro j (rfl|rfl|hj|hj)
 .exact h.blt
 .exact h.set.lt
 .exact h.ks.lt hj
 .exact h.gs.lt hj
theorem CkAt.kle(h:CkAt w b mb N vk vg most few K A G):K.length<=1024:=qXx h.good.kl h.good.ml
theorem CkAt.gle(h:CkAt w b mb N vk vg most few K A G):G.length<=1024:=qXx h.good.gl h.good.fl
end
theorem CkGood.start{m f:Nat}(h1:1<=m)(h2:m<=1024)(h3:f<=1024):CkGood m f [] (fun _=>false) []:=
 {kr:=by simp,gr:=by simp,kd:=by simp,gd:=by simp,dis:=by simp,ask:=by simp,kl:=by simp,gl:=by simp,ml:=h2,fl:=h3,m1:=h1}
theorem sH{l:List Int}{k:Int}(h:k∈l):∃i:Nat,∃hi:i<l.length,idxI l k=i/\l[i]=k/\∀j (hj:j<l.length),j<i->l[j]≠k:=by
 unfold idxI;cases hf:l.findIdx? (·==k)with
 |none=>
  rw[List.findIdx?_eq_none_iff]at hf;have:=hf k h;simp at this
 |some i=>
  rw[List.findIdx?_eq_some_iff_getElem]at hf;obtain⟨hi,he,hb⟩:=hf;exact⟨i,hi,rfl,by simpa using he,fun j _ hji=>by simpa using hb j hji⟩
theorem vJ{l:List Int}{k:Int}(h:k∉l):idxI l k= -1:=ro (fun _ hj e=>h (e▸qyz hj))
theorem Ry(m f:Nat)(w:World)(h1:1<=m)(h2:m<=1024)(h3:f<=1024):
  Calls Tryz.prog 135 #[.int .i64 m,.int .i64 f] w fun e w'=>∃b mb,e=.returned (.tuple #[.pointer (some ⟨b,0,none⟩),.int .i64 0])/\
   CkAt w' b mb 0 (.slice none 0 0) (.slice none 0 0) m f [] (fun _=>false) []/\w.heap.size<=b/\w.heap.size<=mb/\Below w.heap.size w w':=by
 have hmm:= @run_makeMap Tryz.prog;have q1:¬((m:Int)<1):=by omega
 have q2:¬((1024:Int)<m):=by omega
 have q3:¬((f:Int)<0):=by omega
 have q4:¬((1024:Int)<f):=by omega
 have HM:=Y3 h1 h2 h3;clear h1 h2 h3;go_enter Tryz.func135,Tryz.ntmps135
 go_wp2
 go_ret2
 have hU:=Upd.alloc (uur (fun _=>False) w) (.map #[] 0);have hz:(w.alloc (.map #[] 0)).heap.size=w.heap.size+1:=by simp
 refine⟨w.heap.size+1,rfl,w.heap.size,⟨⟨zc _ _ hz.symm,Sl.nil _ _ _,Sl.nil _ _ _,(SetAt.made w).keep (Upd.alloc (uur (fun _=>False) _) _) (fun h=>h),by simp[Value.ownBlock],by simp[Value.ownBlock],by simp[Value.ownBlock],by simp[Value.ownBlock],by omega,Dis.nil _ _ _⟩,CkGood.start HM.o.1 HM.o.2.1 HM.o.2.2⟩,by omega,qXv _,(hU.alloc _).below⟩
def touchC(K:List Int)(k:Int):Int:=if k∈K then 0 else 14
theorem CkGood.touch{most few:Nat}{K G:List Int}{A:Int->Bool}(h:CkGood most few K A G){k:Int}(hk:k∈K):CkGood most few K (updB A k true) G:=by
 have ha:∀x,updB A k true x=true->x∈K:=by
  intro x hx;by_cases e:x=k
  .exact e▸hk
  .simp only[updB,if_neg e]at hx;exact h.ask x hx
 exact{h with ask:=ha}
theorem Xc{w:World}{b mb N most few:Nat}{vk vg:Value}{K G:List Int}{A:Int->Bool}(h:CkAt w b mb N vk vg most few K A G)(k:Int)(hN:N<maxLen):
  Calls Tryz.prog 325 #[.pointer (some ⟨b,0,none⟩),.int .i64 k] w fun e w'=>e=.returned (.int .i64 (touchC K k))/\
   CkAt w' b mb (N+1) vk vg most few K (if k∈K then updB A k true else A) G/\Upd (fun j=>j=mb) w w':=by
 have H:=qqh h;have HR:=qqh h.ks.rd;have hle:=h.kle;have g2:=za h.str 2;have g3:=za h.str 3;simp at g2 g3;have hblt:=h.blt;by_cases hk:k∈K
 .obtain ⟨i,hi,hix,_⟩:=sH hk;obtain⟨ao,c,rfl⟩:=h.ks.rd.nil_iff;have e1:touchC K k=0:=if_pos hk;rw[e1,if_pos hk];have HK:=qqh hk;clear h e1 hk;have q:decide ((i:Int)<0)=false:=by simp only[qYx];omega
  go_enter Tryz.func325,Tryz.ntmps325
  go_wp2_with fail
  refine(xf HR.o (by omega) k).mono ?_;rintro e w1 ⟨rfl,hb1⟩;rw[hix];have H1:=qqh (H.o.below hb1);have k3:=(hb1.cell (p:=⟨b,3,none⟩) hblt).trans g3;obtain⟨w2,hrun,hs2,hu2,hz2⟩:=SetAt.store H1.o.set (x:=k) (H.o.good.kr k HK.o) hN;have S2:=Y3 hs2 hu2 hz2;have B1:=qqh hb1;clear hs2 hu2 hz2 hb1;go_wp2
  go_ret
  refine⟨rfl,?_,(uuo B1.out).trans (S2.out.2.1)⟩;exact{H1.o with
   str:=(S2.out.2.1.block b H1.o.blt H1.o.bm.symm).trans H1.o.str
   ks:=H1.o.ks.keep S2.out.2.1 (fun g hg e=>H1.o.km (by rw[hg,e]))
   gs:=H1.o.gs.keep S2.out.2.1 (fun g hg e=>H1.o.gm (by rw[hg,e]))
   set:=S2.out.1
   good:=H1.o.good.touch HK.o}
 .have hix:=vJ hk;obtain⟨ao,c,rfl⟩:=h.ks.rd.nil_iff;have e1:touchC K k=14:=if_neg hk;rw[e1,if_neg hk];clear h e1 hk;go_enter Tryz.func325,Tryz.ntmps325
  go_wp2_with fail
  refine(xf HR.o (by omega) k).mono ?_;rintro e w1 ⟨rfl,hb1⟩;rw[hix];go_wp2
  go_ret
  exact⟨rfl,(H.o.below hb1).mono (by omega),uuo hb1⟩
end Go.Proofs.YtfhfbpmlnjdfoaaGreatDoor
