/- Pages of entri -/
import Derived.Test.YtfhfbpmlnjdfoaaGreatDoorG06
import Derived.Laws.CopyRow
import Derived.Shelf.Bits.Mul64
set_option maxRecDepth 100000
set_option maxHeartbeats 4000000
namespace Go.Proofs.YtfhfbpmlnjdfoaaGreatDoor
open Go Go.RowKit Tryz
section
def needN(n:Nat):Nat:=(n-1)/4+1
def partE(E:List Ent)(k:Nat):List Ent:=(E.drop (4*k)).take 4
def padE(l:List Ent):List Ent:=l++List.replicate (4-l.length) Ent.none
def pageXs(seq need:Nat)(E:List Ent)(k:Nat):List Int:=natsI (pgN seq k need (partE E k).length (padE (partE E k)))
def zZ(seq:Nat)(E:List Ent)(k:Nat):List Bk:=(List.range k).map fun i=>sectP (pageXs seq (needN E.length) E i)
def pagesB(seq:Nat)(E:List Ent):List Bk:=zZ seq E (needN E.length)
def qN(x:Ent):Prop:=x.b<=4095/\x.s<=1023/\x.m<=4294967295
theorem qe(E:List Ent)(k:Nat):(partE E k).length<=4:=by simp[partE];omega
theorem qg{l:List Ent}(h:l.length<=4):(padE l).length=4:=by simp[padE];omega
theorem UP(L:List Ent):(L.flatMap entN).length=L.length*4:=by
 induction L with
 |nil=>rfl
 |cons x L ih=>rw[qyg,qzd,ih,qze,show(entN x).length=4 from rfl];omega
theorem yT(seq need:Nat)(E:List Ent)(k:Nat):(pageXs seq need E k).length=20:=by
 have h:=qg (qe E k);have:((padE (partE E k)).flatMap entN).length=16:=by rw[UP,h]
 simp[pageXs,natsI,pgN,this]
theorem sP(seq no of many:Nat)(L:List Ent){i:Nat}(hi:i<L.length):rowI (natsI (pgN seq no of many L)) i=natsI (entN (L.getD i Ent.none)):=by
 have h:∀(L:List Ent) (i:Nat),i<L.length->((natsI (L.flatMap entN)).drop (4*i)).take 4=natsI (entN (L.getD i Ent.none)):=by
  intro L
  induction L with
  |nil=>intro i h;simp at h
  |cons x L ih=>
   intro i hi;cases i with
   |zero=>rfl
   |succ i=>
    have e:natsI ((x::L).flatMap entN)=natsI (entN x)++natsI (L.flatMap entN):=by simp[natsI]
    rw[e,show 4*(i+1)=(natsI (entN x)).length+4*i by simp[natsI,entN];omega,List.drop_length_add_append];simpa using ih i ox
 rw[<-h L i hi];simp only[rowI];rw[<-List.drop_drop];rfl
theorem uZ{seq:Nat}{E:List Ent}(hs:seq<=1099511627776)(hE:∀x∈E,qN x)(hn:needN E.length<=256){k:Nat}(hk:k<needN E.length):mayP (pageXs seq (needN E.length) E k)=true:=by
 have hp:=qe E k;have hl:=qg hp;simp only[mayP,qxo,qYz];refine⟨⟨?_,?_⟩,?_⟩
 .simp [withinB,bndP,pageXs,natsI,pgN,inB];omega
 .simp [pageXs,natsI,pgN];omega
 .unfold entsB;rw[qxw];intro i hi;have hi4:i<4:=by simpa using hi
  unfold entB;have h3:(pageXs seq (needN E.length) E k).getD 3 0=((partE E k).length:Int):=by simp[pageXs,natsI,pgN]
  rw[h3];unfold pageXs;rw[sP _ _ _ _ _ oM];split
  .rename_i hlt
   have hlt':i<(partE E k).length:=oM;have e:(padE (partE E k)).getD i Ent.none=(partE E k)[i]:=by
    simp[padE,List.getD_eq_getElem?_getD,List.getElem?_append_left hlt',hlt']
   rw[e];have hm:(partE E k)[i]∈E:=List.mem_of_mem_drop (List.mem_of_mem_take (qyz hlt'));obtain⟨a1,a2,a3⟩:=hE _ hm;generalize (partE E k)[i]=x at*;simp[withinB,bndE,natsI,entN,inB];have:bitN x.d<=1:=by unfold bitN;split<;>omega
   omega
  .rename_i hge
   have e:(padE (partE E k)).getD i Ent.none=Ent.none:=by
    simp only[padE,qyh];rw[qyj oM,qys];split<;>rfl
   rw[e];simp[natsI,entN,Ent.none,bitN]
theorem ux(seq:Nat)(E:List Ent)(k:Nat):zZ seq E (k+1)=zZ seq E k++[sectP (pageXs seq (needN E.length) E k)]:=by simp[zZ,List.range_succ]
theorem xj(seq:Nat)(E:List Ent)(k:Nat):(zZ seq E k).length=k:=by simp[zZ]
theorem Wr(seq:Nat)(E:List Ent)(k:Nat):All64 (zZ seq E k):=by
 intro x hx;simp only[zZ,qzv]at hx;obtain⟨i,-,rfl⟩:=hx;exact xV (yT _ _ _ _)
theorem zcf(x y:Nat)(hx:x<18446744073709551616)(hy:y<18446744073709551616)(w:World):
  Calls prog 318 #[.int .u64 x,.int .u64 y] w fun e w'=>e=.returned (.tuple #[.int .u64 ((x*y/18446744073709551616:Nat):Int),.int .u64 ((x*y%18446744073709551616:Nat):Int)])/\w'=w:=by
 obtain⟨bd,bt,bw,hhi⟩:=Lib.mul64_hi x y hx hy;have ba:=Lib.half_mul_le (a:=x/4294967296) (b:=y/4294967296) oM oM;have bb:=Lib.half_mul_le (a:=x/4294967296) (b:=y%4294967296) oM oM;have bc:=Lib.half_mul_le (a:=x%4294967296) (b:=y/4294967296) oM oM;have ba':x/4294967296*(y/4294967296)<18446744073709551616:=oM;have bb':x/4294967296*(y%4294967296)<18446744073709551616:=oM;have bc':x%4294967296*(y/4294967296)<18446744073709551616:=oM;have bh1:x/4294967296*(y/4294967296)+(x/4294967296*(y%4294967296)+x%4294967296*(y%4294967296)/4294967296)/4294967296<18446744073709551616:=oM;have bh:x/4294967296*(y/4294967296)+(x/4294967296*(y%4294967296)+x%4294967296*(y%4294967296)/4294967296)/4294967296+((x/4294967296*(y%4294967296)+x%4294967296*(y%4294967296)/4294967296)%4294967296+x%4294967296*(y/4294967296))/4294967296<18446744073709551616:=oM;go_enter func318,ntmps318
 go_wp2
 simp only[Mul64.maskN x hx,Mul64.maskN y hy,Mul64.divN,Mul64.mulN,Mul64.addN,Mul64.wrapN _ bd,Mul64.wrapN _ bb',Mul64.wrapN _ bt,Mul64.maskN _ bt,Mul64.wrapN _ bc',Mul64.wrapN _ bw,Mul64.wrapN _ ba',Mul64.wrapN _ bh1,Mul64.wrapN _ bh,Mul64.wrapM (x*y)];rw[hhi];go_ret2
 exact⟨rfl,rfl⟩
theorem mul(x y:Nat)(hx:x<18446744073709551616)(hy:y<18446744073709551616)(w:World):
  Calls prog 270 #[.int .u64 x,.int .u64 y] w fun e w'=>e=.returned (.tuple #[.int .u64 ((x*y/18446744073709551616:Nat):Int),.int .u64 ((x*y%18446744073709551616:Nat):Int)])/\w'=w:=by
 go_enter func270,ntmps270
 go_wp2_with fail
 refine(zcf x y hx hy w).mono ?_;rintro e w' ⟨rfl,rfl⟩;go_wp2
 go_ret2
 exact⟨rfl,rfl⟩
section
variable{P:Program}
theorem sr(w:World)(dT sT ty elem:TypeId)(k g o dLen dCap:Nat)(a:Addr)(sLen sCap:Nat)(cur:Array Value)(t:TypeId)(cs:List Value)
  (hu:P.underlying dT=some (.slice elem)) (hs:(P.info? elem).map (·.size)=some k)
  (hg:w.heap[g]?=some (.cells cur t (0,0))) (hn:cs.length=Nat.min sLen dLen*k)
  (hsrc:∀j v,cs[j]?=some v->w.cell? (a.add j)=some v) (hfit:o+cs.length<=cur.size) (h1:∀v∈cs,v.oneCell'=true):
  (Builtin.copy_ #[dT,sT] ty #[.slice (some ⟨g,o,none⟩) dLen dCap,.slice (some a) sLen sCap]).run P w=
   .ok (goInt (Nat.min sLen dLen:Nat)) (w.setRow g (cur.toList.take o++cs++cur.toList.drop (o+cs.length)).toArray):=by
 have hl:=run_loadCells_list (P:=P) w a cs hsrc;have hst:=run_storeCells_at P g o t cs 0 cur w hg (by simpa using hfit) h1;cases hq:P.info? elem with
 |none=>simp[hq]at hs
 |some i=>
  have hi:i.size=k:=by simpa[hq]using hs
  rw[hn]at hl;simp[Builtin.copy_,run_underlying hu,Builtin.lenOf,Builtin.firstCells,sizeOf,typeInfo,hq,hi,hl,hst]
theorem ta(w:World)(dT sT elem:TypeId)(k g o dLen dCap:Nat)(a:Addr)(sLen sCap:Nat)(cur:Array Value)(t:TypeId)(cs:List Value)
  (hu:P.underlying dT=some (.slice elem)) (hs:(P.info? elem).map (·.size)=some k)
  (hg:w.heap[g]?=some (.cells cur t (0,0))) (hn:cs.length=Nat.min sLen dLen*k)
  (hsrc:∀j v,cs[j]?=some v->w.cell? (a.add j)=some v) (hfit:o+cs.length<=cur.size) (h1:∀v∈cs,v.oneCell'=true):
  ∃w',(∀ty,(Builtin.copy_ #[dT,sT] ty #[.slice (some ⟨g,o,none⟩) dLen dCap,.slice (some a) sLen sCap]).run P w=.ok (goInt (Nat.min sLen dLen:Nat)) w')/\
   w'.heap[g]?=some (.cells (cur.toList.take o++(cs++cur.toList.drop (o+cs.length))).toArray t (0,0))/\Upd (fun j=>j=g) w w'/\w'.heap.size=w.heap.size:=
 ⟨_,fun ty=>sr w dT sT ty elem k g o dLen dCap a sLen sCap cur t cs hu hs hg hn hsrc hfit h1,by rw[<-qxx];exact setRow_heap w g cur _ t _ hg,⟨rfl,rfl,rfl,by simp[World.setRow],fun k _ hk=>setRow_other w g k _ (fun e=>hk e)⟩,by simp[World.setRow]⟩
end
def noPl(n:Nat):List Value:=(List.replicate n ()).flatMap fun _=>[.int .i64 (-1),.bool false]
theorem yN(n:Nat):(noPl n).length=n*2:=by
 have:=yK (f:=fun _:Unit=>[Value.int .i64 (-1),Value.bool false]) (k:=2) (fun _=>rfl) (List.replicate n ());rw[qzi]at this;exact this
theorem qO(a b:Nat):noPl (a+b)=noPl a++noPl b:=by
 simp only[noPl];rw[<-List.replicate_append_replicate,qyf]
theorem UQ:(prog.info? 95).map (fun i=>(i.zero,i.size,i.bytes))=some (some (.agg #[.int .i64 0,.bool false]),2,16):=kR
theorem UR(n:Nat)(gx:Nat)(w:World)(h1:1<=n)(h2:n<=4096)(hx:w.heap[gx]?=some (.cells #[.int .i64 (-1),.bool false] 95)):
  Calls prog 201 #[.slice (some ⟨gx,0,none⟩) 1 1,.int .i64 n] w fun e w'=>e=.returned (.slice (some ⟨w.heap.size,0,none⟩) n n)/\
   w'.heap[w.heap.size]?=some (.cells (noPl n).toArray 95)/\Below w.heap.size w w'/\w'.heap.size=w.heap.size+1:=by
 obtain⟨i0,hi,hz0,hz1,hz2⟩:=qZa UQ;have hmk:∀w:World,∃zs:List Value,zs.length=n*2/\(Instr.makeSlice 283 (.int .i64 n) (.int .i64 n)).run prog w=.ok (.slice (some ⟨w.heap.size,0,none⟩) n n) (w.alloc (.cells zs.toArray 95)):=by
  intro w;have:=run_make (P:=prog) w 283 95 i0 (.agg #[.int .i64 0,.bool false]) underlying283 hi hz0 .i64 .i64 n n oM oM jH oM;refine⟨(madeCells #[.int .i64 0,.bool false] (n*2)).toList,by simp[size_madeCells],?_⟩;rw[this];simp[hz1,Value.cells]
 obtain⟨zs,hzl,hrun⟩:=hmk w;have hn0:¬(n:Int)<0:=oM;clear hi hz0 hz1 hz2 hmk;go_enter func201,ntmps201
 go_wp2_with fail
 refine(mul 1 n de oM _).mono ?_;rintro e w' ⟨rfl,rfl⟩;rw[show 1*n/18446744073709551616=0 by omega,show 1*n%18446744073709551616=n by omega];have hgx:=zf hx;have hA:(w'.alloc (.cells zs.toArray 95)).heap[w'.heap.size]?=some (.cells zs.toArray 95):=zc _ _ rfl;have hxA:(w'.alloc (.cells zs.toArray 95)).heap[gx]?=some (.cells #[.int .i64 (-1),.bool false] 95):=(qxk _ _ _ hgx).trans hx;have hS:(prog.info? 95).map (·.size)=some 2:=kR;have HA:=qqh hA;have HX:=qqh hxA;have HRUN:=qqh hrun;clear hA hxA hx;have hmn:Nat.min 1 n=1:=Nat.min_eq_left h1;have e1:([.int .i64 (-1),.bool false]:List Value).length=Nat.min 1 n*2:=by rw[hmn];rfl
 have e2:∀(j:Nat) (v:Value),([.int .i64 (-1),.bool false]:List Value)[j]?=some v->(w'.alloc (.cells zs.toArray 95)).cell? ((⟨gx,0,none⟩:Addr).add j)=some v:=fun j v hj=>by rw[qxa,za HX.o];simpa using hj
 have e3:0+([.int .i64 (-1),.bool false]:List Value).length<=zs.toArray.size:=by simp;omega
 obtain⟨w2,hcp,hg2,hu2,hz2⟩:=ta (P:=prog) (w'.alloc (.cells zs.toArray 95)) 283 283 95 2 w'.heap.size 0 n n ⟨gx,0,none⟩ 1 1 zs.toArray 95 [.int .i64 (-1),.bool false] underlying283 hS HA.o e1 e2 e3 oJ;rw[hmn]at hcp;clear e1 e2 e3;have hg3:w2.heap[w'.heap.size]?=some (.cells (noPl 1++zs.drop 2).toArray 95):=by rw[hg2];rfl
 have hB2:Below w'.heap.size w' w2:=zk ((qxl _ _).alloc (qXv _) _) hu2 (qXv _) (fun j e=>oM);have hz3:w2.heap.size=w'.heap.size+1:=by rw[hz2];simp
 clear hg2 hu2 hz2;go_wp2
 clear hcp HX HRUN hrun;go_loopg[8] (n-1) (fun q i wr=>∃(k:Nat) (rest:List Value),1<=k/\k<=n/\q=n-k/\i=.int .i64 k/\rest.length=(n-k)*2/\wr.heap[w'.heap.size]?=some (.cells (noPl k++rest).toArray 95)/\Below w'.heap.size w' wr/\wr.heap.size=w'.heap.size+1)
 case atStart=>exact⟨1,zs.drop 2,oM,h1,rfl,rfl,by simp;omega,hg3,hB2,hz3⟩
 case round=>
  clear hg3 hB2 hz3;obtain⟨k,rest,hk1,hkn,rfl,rfl,hrl,hg,hb,hz⟩:=hrel;by_cases hlt:k<n
  .have hkk:noPl k=noPl (Nat.min k (n-k))++noPl (k-Nat.min k (n-k)):=by rw[<-qO];congr 1;have:=Nat.min_le_left k (n-k);show k=min k (n-k)+_;have:min k (n-k)<=k:=Nat.min_le_left _ _;show k=min k (n-k)+(k-min k (n-k));omega
   obtain⟨w3,hcp,hg4,hu4,hz4⟩:=ta (P:=prog) wr.drew 283 283 95 2 w'.heap.size (k*2) (n-k) (n-k) ⟨w'.heap.size,0,none⟩ k n (noPl k++rest).toArray 95 (noPl (Nat.min k (n-k))) underlying283 hS hg (by rw[yN])
    (fun j v hj=>by
     rw[qxa,za (w:=wr.drew) hg];have hjl:=(qyp.1 hj).1;rw[hkk];simp only[qyv,qYe,qxx];rw[qyi hjl];exact hj)
    (by rw[yN];simp only[qXm,qzd,yN,hrl];have:Nat.min k (n-k)<=n-k:=Nat.min_le_right _ _;omega) (by intro v hv;simp only[noPl,qzu]at hv;obtain⟨_,_,hv⟩:=hv;simp at hv;rcases hv with rfl|rfl<;>simp[Value.oneCell'])
   go_wp2
   go_region
   obtain⟨c,hce⟩:=qqe (Nat.min k (n-k));rw[<-hce]at hkk hg4;have hc1:1<=c:=by rw[hce];exact Nat.le_min.2 ⟨hk1,oM⟩
   have hc2:c<=n-k:=by rw[hce];exact Nat.min_le_right _ _
   have hg5:w3.heap[w'.heap.size]?=some (.cells (noPl (k+c)++rest.drop (c*2)).toArray 95):=by
    rw[hg4,qO];have e1:(noPl k++rest).toArray.toList.take (k*2)=noPl k:=by simp[yN]
    have e2:(noPl k++rest).toArray.toList.drop (k*2+(noPl c).length)=rest.drop (c*2):=by
     rw[yN];show(noPl k++rest).drop (k*2+c*2)=_;rw[List.drop_append,yN,List.drop_eq_nil_of_le (by rw[yN];omega)];simp
    rw[e1,e2,qxx]
   have hb3:Below w'.heap.size w' w3:=zk hb (((uur _ wr).drew).trans hu4) (qXv _) (fun j e=>oM);have hz5:w3.heap.size=w'.heap.size+1:=by rw[hz4];exact hz
   rw[<-hce];clear hg4 hu4 hz4 hg hb hz hcp hkk hce;have hkc:k+c<=4096:=oM;have hkc':∀x:Int,x=(k:Int)+c->wrap64 x=((k+c:Nat):Int):=by intro x hx;subst hx;unfold wrap64;omega
   go_wp2
   go_roundg (n-(k+c))
   case measure=>omega
   case rel=>exact⟨k+c,rest.drop (c*2),oM,oM,rfl,by rw[hkc' _ rfl],by simp;omega,hg5,hb3,hz5⟩
  .obtain rfl:k=n:=oM;obtain rfl:rest=[]:=qyd oM;rw[qxy]at hg;go_wp2
   go_ret
   exact⟨rfl,hg,hb,hz⟩
theorem qP(n:Nat)(h2:n<=100000)(w:World):Calls prog 54 #[.int .i64 (n:Int)] w fun e w'=>e=.returned (.int .i64 (needN n:Int))/\w=w':=by
 by_cases h1:1<=n
 .exact need_any n h1 h2 w
 .obtain rfl:n=0:=oM;go_enter func54,ntmps54
  go_wp2
  go_ret
  exact⟨rfl,rfl⟩
theorem Qz:(prog.info? 54).map (fun i=>(i.zero.map (·.cells.size),i.size,i.bytes))=some (some 64,64,64):=kR
theorem xp:∃i z,prog.info? 54=some i/\i.zero=some z/\z.cells.size=64/\i.size=64/\i.bytes=64:=by
 obtain⟨i,hi,h⟩:=qYi.1 Qz;simp only[qYk]at h;obtain⟨h1,h2,h3⟩:=h;obtain⟨z,hz,hs⟩:=qYi.1 h1;exact⟨i,z,hi,hz,hs,h2,h3⟩
theorem Ws(v:Value)(hv:v.cells.size=64)(w:World):(Instr.buildSlice 41 1 #[(0,v)]).run prog w=.ok (.slice (some ⟨w.heap.size,0,none⟩) 1 1) (w.alloc (.cells v.cells 54)):=by
 obtain⟨i,z,hi,hz,hs,hsz,_⟩:=xp;refine run_buildSlice w _ _ 1 _ _ i z underlying41 hi hz jC jC ?_;obtain⟨a1,a2⟩:=yP 0 v.cells ((Array.range (1*i.size)).map (z.cells[·%z.cells.size]!));rw[show(#[(0,v)]:Array (Nat×Value)).toList=[(0,v)]from rfl];rw[xr _ _ 0 0 64 v _ jL hv jL];show some _=_
 congr 1
 apply qxd
 intro k;rw[a2 k];by_cases hk:k<64
 .rw [if_pos ⟨oM,oM,by simp[hsz];omega⟩];rfl
 .rw [if_neg oM,qxf kf,qxf oM]
theorem AB(seq no of m:Nat)(L:List Ent)(hL:L.length=m)(hm:m<=4)(P0:List Value)(h0:P0=[.int .i64 (seq:Int),.int .i64 (no:Int),.int .i64 (of:Int),.int .i64 (m:Int)]++(List.replicate 4 Ent.none).flatMap entC):
  P0.take 4++(L.flatMap entC++P0.drop (4+(L.flatMap entC).length))=pgC seq no of m (padE L):=by
 subst h0;rw[xT,hL];have h1:([Value.int .i64 (seq:Int),.int .i64 (no:Int),.int .i64 (of:Int),.int .i64 (m:Int)]++(List.replicate 4 Ent.none).flatMap entC).drop (4+m*4)=(List.replicate (4-m) Ent.none).flatMap entC:=by
  have:m=0\/m=1\/m=2\/m=3\/m=4:=oM;rcases this with rfl|rfl|rfl|rfl|rfl<;>rfl
 rw[h1,pgC,padE,hL,qyf];rfl
def pg0(seq k nd m:Nat):Array Value:= #[.int .i64 (seq:Int),.int .i64 (k:Int),.int .i64 (nd:Int),.int .i64 (m:Int),.int .i64 0,.int .i64 0,.bool false,.int .i64 0,.int .i64 0,.int .i64 0,.bool false,.int .i64 0,.int .i64 0,.int .i64 0,.bool false,.int .i64 0,.int .i64 0,.int .i64 0,.bool false,.int .i64 0]
theorem Jp{w:World}{b:Nat}{T:TypeId}(seq k nd m:Nat)(L:List Ent)(hL:L.length=m)(hm:m<=4)(h:w.heap[b]?=some (.cells ((pg0 seq k nd m).toList.take 4++(L.flatMap entC++(pg0 seq k nd m).toList.drop (4+(L.flatMap entC).length))).toArray T (0,0))):
  w.heap[b]?=some (.cells (pgC seq k nd m (padE L)).toArray T (0,0)):=by
 rw[h,AB seq k nd m L hL hm (pg0 seq k nd m).toList rfl]
theorem qQ(seq k nd m:Nat):(pg0 seq k nd m).size=20:=rfl
theorem VH(seq no of m:Nat){L:List Ent}(h:L.length=4):(pgC seq no of m L).length=20:=by
 rw[pgC,qzd,xT,h];rfl
theorem Wt{w:World}{g o:Nat}{E:List Ent}(hr:w.rangeAt g o (E.flatMap entC))(k:Nat):w.rangeAt g (o+k*4*4) ((partE E k).flatMap entC):=by
 have hd:∀(E:List Ent) (n:Nat),(E.drop n).flatMap entC=(E.flatMap entC).drop (n*4):=by
  intro E
  induction E with
  |nil=>intro n;simp
  |cons x E ih=>
   intro n;cases n with
   |zero=>simp
   |succ n=>rw[List.drop_succ_cons,ih,qyg,show(n+1)*4=(entC x).length+n*4 by rw[qJ];omega,List.drop_length_add_append]
 have ht:∀(E:List Ent) (n:Nat),(E.take n).flatMap entC=(E.flatMap entC).take (n*4):=by
  intro E
  induction E with
  |nil=>intro n;simp
  |cons x E ih=>
   intro n;cases n with
   |zero=>simp
   |succ n=>rw[List.take_succ_cons,qyg,ih,qyg,show(n+1)*4=(entC x).length+n*4 by rw[qJ];omega,List.take_length_add_append]
 intro j v hv;rw[partE,ht,hd,qyu]at hv;split at hv
 .rw [qym]at hv;have:=hr _ v hv;rw[show o+k*4*4+j=o+(4*k*4+j) by omega];exact this
 .cases hv
def xw(w:World)(seq:Nat)(E:List Ent)(e:Ending)(w':World):Prop:=∃v,e=.returned (.tuple #[v,.int .i64 0])/\Sl w' 54 64 v (needN E.length) (rowC (pagesB seq E))/\From w.heap.size v/\Below w.heap.size w w'
theorem US(w:World):Calls prog 54 #[.int .i64 0] w fun e w'=>e=.returned (.int .i64 1)/\w=w':=qP 0 oM w
theorem sw{P:Program}(w:World)(dT sT ty elem:TypeId)(k g o:Nat)(dl dc:Nat)(hu:P.underlying dT=some (.slice elem))(hs:(P.info? elem).map (·.size)=some k):
  (Builtin.copy_ #[dT,sT] ty #[.slice (some ⟨g,o,none⟩) dl dc,.slice none 0 0]).run P w=.ok (.int .i64 0) w:=by
 cases hq:P.info? elem with
 |none=>simp[hq]at hs
 |some i=>simp[Builtin.copy_,run_underlying hu,Builtin.lenOf,Builtin.firstCells,sizeOf,typeInfo,hq,storeCells,goInt]
theorem AC(seq:Nat):(pg0 seq 0 1 0)=(pgC seq 0 1 0 (padE (partE [] 0))).toArray:=rfl
theorem wL{ops:Array Oper}{rest:List Oper}{op:Oper}{a:Act}{w:World}{Q:Exit->Act->World->Prop}(hgd:op.guard=none)(p q r s:Operand)(ho:op.op=.build 280 #[(0,p),(1,q),(2,r),(3,s)])
  (x k nd m:Nat) (hp:a.eval p=.int .i64 (x:Int)) (hq:a.eval q=.int .i64 (k:Int)) (hr:a.eval r=.int .i64 (nd:Int)) (hs:a.eval s=.int .i64 (m:Int)) (PG:Array Value) (hPG:PG=pg0 x k nd m)
  (h:wpList prog ops Q rest (a.put op.dst (.agg PG)) w):wpList prog ops Q (op::rest) a w:=by
 have hrun:(Instr.build 280 #[(0,.int .i64 (x:Int)),(1,.int .i64 (k:Int)),(2,.int .i64 (nd:Int)),(3,.int .i64 (m:Int))]).run prog w=.ok (.agg PG) w:=by
  rw[hPG];kernel_rfl
 refine qZh hgd fun K' hK'=>?_;unfold Oper.wp;simp only[execOp,ho,qzp,qzm,qzo,hp,hq,hr,hs,qYm,hrun,qYl];exact hK' _ _ h
theorem tc(F:List Bk)(x:Bk):rowC (F++[x])=rowC F++bkC x:=by simp[rowC]
theorem Wu{w:World}{g o n c:Nat}(E:List Ent)(hE:E.length=n)(h1:1<=n)(h2:n<=1024)(hr:w.rangeAt g o (E.flatMap entC))(hc:n<=c)(hm:c<=maxLen)(seq:Nat)(hs:seq<=1099511627776)(hok:∀x∈E,qN x)(hN:Nib w):
  Calls prog 191 #[.int .i64 (seq:Int),.slice (some ⟨g,o,none⟩) n c] w (xw w seq E):=by
 obtain⟨i0,hi,hb0⟩:=qYi.1 Qz;simp only[qYk]at hb0;obtain⟨hb1,hb2,hb3⟩:=hb0;obtain⟨z,hz,hzs⟩:=qYi.1 hb1;have hq:needN n<=256:=by unfold needN;omega
 obtain⟨Z,hZ,hmk⟩:∃Z:Array Value,Z.size=needN n*64/\∀w:World,(Instr.makeSlice 41 (.int .i64 0) (.int .i64 (needN n:Int))).run prog w=.ok (.slice (some ⟨w.heap.size,0,none⟩) 0 (needN n)) (w.alloc (.cells Z 54)):=by
  refine⟨madeCells z.cells (needN n*64),by simp[size_madeCells],fun w=>?_⟩;have:=run_make (P:=prog) w 41 54 i0 z underlying41 hi hz .i64 .i64 0 (needN n) oM oM (by rw[hb3];omega) oM;rw[this];simp only[qxu,hb2];rfl
 have HK:=Y5 hi hz hzs hb2 hb3;have H:=Y6 hr hs hok hN hE hZ;have hgl:g<w.heap.size:=by
  have:=hr 0 (.int .i64 ((E[0]'oM).b:Int)) (by
   have h0:0<E.length:=oM;obtain⟨x,l,rfl⟩:∃x l,E=x::l:=by cases E with|nil=>simp at h0|cons x l=>exact⟨x,l,rfl⟩
   rfl)
  exact(zN this).2
 have hq1:1<=needN n:=by unfold needN;omega
 have hqn:∀k,k<needN n->4*k<n:=fun k hk=>by unfold needN at hk;omega
 have hqm:needN n<=n:=by unfold needN;omega
 have HQ:=Y2 hqn hqm;unfold maxLen at hm;clear hr hs hok hN hE hi hz hzs hb1 hb2 hb3 hZ hqn;generalize hnd:needN n=nd at*;have HND:=qqh hnd;go_enter func191,ntmps191
 go_wp2_with (first
  |(go_at_call 54;refine(qP n oM _).mono ?_;rintro e w' ⟨rfl,rfl⟩;rw[hnd];clear hnd)
  |fail)
 have hg0:=zc w (.cells Z 54) rfl;have hb0:Below w.heap.size w (w.alloc (.cells Z 54)):=(qxl _ w).alloc (qXv _) _;have hsl0:Sl (w.alloc (.cells Z 54)) 54 64 (.slice (some ⟨w.heap.size,0,none⟩) 0 nd) 0 (rowC (zZ seq E 0)):=
  ⟨by simp[zZ,rowC],.inr ⟨w.heap.size,0,nd,_,rfl,hg0,qYf _,by unfold maxLen;omega,by rw[H.o.2.2.2.2.2];omega,by simp[zZ,rowC]⟩⟩
 have hf0:From w.heap.size (.slice (some ⟨w.heap.size,0,none⟩) 0 nd):=fun g hg=>by simp[Value.ownBlock]at hg;omega
 generalize w.alloc (.cells Z 54)=w1 at*;have H1:=Y3 hsl0 hf0 hb0;clear hg0 hb0 hsl0 hf0 hmk;go_loopw[7,21] (fun s7 s21 wr=>∃k:Nat,k<=nd/\s21=.int .i64 k/\Sl wr 54 64 s7 k (rowC (zZ seq E k))/\From w.heap.size s7/\Below w.heap.size w wr) (fun _ s21 _=>nd-(intOf s21).toNat)
 case atStart=>exact⟨0,oM,rfl,H1.o.1,H1.o.2.1,H1.o.2.2⟩
 case round=>
  obtain⟨k,hk,rfl,hsl,hf,hb⟩:=hrel;by_cases hlt:k<nd
  .have h4:=HQ.o.1 k hlt;have b1:(0:Int)<=(k:Int):=oM;have HS:=Y3 hsl hf hb;obtain⟨ao,cc,rfl⟩:=hsl.rd.j7;obtain⟨m,hm1⟩:=qqe ((partE E k).length);have hmE:m=min 4 (n-4*k):=by rw[hm1,partE,qzk,qzf,H.o.2.2.2.2.1]
   have hm4:m<=4:=oM;have hmin:Nat.min m 4=m:=Nat.min_eq_left hm4;obtain⟨PG,hPG⟩:∃PG:List Value,PG.toArray=pg0 seq k nd m:=⟨(pg0 seq k nd m).toList,rfl⟩
   have hPGl:PG.length=20:=(congrArg Array.size hPG).trans (qQ seq k nd m);have hPG1:∀v∈PG,v.oneCell'=true:=by
    intro v hv;have hv':v∈pg0 seq k nd m:=by rw[<-hPG];simpa using hv
    simp only[pg0,Array.mem_def,qzr,qXd,qZb]at hv';rcases hv' with rfl|rfl|rfl|rfl|rfl|rfl|rfl|rfl|rfl|rfl|rfl|rfl|rfl|rfl|rfl|rfl|rfl|rfl|rfl|rfl<;>rfl
   obtain⟨w0,hw0⟩:=qqe (wr.alloc (.cells PG.toArray 280));have hg0:w0.heap[wr.heap.size]?=some (.cells (pg0 seq k nd m) 280):=by rw[hw0,<-hPG];exact zc wr _ rfl
   have hu0:=qqu hw0;have hb0:Below w.heap.size w w0:=hb.trans ((Upd.below hu0).mono hb.size);have hr0:=Wt (Below.range hb0 H.o.1) k;obtain⟨w3,hcp,hg3,hu3,hz3⟩:=ta (P:=prog) w0 22 22 37 4 wr.heap.size 4 4 4 ⟨g,o+k*4*4,none⟩ m m _ _ ((partE E k).flatMap entC) underlying22 Zu hg0 (by rw[xT,<-hm1,hmin])
    (fun j v hj=>by rw[qxa];exact hr0 j v hj) (by rw[xT,<-hm1,qQ];omega) (fun v hv=>by obtain⟨x,-,hx⟩:=qzu.1 hv;exact YO x v hx)
   replace hg3:=Jp seq k nd m (partE E k) hm1.symm hm4 hg3;rw[hmin]at hcp;rw[hw0]at hcp;have hp4:=qg (qe E k);have hr3:=zh hg3;have hszP:(prog.info? 280).map (·.size)=some (pgC seq k nd m (padE (partE E k))).length:=by rw[VH _ _ _ _ hp4];exact wQ
   have hb3:Below w.heap.size w w3:=zk hb0 hu3 (qXv _) (fun j e=>by have:=hb.size;omega);have hput:=YW (H.o.2.2.2.1.below hb3) (pgC seq k nd m (padE (partE E k))) (VH _ _ _ _ hp4) (pageXs seq nd E k) (yT _ _ _ _) (fun W=>by rw[pageXs,<-hm1];exact EX seq k nd m _ hp4);have hmay:Hid (mayP (pageXs seq nd E k)=true):=by
    show _=_;have:=uZ (seq:=seq) (E:=E) (k:=k) H.o.2.1 H.o.2.2.1 (by rw[H.o.2.2.2.2.1,HND.o];exact hq) (by rw[H.o.2.2.2.2.1,HND.o];exact hlt);rw[H.o.2.2.2.2.1,HND.o]at this;exact this
   have hsl3:=hsl.keep ((hu0.mono fE).new hu3 (S':=fun j=>j=wr.heap.size) (fun i hi e=>e)) (fun j hj e=>by have:=hsl.lt hj;omega);have HPG:=Y3 hPG hPGl hPG1;have hsi0:Hid ((prog.info? 280).map (·.size)=some PG.length):=by show _=_;rw[hPGl];exact wQ
   have H3:=Y5 hput hsl3 hb3 hg3 hmE;clear hsl hf hb hput hsl3 hb3 hg3 hu3 hz3 hu0 hb0 hr0 hg0 hm1 hw0 hmE hPG hPGl hPG1;have hbr:((k:Int)*4+4<=(n:Int)/\k*4+4-k*4=m/\((k:Int)*4+4).toNat=k*4+4/\(k:Int)*4<=(k:Int)*4+4/\(k:Int)*4+4<=(c:Int))\/(¬(k:Int)*4+4<=(n:Int)/\n-k*4=m/\(k:Int)*4<=(n:Int)/\(n:Int)<=(c:Int)/\(n:Int)<(k:Int)*4+4):=by
    have:=H3.o.2.2.2.2;by_cases hc4:(k:Int)*4+4<=(n:Int)
    .exact .inl ⟨hc4,oM,oM,oM,oM⟩
    .exact .inr ⟨hc4,oM,oM,oM,oM⟩
   obtain⟨y,hy⟩:=qqe (sectP (pageXs seq nd E k));have hyl:(bkC y).length=64:=by rw[zo,hy];exact xV (yT _ _ _ _)
   have hy64:Hid ((prog.info? 54).map (·.size)=some (bkC y).length):=by show _=_;rw[hyl];exact zP
   have HY:=Y3 hy hyl (zx y);clear hy hyl;rcases hbr with⟨q1,q2,q3,q4,q5⟩|⟨q1,q2,q3,q4,q5⟩
   all_goals
    go_wp2_with (first
     |(refine wL rfl _ _ _ _ rfl seq k nd m oD oD oD oD PG.toArray HPG.o.1 ?_)
     |(refine zl rfl _ _ _ rfl _ _ _ rfl rfl (by rw[HPG.o.2.1];rfl) hsi0.out HPG.o.2.2 ?_)
     |(refine qZg rfl _ _ rfl _ _ rfl _ _ hr3 underlying280 rfl hszP ?_)
     |fail)
    refine H3.o.1.mono ?_;rintro e w4 ⟨hr4,hb4⟩;obtain rfl:e=.returned (.tuple #[.agg (bkC y).toArray,.int .i64 0]):=by
     rcases hr4 with⟨-,h⟩|⟨h,-⟩
     .rw [h,HY.o.1]
     .rw [hmay.out]at h;cases h
    have hA:=zc w4 (.cells (bkC y).toArray 54) rfl;have rA:=zh hA;have hu4:=qqb hb4;have hua:Upd (fun _=>False) w4 (w4.alloc (.cells (bkC y).toArray 54)):=(uur _ _).alloc _;have hsl5:=qqh ((H3.o.2.1.keep hu4 (fun _ _ h=>h)).keep hua (fun _ _ h=>h));have H4:=Y2 hu4 hua;clear hr4 hb4 hu4 hua hA q1 q2 q3 q4 q5 hcp hr3;go_wp2_with (first
     |(refine zl rfl _ _ _ rfl _ _ _ rfl rfl (by rw[HY.o.2.1];rfl) hy64.out HY.o.2.2 ?_)
     |(refine qZg rfl _ _ rfl _ _ rfl _ _ rA underlying54 rfl hy64.out ?_)
     |(refine xB rfl 41 54 _ rfl 64 de underlying41 ⟨i0,z,HK.o.1,HK.o.2.1,HK.o.2.2.1,HK.o.2.2.2.1⟩ de (bkC y) rfl HY.o.2.1 ?_)
     |(at_builtin;refine zT rfl _ _ _ rfl i0 z 64 underlying41 HK.o.1 HK.o.2.1 HK.o.2.2.2.1 HK.o.2.2.2.2 HK.o.2.2.1 de rfl hsl5.out (bkC y) oD HY.o.2.1 HY.o.2.2 og oM ?_;intro v' w11 hs11 hu11 hbf)
     |fail)
    replace hu11:Upd (ownS (.slice ao k cc)) (w4.alloc (.cells (bkC y).toArray 54)) w11:=hu11;replace hbf:blockFrom (w4.alloc (.cells (bkC y).toArray 54)) (.slice ao k cc) v':=hbf;have HZ:=Y3 hs11 hu11 hbf;clear hs11 hu11 hbf rA;go_roundw
    case rel=>
     obtain⟨hs11,hu11,hbf⟩:=HZ.o;have hB4:Below w.heap.size w (w4.alloc (.cells (bkC y).toArray 54)):=zk H3.o.2.2.1 (H4.o.1.trans H4.o.2) (qXv _) (fun _ h=>h.elim);refine⟨k+1,oM,by go_num,?_,hbf.ge hB4.size HS.o.2.1,zk hB4 hu11 (qXv _) HS.o.2.1.own⟩;rw[ux,H.o.2.2.2.2.1,HND.o,tc];rw[HY.o.1]at hs11;exact hs11
    case measure=>simp[intOf];omega
  .obtain rfl:k=nd:=oM;have HS:=Y3 hsl hf hb;obtain⟨ao,cc,rfl⟩:=hsl.rd.j7;clear hsl hf hb;go_wp2
   go_ret2
   exact⟨_,rfl,by unfold pagesB;rw[H.o.2.2.2.2.1,HND.o];exact HS.o.1,HS.o.2.1,HS.o.2.2⟩
theorem sQ{w:World}(seq:Nat)(hs:seq<=1099511627776)(hN:Nib w):
  Calls prog 191 #[.int .i64 (seq:Int),.slice none 0 0] w (xw w seq []):=by
 obtain⟨i0,z,hi,hz,hzs,hsz,hby⟩:=xp;obtain⟨Z,hZ,hmk⟩:∃Z:Array Value,Z.size=64/\∀w:World,(Instr.makeSlice 41 (.int .i64 0) (.int .i64 1)).run prog w=.ok (.slice (some ⟨w.heap.size,0,none⟩) 0 1) (w.alloc (.cells Z 54)):=by
  refine⟨madeCells z.cells (1*64),by simp[size_madeCells],fun w=>?_⟩;have:=run_make (P:=prog) w 41 54 i0 z underlying41 hi hz .i64 .i64 0 1 oM oM (by rw[hby];omega) oM;rw[this];simp only[hsz];rfl
 have HK:=Y5 hi hz hzs hsz hby;have H:=Y3 hs hN hZ;have hcp:=fun(w:World) (g:Nat) (ty:TypeId)=>sw (P:=prog) w 22 22 ty 37 4 g 4 4 4 underlying22 Zu;clear hi hz hzs hsz hby hs hN hZ;go_enter func191,ntmps191
 go_wp2_with (first
  |(go_at_call 54;refine(US _).mono ?_;rintro e w' ⟨rfl,rfl⟩)
  |fail)
 have hg0:=zc w (.cells Z 54) rfl;have hb0:Below w.heap.size w (w.alloc (.cells Z 54)):=(qxl _ w).alloc (qXv _) _;have hsl0:Sl (w.alloc (.cells Z 54)) 54 64 (.slice (some ⟨w.heap.size,0,none⟩) 0 1) 0 (rowC (zZ seq [] 0)):=
  ⟨by simp[zZ,rowC],.inr ⟨w.heap.size,0,1,_,rfl,hg0,qYf _,by unfold maxLen;omega,by rw[H.o.2.2];omega,by simp[zZ,rowC]⟩⟩
 have hf0:From w.heap.size (.slice (some ⟨w.heap.size,0,none⟩) 0 1):=fun g hg=>by simp[Value.ownBlock]at hg;omega
 generalize w.alloc (.cells Z 54)=w1 at*;have H1:=Y3 hsl0 hf0 hb0;clear hg0 hb0 hsl0 hf0 hmk;go_loopw[7,21] (fun s7 s21 wr=>∃k:Nat,k<=1/\s21=.int .i64 k/\Sl wr 54 64 s7 k (rowC (zZ seq [] k))/\From w.heap.size s7/\Below w.heap.size w wr) (fun _ s21 _=>1-(intOf s21).toNat)
 case atStart=>exact⟨0,oM,rfl,H1.o.1,H1.o.2.1,H1.o.2.2⟩
 case round=>
  obtain⟨k,hk,rfl,hsl,hf,hb⟩:=hrel;by_cases hlt:k<1
  .obtain rfl:k=0:=oM;have HS:=Y3 hsl hf hb;obtain⟨ao,cc,rfl⟩:=hsl.rd.j7;obtain⟨PG,hPG⟩:∃PG:List Value,PG.toArray=pg0 seq 0 1 0:=⟨(pg0 seq 0 1 0).toList,rfl⟩
   have hPGl:PG.length=20:=(congrArg Array.size hPG).trans (qQ seq 0 1 0);have hPG1:∀v∈PG,v.oneCell'=true:=by
    intro v hv;have hv':v∈pg0 seq 0 1 0:=by rw[<-hPG];simpa using hv
    simp only[pg0,Array.mem_def,qzr,qXd,qZb]at hv';rcases hv' with rfl|rfl|rfl|rfl|rfl|rfl|rfl|rfl|rfl|rfl|rfl|rfl|rfl|rfl|rfl|rfl|rfl|rfl|rfl|rfl<;>rfl
   have hu0:Upd (fun _=>False) wr (wr.alloc (.cells PG.toArray 280)):=(uur _ wr).alloc _;have hr3:=zh (zc wr (.cells PG.toArray 280) rfl);have hb3:Below w.heap.size w (wr.alloc (.cells PG.toArray 280)):=hb.trans ((Upd.below hu0).mono hb.size);have hPGe:PG=pgC seq 0 1 0 (padE (partE [] 0)):=by have:=congrArg Array.toList (hPG.trans (AC seq));simpa using this
   have hp4:(padE (partE [] 0)).length=4:=rfl;have hput:=YW (H.o.2.1.below hb3) PG hPGl (pageXs seq 1 [] 0) (yT _ _ _ _) (fun W=>by rw[hPGe];exact EX seq 0 1 0 _ hp4);have hmay:Hid (mayP (pageXs seq 1 [] 0)=true):=uZ (seq:=seq) (E:=[]) (k:=0) H.o.1 oe de de;have hsl3:=hsl.keep hu0 (fun _ _ h=>h);have HPG:=Y3 hPG hPGl hPG1;have hsi0:Hid ((prog.info? 280).map (·.size)=some PG.length):=by show _=_;rw[hPGl];exact wQ
   have H3:=Y3 hput hsl3 hb3;obtain⟨y,hy⟩:=qqe (sectP (pageXs seq 1 [] 0));have hyl:(bkC y).length=64:=by rw[zo,hy];exact xV (yT _ _ _ _)
   have hy64:Hid ((prog.info? 54).map (·.size)=some (bkC y).length):=by show _=_;rw[hyl];exact zP
   have HY:=Y3 hy hyl (zx y);clear hsl hf hb hput hsl3 hb3 hu0 hPG hPGl hPG1 hPGe hp4 hy hyl;simp only[Int.natCast_zero]at*;go_wp2_with (first
    |(refine wL rfl _ _ _ _ rfl seq 0 1 0 oD oD oD oD PG.toArray HPG.o.1 ?_)
    |(refine zl rfl _ _ _ rfl _ _ _ rfl rfl (by rw[HPG.o.2.1];rfl) hsi0.out HPG.o.2.2 ?_)
    |(refine qZg rfl _ _ rfl _ _ rfl _ _ hr3 underlying280 rfl hsi0.out ?_)
    |fail)
   refine H3.o.1.mono ?_;rintro e w4 ⟨hr4,hb4⟩;obtain rfl:e=.returned (.tuple #[.agg (bkC y).toArray,.int .i64 0]):=by
    rcases hr4 with⟨-,h⟩|⟨h,-⟩
    .rw [h,HY.o.1]
    .rw [hmay.out]at h;cases h
   have hA:=zc w4 (.cells (bkC y).toArray 54) rfl;have rA:=zh hA;have hu4:Upd (fun _=>False) (wr.alloc (.cells PG.toArray 280)) w4:=uuo hb4;have hua:Upd (fun _=>False) w4 (w4.alloc (.cells (bkC y).toArray 54)):=(uur _ _).alloc _;have hsl5:=qqh ((H3.o.2.1.keep hu4 (fun _ _ h=>h)).keep hua (fun _ _ h=>h));have H4:=Y2 hu4 hua;clear hr4 hb4 hu4 hua hA hcp hr3;go_wp2_with (first
    |(refine zl rfl _ _ _ rfl _ _ _ rfl rfl (by rw[HY.o.2.1];rfl) hy64.out HY.o.2.2 ?_)
    |(refine qZg rfl _ _ rfl _ _ rfl _ _ rA underlying54 rfl hy64.out ?_)
    |(refine xB rfl 41 54 _ rfl 64 de underlying41 ⟨i0,z,HK.o.1,HK.o.2.1,HK.o.2.2.1,HK.o.2.2.2.1⟩ de (bkC y) rfl HY.o.2.1 ?_)
    |(at_builtin;refine zT rfl _ _ _ rfl i0 z 64 underlying41 HK.o.1 HK.o.2.1 HK.o.2.2.2.1 HK.o.2.2.2.2 HK.o.2.2.1 de rfl hsl5.out (bkC y) oD HY.o.2.1 HY.o.2.2 og oM ?_;intro v' w11 hs11 hu11 hbf)
    |fail)
   replace hu11:Upd (ownS (.slice ao 0 cc)) (w4.alloc (.cells (bkC y).toArray 54)) w11:=hu11;replace hbf:blockFrom (w4.alloc (.cells (bkC y).toArray 54)) (.slice ao 0 cc) v':=hbf;have HZ:=Y3 hs11 hu11 hbf;clear hs11 hu11 hbf rA;go_roundw
   case rel=>
    obtain⟨hs11,hu11,hbf⟩:=HZ.o;have hB4:Below w.heap.size w (w4.alloc (.cells (bkC y).toArray 54)):=zk H3.o.2.2 (H4.o.1.trans H4.o.2) (qXv _) (fun _ h=>h.elim);refine⟨1,oM,by go_num,?_,hbf.ge hB4.size HS.o.2.1,zk hB4 hu11 (qXv _) HS.o.2.1.own⟩;rw[ux,tc];rw[HY.o.1]at hs11;exact hs11
   case measure=>simp[intOf]
  .obtain rfl:k=1:=oM;have HS:=Y3 hsl hf hb;obtain⟨ao,cc,rfl⟩:=hsl.rd.j7;clear hsl hf hb;go_wp2
   go_ret2
   exact⟨_,rfl,HS.o.1,HS.o.2.1,HS.o.2.2⟩
open Go Go.RowKit Go.Shelf Tryz
attribute [local go_sem] qYh
theorem Dv.exact{S:Nat->Prop}{w:World}{b:Nat}{F:List Bk}{O:List (Nat×Bk)}{P:List Int}(h:Dv S w b F O P):∃S0:Nat->Prop,Dv S0 w b F O P/\(∀j,S0 j->S j)/\∀j,S0 j->∃cs t z,w.heap[j]?=some (.cells cs t z):=by
 obtain⟨vf,vo,vp,h,hs⟩:=h;exact⟨dvS b vf vo vp,⟨vf,vo,vp,h,fun _ hj=>hj⟩,hs,fun j hj=>by obtain⟨cs,t,hc⟩:=h.cells j hj;exact⟨cs,t,_,hc⟩⟩
theorem QA(base i:Nat)(B:List Bk):ckO base (i+1) B=ckO base i B++[Yv base B i]:=by simp[ckO,List.range_succ]
theorem Jq(base i:Nat)(B:List Bk):(ckO base i B).length=i:=by simp[ckO]
end
section
def JrAt(w:World)(j:Nat)(d:Nat)(base n seq next:Int):Prop:=
 w.cell? ⟨j,0,none⟩=some (.pointer (some ⟨d,0,none⟩))/\w.cell? ⟨j,1,none⟩=some (.int .i64 base)/\w.cell? ⟨j,2,none⟩=some (.int .i64 n)/\
  w.cell? ⟨j,3,none⟩=some (.int .i64 seq)/\w.cell? ⟨j,4,none⟩=some (.int .i64 next)
theorem zcg(w:World)(j d:Nat)(base n seq next:Int)(h:JrAt w j d base n seq next):
  Calls prog 154 #[.pointer (some ⟨j,0,none⟩)] w fun e w'=>e=.returned (.int .i64 next)/\w=w':=by
 obtain⟨h0,h1,h2,h3,h4⟩:=h;go_enter func154,ntmps154
 go_wp2
 go_ret
 exact⟨rfl,rfl⟩
theorem VI{S:Nat->Prop}{w:World}{b:Nat}{F:List Bk}{O:List (Nat×Bk)}{P:List Int}(h:Dv S w b F O P)(base n:Nat)(h1:1<=n)(h2:n<=1024)(h3:base+n<=F.length)(h4:F.length<=4096):
  Calls prog 103 #[.pointer (some ⟨b,0,none⟩),.int .i64 (base:Int),.int .i64 (n:Int)] w fun e w'=>e=.returned (.int .i64 0)/\w=w':=by
 have q1:decide ((base:Int)<0)=false:=oe;have q2:decide ((n:Int)<1)=false:=by simp;omega
 have q3:decide ((n:Int)>1024)=false:=by simp;omega
 have q3':decide (1024<(n:Int))=false:=by simp;omega
 have q4:decide ((base:Int)>F.length-n)=false:=by simp;omega
 have q4':decide ((F.length:Int)-n<(base:Int))=false:=by simp;omega
 go_enter func103,ntmps103
 go_wp2_with (first
  |(go_at_call 47;refine(wJ h).mono ?_;rintro e w' ⟨rfl,rfl⟩)
  |fail)
 go_ret
 exact⟨rfl,rfl⟩
structure Thing(R:(Nat->Prop)->World->Prop):Prop where
 keep:∀{S T:Nat->Prop} {w w':World},R S w->Upd T w w'->(∀j,S j->¬T j)->R S w'
 out:∀{S S':Nat->Prop} {w:World},R S w->(∀j,j<w.heap.size->S j->S' j)->R S' w
def grow(own:Nat->Nat)(t n n':Nat):Nat->Nat:=fun j=>if n<=j/\j<n' then t else own j
theorem zy{own:Nat->Nat}{t n n' j:Nat}(h:j<n):grow own t n n' j=own j:=if_neg oM
theorem YX{own:Nat->Nat}{t n n' j:Nat}(h:n<=j)(h':j<n'):grow own t n n' j=t:=if_pos ⟨h,h'⟩
structure Did(own own':Nat->Nat)(w w':World):Prop where
 upd:Upd (fun j=>own j≠0/\own j<16) w w'
 old:∀j,j<w.heap.size->own' j=own j
 new:∀j,w.heap.size<=j->own' j<16
 far:∀j,w'.heap.size<=j->own' j=0
section
variable{own own' own2:Nat->Nat}{w w' w2:World}{R:(Nat->Prop)->World->Prop}{t k:Nat}
theorem Did.refl(h:∀j,w.heap.size<=j->own j=0):Did own own w w:=⟨uur _ _,fun _ _=>rfl,fun j hj=>by rw[h j hj];decide,h⟩
theorem Did.trans(h:Did own own' w w')(g:Did own' own2 w' w2):Did own own2 w w2 where
 upd:=h.upd.new g.upd (fun j hj hs=>by rw[<-h.old j hj];exact hs)
 old:=fun j hj=>(g.old j (qXy hj h.upd.size)).trans (h.old j hj)
 new:=fun j hj=>by
  by_cases hl:j<w'.heap.size
  .rw [g.old j hl];exact h.new j hj
  .exact g.new j oM
 far:=g.far
theorem Did.drew(h:Did own own' w w'):Did own own' w w'.drew:=⟨h.upd.drew,h.old,h.new,h.far⟩
theorem Did.setCell(h:Did own own' w w')(p:Addr)(hp:p.block<w.heap.size->own p.block≠0/\own p.block<16)(u:Value):Did own own' w (w'.setCell p u):=
 ⟨h.upd.setCell p hp u,h.old,h.new,fun j hj=>h.far j ow⟩
theorem Did.step(hf:∀j,w.heap.size<=j->own j=0)(ht:t≠0)(h16:t<16)(hu:Upd (fun j=>own j=t\/w.heap.size<=j) w w'):Did own (grow own t w.heap.size w'.heap.size) w w' where
 upd:=hu.mono (fun j hj hs=>by rcases hs with hs|hs;exact hs▸⟨ht,h16⟩;omega)
 old:=fun j hj=>zy hj
 new:=fun j hj=>by
  unfold grow;split
  .exact h16
  .rw [hf j hj];decide
 far:=fun j hj=>by
  have:=hu.size;unfold grow;rw[if_neg oM];exact hf j oM
theorem Thing.other(hR:Thing R)(h:R (fun j=>own j=k) w)(hk:k≠t)(hu:Upd (fun j=>own j=t\/w.heap.size<=j) w w'):R (fun j=>grow own t w.heap.size w'.heap.size j=k) w':=by
 have h1:R (fun j=>own j=k/\j<w.heap.size) w:=hR.out h (fun j hj hs=>⟨hs,hj⟩);have h2:=hR.keep h1 hu (fun j hs ht=>by rcases ht with ht|ht;exact hk (hs.1.symm.trans ht);omega);exact hR.out h2 (fun j hj hs=>by rw[zy hs.2];exact hs.1)
theorem Thing.mine(hR:Thing R)(_hu:w.heap.size<=w'.heap.size)(h:R (fun j=>own j=t\/w.heap.size<=j) w'):R (fun j=>grow own t w.heap.size w'.heap.size j=t) w':=
 hR.out h (fun j hj hs=>by
  by_cases hl:w.heap.size<=j
  .exact YX hl hj
  .rw [zy oM];exact hs.resolve_right hl)
theorem Thing.open(hR:Thing R)(h:R (fun j=>own j=t) w):R (fun j=>own j=t\/w.heap.size<=j) w:=hR.out h (fun _ _ hs=> .inl hs)
theorem Thing.new(hR:Thing R){S:Nat->Prop}(h:R S w)(hu:Upd (fun _=>False) w w'):R S w':=hR.keep h hu (fun _ _ h=>h)
end
structure JnGood(base n cov next:Nat)(W:List (Nat×Bk)):Prop where
 w64:∀p∈W,p.2.length=64
 lt:∀p∈W,p.1<next
 n1:1<=n/\n<=1024
 wl:W.length+cov+1<=next
 room:next<=cov+n+1
 mx:next<=1099511627777
 bs:base<=4096
structure JnAt(w:World)(j:Nat)(vw:Value)(d base n cov next:Nat)(W:List (Nat×Bk)):Prop where
 str:w.heap[j]?=some (.cells #[.pointer (some ⟨d,0,none⟩),.int .i64 base,.int .i64 n,.int .i64 cov,.int .i64 next,vw] 276 (0,0))
 ws:Sl w 289 65 vw W.length (opC W)
 wb:vw.ownBlock≠some j
 good:JnGood base n cov next W
def EY(j:Nat)(vw:Value):Nat->Prop:=fun k=>k=j\/vw.ownBlock=some k
section
variable{w w':World}{j d base n cov next:Nat}{vw:Value}{W:List (Nat×Bk)}
theorem JnAt.keep(h:JnAt w j vw d base n cov next W){S:Nat->Prop}(hu:Upd S w w')(hs:∀k,EY j vw k->¬S k):JnAt w' j vw d base n cov next W:=
 {h with
  str:=(hu.block _ (zf h.str) (hs j (.inl rfl))).trans h.str
  ws:=h.ws.keep hu (fun g hg=>hs g (.inr hg))}
theorem JnAt.new(h:JnAt w j vw d base n cov next W)(hu:Upd (fun _=>False) w w'):JnAt w' j vw d base n cov next W:=h.keep hu (fun _ _ h=>h)
theorem JnAt.slt(h:JnAt w j vw d base n cov next W):∀k,EY j vw k->k<w.heap.size:=by
 rintro k (rfl|hk)
 .exact zf h.str
 .exact h.ws.lt hk
theorem JnAt.c(h:JnAt w j vw d base n cov next W):w.cell? ⟨j,0,none⟩=some (.pointer (some ⟨d,0,none⟩))/\w.cell? ⟨j,1,none⟩=some (.int .i64 base)/\w.cell? ⟨j,2,none⟩=some (.int .i64 n)/\
  w.cell? ⟨j,3,none⟩=some (.int .i64 cov)/\w.cell? ⟨j,4,none⟩=some (.int .i64 next)/\w.cell? ⟨j,5,none⟩=some vw:=by
 refine⟨?_,?_,?_,?_,?_,?_⟩<;>rw[za h.str]<;>rfl
theorem JnAt.fz(h:JnAt w j vw d base n cov next W)(i:Nat):w.frozen? ⟨j,i,none⟩=false:=zg h.str i
structure WtAt(w:World)(vw:Value)(next:Nat)(W:List (Nat×Bk)):Prop where
 ws:Sl w 289 65 vw W.length (opC W)
 w64:∀p∈W,p.2.length=64
 lt:∀p∈W,p.1<next
 wl:W.length+1<=next
 mx:next<=1099511627777
theorem JnAt.wt(h:JnAt w j vw d base n cov next W):WtAt w vw next W:=⟨h.ws,h.good.w64,h.good.lt,by have:=h.good.wl;omega,h.good.mx⟩
theorem WtAt.keep(h:WtAt w vw next W){S:Nat->Prop}(hu:Upd S w w')(hs:∀k,vw.ownBlock=some k->¬S k):WtAt w' vw next W:={h with ws:=h.ws.keep hu hs}
theorem WtAt.new(h:WtAt w vw next W)(hu:Upd (fun _=>False) w w'):WtAt w' vw next W:=h.keep hu (fun _ _ h=>h)
theorem WtAt.range(h:WtAt w vw next W){k:Nat}(hk:k<W.length):∃g off cap,vw=.slice (some ⟨g,off,none⟩) W.length cap/\g<w.heap.size/\W.length<=cap/\w.rangeAt g (off+k*65) (wrC W[k].1 W[k].2):=by
 obtain⟨hl,⟨_,h0⟩|⟨g,off,cap,cur,rfl,hg,hn,hm,hs,hc⟩⟩:=h.ws
 .omega
 .refine ⟨g,off,cap,rfl,zf hg,hn,fun j v hj=>?_⟩;have hj':=(qyp.1 hj).1;rw[wrC_len,h.w64 _ (qyz hk)]at hj';rw[za hg,qXr];exact hc _ _ (by rw[Qh h.w64 hk hj'];exact hj)
theorem JnAt.range(h:JnAt w j vw d base n cov next W){k:Nat}(hk:k<W.length):∃g off cap,vw=.slice (some ⟨g,off,none⟩) W.length cap/\g<w.heap.size/\W.length<=cap/\w.rangeAt g (off+k*65) (wrC W[k].1 W[k].2):=h.wt.range hk
end
def Jn(S:Nat->Prop)(w:World)(j d base n cov next:Nat)(W:List (Nat×Bk)):Prop:=∃vw,JnAt w j vw d base n cov next W/\∀k,EY j vw k->S k
theorem Jn.kU(j d base n cov next:Nat)(W:List (Nat×Bk)):Thing (fun S w=>Jn S w j d base n cov next W)where
 keep:=fun h hu hs=>by
  obtain⟨v,h,hS⟩:=h;exact⟨v,h.keep hu (fun j hj=>hs j (hS j hj)),hS⟩
 out:=fun h hs=>by
  obtain⟨v,h,hS⟩:=h;exact⟨v,h,fun j hj=>hs j (h.slt j hj) (hS j hj)⟩
theorem Jn.good{S:Nat->Prop}{w:World}{j d base n cov next:Nat}{W:List (Nat×Bk)}(h:Jn S w j d base n cov next W):JnGood base n cov next W:=by obtain⟨v,h,-⟩:=h;exact h.good
theorem UT{S:Nat->Prop}{w:World}{j d base n cov next:Nat}{W:List (Nat×Bk)}(h:Jn S w j d base n cov next W):
  Calls prog 154 #[.pointer (some ⟨j,0,none⟩)] w fun e w'=>e=.returned (.int .i64 (next:Int))/\w=w':=by
 obtain⟨v,h,-⟩:=h;obtain⟨c0,c1,c2,c3,c4,c5⟩:=h.c;exact zcg w j d base n cov next ⟨c0,c1,c2,c3,c4⟩
theorem QB{S:Nat->Prop}{T:Nat->Prop}{w:World}{b:Nat}{F:List Bk}{O:List (Nat×Bk)}{P:List Int}(h:Dv T w b F O P)(hn:∀j,w.heap.size<=j->S j)(base n seq:Nat)(h1:1<=n)(h2:n<=1024)(h3:base+n<=F.length)(h5:seq<1099511627776):
  Calls prog 131 #[.pointer (some ⟨b,0,none⟩),.int .i64 (base:Int),.int .i64 (n:Int),.int .i64 (seq:Int)] w fun e w'=>∃j,e=.returned (.tuple #[.pointer (some ⟨j,0,none⟩),.int .i64 0])/\
   Jn S w' j b base n seq (seq+1) []/\w.heap.size<=j/\Below w.heap.size w w':=by
 have h4:=h.good.fl;have q1:decide ((seq:Int)<0)=false:=oe;have q2:decide ((seq:Int)>=1099511627776)=false:=by simp;omega
 have hs:¬(1099511627776<=(seq:Int)):=oM;go_enter func131,ntmps131
 go_wp2_with (first
  |(go_at_call 103;refine(VI h base n h1 h2 h3 h4).mono ?_;rintro e w' ⟨rfl,rfl⟩)
  |fail)
 go_ret2
 have hb:=zc w (.cells #[.pointer (some ⟨b,0,none⟩),.int .i64 (base:Int),.int .i64 (n:Int),.int .i64 (seq:Int),.int .i64 ((seq:Int)+1),.slice none 0 0] 276) rfl;refine⟨w.heap.size,rfl,⟨.slice none 0 0,⟨?_,Sl.nil _ _ _,by simp[Value.ownBlock],⟨oe,oe,⟨h1,h2⟩,oe,oM,oM,oM⟩⟩,?_⟩,qXv _,(qxl _ w).alloc (qXv _) _⟩
 .rw [hb];simp
 .rintro k (rfl|hk)
  .exact hn _ (qXv _)
  .cases hk
theorem AD:(prog.info? 289).map (·.size)=some 65:=kR
theorem vV(s:Int)(x:Bk)(hx:x.length=64):(prog.info? 289).map (·.size)=some (wrC s x).length:=by
 rw[AD,wrC_len,hx]
theorem qh:Tryz.zeroCells289.size=65:=kR
theorem EZ(w:World)(q:Nat)(s:Int)(hq:w.cell? ⟨q,0,none⟩=some (.int .i64 s))(x:Nat)(y:Bk)(hx:(x:Int)<=s):
  Calls prog 219 #[.agg (wrC (x:Int) y).toArray,.pointer (some ⟨q,0,none⟩)] w fun e w'=>e=.returned (.bool true)/\Below w.heap.size w w':=by
 have hqb:q<w.heap.size:=(zN hq).2;obtain⟨L,hL⟩:=qqe ((wrC (x:Int) y).toArray);have h0:L[0]?=some (.int .i64 (x:Int)):=by rw[hL];rfl
 have q1:decide ((x:Int)<=s)=true:=by simpa using hx
 have hq1:(w.alloc (.cells L 289)).cell? ⟨q,0,none⟩=some (.int .i64 s):=zm hq _;have hc:(w.alloc (.cells L 289)).cell? ⟨w.heap.size,0,none⟩=some (.int .i64 (x:Int)):=(za (zc w _ rfl) 0).trans h0;rw[<-hL];clear hL hq;go_enter func219,ntmps219
 go_wp2
 go_ret
 exact⟨rfl,(qxl _ _).alloc (qXv _) _⟩
end
end Go.Proofs.YtfhfbpmlnjdfoaaGreatDoor
