/- Parts of the proof: TP, TQ. No condition. -/
import Derived.Test.YtppgebehmmldfaaGreatDoorProg
import Derived.Test.YtppgebehmmldfaaGreatDoorXF10
import Derived.KernelRfl
import Derived.Test.YtppgebehmmldfaaGreatDoorXF18
namespace Go.Eng
open Go.Proofs
set_option linter.unusedVariables false
set_option linter.unusedSimpArgs false
set_option maxRecDepth 100000
set_option maxHeartbeats 1000000
def rgI (n:Nat):List Int:=(List.range n).map fun (k:Nat)=>(k:Int)
theorem zaP_ {n:Nat} {z:Int}:z ∈ rgI n ↔ 0<=z/\z < n:=by
 unfold rgI
 rw [List.mem_map]
 constructor
 ·rintro ⟨k,hk,rfl⟩;rw [List.mem_range] at hk;omega
 ·rintro ⟨h1,h2⟩;exact ⟨z.toNat,List.mem_range.2 (by omega),by omega⟩
theorem zaO_ (n:Nat):Sst (rgI n):=by
 unfold Sst rgI
 exact List.pairwise_map.2 (List.pairwise_lt_range.imp fun h=>by omega)
def lkP (l:List TV) (z:Int):Bool:=(ZE_ l).contains z && !(Zt_ l).contains z
def lkR (l:List TV) (n:Nat):List Int:=(rgI n).filter (lkP l)
theorem gn_ (l:List TV) (n:Nat):lkR l (n+1)=lkR l n++(if lkP l n=true then [(n:Int)] else []):=by
 unfold lkR rgI;rw [List.range_succ,List.map_append,List.filter_append]
 congr 1
 show List.filter (lkP l) [(n:Int)]=_
 rw [List.filter_cons];rfl
theorem zbl_ {l:List TV} {n:Nat} (h:lkP l n=true):lkR l (n+1)=lkR l n++[(n:Int)]:=by rw [gn_,if_pos h]
theorem zcN_ {l:List TV} {n:Nat} (h:¬ lkP l n=true):lkR l (n+1)=lkR l n:=by rw [gn_,if_neg h,List.append_nil]
theorem zbm_ (l:List TV) (n:Nat):(lkR l n).length<=n:=by
 have h:(rgI n).length=n:=by unfold rgI;rw [List.length_map,List.length_range]
 have:=List.length_filter_le (lkP l) (rgI n)
 unfold lkR;omega
theorem zbn_ {l:List TV} (h:nnL l):lkR l 256=lkF l:=by
 refine zcs_ (List.Pairwise.filter _ (zaO_ 256)) (yR_ _) fun z=>?_
 unfold lkR lkF
 rw [List.mem_filter,zaP_,uq_,uP_]
 unfold lkP
 rw [Bool.and_eq_true,Bool.not_eq_true',List.contains_iff_mem,<- Bool.not_eq_true,List.contains_iff_mem]
 constructor
 ·rintro ⟨⟨h1,h2⟩,h3,h4⟩;exact ⟨h3,h2,h4⟩
 ·rintro ⟨h1,h2,h3⟩
  obtain ⟨x,hx,f,hf,hz⟩:=Xr_ h1
  exact ⟨⟨h.h x hx f hf z hz,h2⟩,h1,h3⟩
theorem Hu_ (a b:List Int) (z:Int):(a++b).contains z=(a.contains z || b.contains z):=by
 rw [Bool.eq_iff_iff,Bool.or_eq_true,List.contains_iff_mem,List.contains_iff_mem,List.contains_iff_mem,List.mem_append]
theorem Ht_ (x z:Int):[x].contains z=decide (x=z):=by
 rw [Bool.eq_iff_iff,List.contains_iff_mem,List.mem_singleton,decide_eq_true_eq];exact eq_comm
theorem zaV_ {l:List TV} {i j k:Nat} {d:TV} {e:FV} (hj:j < (l.getD i d).2.2.2.2.2.2.1.length) (hk:¬ szT ((l.getD i d).2.2.2.2.2.2.1.getD j e).1=1):J5_ l i j k d ((l.getD i d).2.2.2.2.2.2.1.getD j e)=Jo_ l i (j+1) d:=by
 unfold J5_ Jo_
 rw [if_neg hk,Vq_ hj e,if_neg hk,List.append_nil,List.append_nil]
theorem sz1 {t:Int}:szT t=1 ↔ t=2\/t=3:=by
 unfold szT;split
 ·exact ⟨fun _=>by assumption,fun _=>rfl⟩
 ·refine ⟨fun h=>?_,fun h=>absurd h (by assumption)⟩
  repeat' split at h
  all_goals cases h
def u2_:IR:=
(sq (kr [0] [oD 2 (.nilrow (.int .i64))])
(sq (.reg [oD 3 (.nilrow (.int .i64))])
(sq (sq (.reg [oD 4 (.mov (cI 0))])
(.block 0
(.loop
(sq (sq (kr [0,3,4] [oM 11 4,
oB 12 .lss 11 (cI 256)])
(.cond 12
.skip
(.exit 0)))
(sq (.block 1
(sq (.reg [oD 5 (.mov cF),
oD 6 (.mov cF)])
(sq (sq (.reg [oD 7 (.mov (cI 0))])
(.block 2
(.loop
(sq (sq (kr [0,3,4,5,6,7] [oM 15 7,
oM 16 0,
oE 17 16,
oB 18 .lss 15 17])
(.cond 18
.skip
(.exit 2)))
(sq (.block 3
(sq (kr [0,3,4,5,6,7] [oM 21 6,
oM 22 21,
oF 22 23 (.mov 0),
oF 22 24 (.mov 7),
oF 22 25 (.indexSl 7 23 24),
oF 22 26 (.fieldAddr 0 25),
oF 22 27 (.load none 26),
oF 22 28 (.mov 4),
oF 22 29 (.conv .u64 28),
oF 22 30 (.bin .eql 27 29),
oP 31 22 cT 30,
oM 6 31])
(sq (kr [0,3,4,5,6,7] [oD 8 (.mov (cI 0))])
(.block 4
(.loop
(sq (sq (kr [0,3,4,5,6,7,8] [oM 32 8,
oM 33 0,
oM 34 7,
oI 35 7 33 34,
oA 36 6 35,
oL 37 36,
oE 38 37,
oB 39 .lss 32 38])
(.cond 39
.skip
(.exit 4)))
(sq (.block 5
(sq (kr [0,3,4,5,6,7,8] [oM 42 0,
oM 43 7,
oI 44 7 42 43,
oA 45 6 44,
oL 46 45,
oM 47 8,
oI 48 3 46 47,
oK 49 3 48,
oD 9 (.box [.int .i64 0,.imm (.int .u64) [],.imm (.int .u8) []]),
oS 3 9 49])
(sq (kr [0,3,4,5,6,7,8,9] [oD 10 (.mov (cI 0))])
(.block 6
(.loop
(sq (sq (kr [0,3,4,5,6,7,8,9,10] [oM 50 10,
oA 51 1 9,
oL 52 51,
oE 53 52,
oB 54 .lss 50 53,
oM 55 54,
oT 55 56 (.fieldAddr 0 9),
oT 55 57 (.load none 56),
oT 55 58 (.bin .eql 57 (cI 2)),
oT 55 59 (.mov 58),
oF 59 60 (.fieldAddr 0 9),
oF 59 61 (.load none 60),
oF 59 62 (.bin .eql 61 (cI 3)),
oT 55 63 (.pick 59 cT 62),
oP 64 55 63 cF])
(.cond 64
.skip
(.exit 6)))
(sq (.block 7
(kr [0,3,4,5,6,7,8,9,10] [oM 67 5,
oM 68 67,
oF 68 69 (.fieldAddr 1 9),
oF 68 70 (.load none 69),
oF 68 71 (.mov 10),
oF 68 72 (.indexSl 1 70 71),
oF 68 73 (.load none 72),
oF 68 74 (.mov 4),
oF 68 75 (.conv .u64 74),
oF 68 76 (.bin .eql 73 75),
oP 77 68 cT 76,
oM 5 77]))
(kr [0,3,4,5,6,7,8,9,10] [oM 65 10,
oB 66 .add 65 (cI 1),
oM 10 66]))))))))
(kr [0,3,4,5,6,7,8] [oM 40 8,
oB 41 .add 40 (cI 1),
oM 8 41]))))))))
(kr [0,3,4,5,6,7] [oM 19 7,
oB 20 .add 19 (cI 1),
oM 7 20]))))))
(sq (kr [0,3,4,5,6] [oM 78 5,
oM 79 78,
oT 79 80 (.mov 6),
oT 79 81 (.un .not 80),
oP 82 79 81 cF])
(.cond 82
(kr [0,3,4] [oM 83 3,
oM 84 4,
oD 85 (.sliceAll (.int .i64) 1 [(0,1,84)]),
oD 86 (.append (.int .i64) 8 83 85),
oM 3 86])
.skip)))))
(kr [0,3,4] [oM 13 4,
oB 14 .add 13 (cI 1),
oM 4 14]))))))
(sq (kr [3] [oM 87 3,
oM 2 87])
.ret))))
def uh_:List RD:=[.tmp 2 true (some (.int .i64))]
theorem uA_:zo_ Tryz.prog Tryz.f49 u2_ uh_=true:=by kernel_rfl
def wG_:List AV->List Obj->Option (Prop × AV)
 | [.imm ty0 l],[]=>Kf_ ty0 YA l fun l=>some ((okT l,.imm (.int .i64) (lkF l)))
 | _,_=>none
theorem vx_:ze_ Tryz.prog 49 (RoF wG_).sum:=by
 refine zs_ Tryz.func49 uA_ (zd_ _) fun args objs p v e=>?_
 unfold wG_ at e
 split at e
 ·rename_i ty0 l
  obtain rfl:=qS_ e
  replace e:=qT_ e
  cases e
  refine ⟨rfl,fun hw ho hp=>?_⟩
  change List TV at l
  have hnn:=bG_ (hw (.imm YA l) (by simp))
  clear hw ho
  obtain ⟨hok,hn⟩:=hp
  repeat'(intro t ht;first|(cases t<;>first|(cases ht;done)|(try simp only[zg_]at ht;try(exfalso;first|contradiction|omega)))|((first|refine zb_ ht ?_|refine ht ?_ ?_|refine ht.1 ?_ ?_|refine ht ?_)<;>clear ht))
  all_goals first
   | exact True.intro
   | (intro r h1 h2;clear h1;refine h2 ⟨[0,3,4],Nat,(fun n=>n<=256),fun n=>[.imm YA l,.own 0,.int .i64 n],fun n=>[.row false (.int .i64) (lkR l n)],fun n=>256 - n,⟨0,by decide,rfl,rfl⟩,?_⟩;clear h2)
  rintro n hn2
  have hend:256<=n->lkR l n=lkF l:=fun h=>by rw [show n=256 by omega];exact zbn_ hnn
  have hlen:=zbm_ l n
  repeat'(intro t ht;first|(cases t<;>first|(cases ht;done)|(try simp only[zg_]at ht;try(exfalso;first|contradiction|omega)))|((first|refine zb_ ht ?_|refine ht ?_ ?_|refine ht.1 ?_ ?_|refine ht ?_)<;>clear ht))
  all_goals first
   | exact True.intro
   | omega
   | (have e:=hend (by omega)
      refine ⟨?_,rfl⟩
      (try dsimp only)
      rw [e])
   | (intro r h1 h2;clear h1;refine h2 ⟨[0,3,4,5,6,7],Nat,(fun i=>i<=l.length),fun i=>[.imm YA l,.own 0,.int .i64 n,.bool ((ZE_ (l.take i)).contains (n:Int)),.bool ((Zt_ (l.take i)).contains (n:Int)),.int .i64 i],fun i=>[.row false (.int .i64) (lkR l n)],fun i=>l.length - i,⟨0,Nat.zero_le _,rfl,rfl⟩,?_⟩;clear h2)
  have hn3:n < 256:=by omega
  clear hend
  rintro i hi
  have hyes:=fun (h:lkP l n=true)=>zbl_ h
  have hno:=fun (h:¬ lkP l n=true)=>zcN_ h
  have hall:l.length<=i->l.take i=l:=fun h=>List.take_of_length_le h
  have hA:i < l.length->(Zt_ (l.take (i+1))).contains (n:Int)=((Zt_ (l.take i)).contains (n:Int) || decide ((l.getD i (Ty.dflt YA)).1=(n:Int))):=fun h=>by rw [gG_ h (Ty.dflt YA),Hu_,Ht_]
  repeat'(intro t ht;first|(cases t<;>first|(cases ht;done)|(try simp only[zg_]at ht;try(exfalso;first|contradiction|omega)))|((first|refine zb_ ht ?_|refine ht ?_ ?_|refine ht.1 ?_ ?_|refine ht ?_)<;>clear ht))
  all_goals (try rw [hall (by omega)] at*)
  all_goals first
   | exact True.intro
   | omega
   | exact (show IntKind.u64.min<=(n:Int)/\(n:Int)<=IntKind.u64.max from by simp only [zk_];omega)
   | exact (show IntKind.i64.min<=(n:Int)+1/\(n:Int)+1<=IntKind.i64.max from by simp only [zk_];omega)
   | (simp only [List.length_cons,List.length_nil];omega)
   | (have h1:(ZE_ l).contains (n:Int)=true:=by assumption
      have h2:(Zt_ l).contains (n:Int)=false:=by assumption
      have h3:lkP l n=true:=by unfold lkP;rw [h1,h2];rfl
      refine ⟨n+1,hn3,by dsimp only;omega,rfl,?_⟩
      dsimp only;rw [hyes h3];done)
   | (have h3:¬ lkP l n=true:=by
       unfold lkP
       first
        | (have h1:(ZE_ l).contains (n:Int)=false:=by assumption
           rw [h1,Bool.false_and];decide)
        | (have h1:(Zt_ l).contains (n:Int)=true:=by assumption
           rw [h1,Bool.not_true,Bool.and_false];decide)
      refine ⟨n+1,hn3,by dsimp only;omega,rfl,?_⟩
      dsimp only;rw [hno h3];done)
   | (have hf:(Zt_ (l.take i)).contains (n:Int)=false:=by assumption
      (intro r h1 h2;clear h1;refine h2 ⟨[0,3,4,5,6,7,8],Nat,(fun k=>k<=(l.getD i (Ty.dflt YA)).2.2.2.2.2.2.1.length),fun k=>[.imm YA l,.own 0,.int .i64 n,.bool ((Jo_ l i k (Ty.dflt YA)).contains (n:Int)),.bool ((Zt_ (l.take (i+1))).contains (n:Int)),.int .i64 i,.int .i64 k],fun k=>[.row false (.int .i64) (lkR l n)],fun k=>(l.getD i (Ty.dflt YA)).2.2.2.2.2.2.1.length - k,⟨0,Nat.zero_le _,(by show [AV.imm YA l,.own 0,.int .i64 n,.bool ((ZE_ (l.take i)).contains (n:Int)),.bool (decide ((l.getD i (Ty.dflt YA)).1=(n:Int))),.int .i64 i,.int .i64 ((0:Nat):Int)]=[AV.imm YA l,.own 0,.int .i64 n,.bool ((Jo_ l i 0 (Ty.dflt YA)).contains (n:Int)),.bool ((Zt_ (l.take (i+1))).contains (n:Int)),.int .i64 i,.int .i64 ((0:Nat):Int)];rw [hA (by omega),hf,Bool.false_or,up_]),rfl⟩,?_⟩;clear h2))
   | (have hf:(Zt_ (l.take i)).contains (n:Int)=true:=by assumption
      (intro r h1 h2;clear h1;refine h2 ⟨[0,3,4,5,6,7,8],Nat,(fun k=>k<=(l.getD i (Ty.dflt YA)).2.2.2.2.2.2.1.length),fun k=>[.imm YA l,.own 0,.int .i64 n,.bool ((Jo_ l i k (Ty.dflt YA)).contains (n:Int)),.bool ((Zt_ (l.take (i+1))).contains (n:Int)),.int .i64 i,.int .i64 k],fun k=>[.row false (.int .i64) (lkR l n)],fun k=>(l.getD i (Ty.dflt YA)).2.2.2.2.2.2.1.length - k,⟨0,Nat.zero_le _,(by show [AV.imm YA l,.own 0,.int .i64 n,.bool ((ZE_ (l.take i)).contains (n:Int)),.bool true,.int .i64 i,.int .i64 ((0:Nat):Int)]=[AV.imm YA l,.own 0,.int .i64 n,.bool ((Jo_ l i 0 (Ty.dflt YA)).contains (n:Int)),.bool ((Zt_ (l.take (i+1))).contains (n:Int)),.int .i64 i,.int .i64 ((0:Nat):Int)];rw [hA (by omega),hf,Bool.true_or,up_]),rfl⟩,?_⟩;clear h2))
  all_goals have hlt:i < l.length:=by omega
  all_goals have hFok:=hok _ (zn_ hlt (Ty.dflt YA))
  all_goals have hFn:=hFok.n
  all_goals clear hA hyes hno hall
  all_goals rintro k hk
  all_goals have hend3:=fun h=>U0_ (l:=l) (i:=i) (j:=k) (d:=(Ty.dflt YA)) hlt h
  all_goals repeat'(intro t ht;first|(cases t<;>first|(cases ht;done)|(try simp only[zg_]at ht;try(exfalso;first|contradiction|omega)))|((first|refine zb_ ht ?_|refine ht ?_ ?_|refine ht.1 ?_ ?_|refine ht ?_)<;>clear ht))
  all_goals first
   | exact True.intro
   | omega
   | exact (show IntKind.i64.min<=(i:Int)+1/\(i:Int)+1<=IntKind.i64.max from by simp only [zk_];omega)
   | exact (show 0<=(k:Int)/\(k:Int) < ((l.getD i (Ty.dflt YA)).2.2.2.2.2.2.1.length:Nat) from by omega)
   | (refine ⟨i+1,by dsimp only;omega,by dsimp only;omega,?_,rfl⟩
      dsimp only;rw [hend3 (by omega)];rfl)
   | (intro r h1 h2;clear h1;refine h2 ⟨[0,3,4,5,6,7,8,9,10],Nat,(fun j=>j<=((l.getD i (Ty.dflt YA)).2.2.2.2.2.2.1.getD k (Ty.dflt (.cons (.int .i64) (.cons (.sl (.int .u64)) (.cons (.sl (.int .u8)) .nil))))).2.1.length),fun j=>[.imm YA l,.own 0,.int .i64 n,.bool ((J5_ l i k j (Ty.dflt YA) ((l.getD i (Ty.dflt YA)).2.2.2.2.2.2.1.getD k (Ty.dflt (.cons (.int .i64) (.cons (.sl (.int .u64)) (.cons (.sl (.int .u8)) .nil)))))).contains (n:Int)),.bool ((Zt_ (l.take (i+1))).contains (n:Int)),.int .i64 i,.int .i64 k,.ptr 1 0,.int .i64 j],fun j=>[.row false (.int .i64) (lkR l n),.box [.int .i64 ((l.getD i (Ty.dflt YA)).2.2.2.2.2.2.1.getD k (Ty.dflt (.cons (.int .i64) (.cons (.sl (.int .u64)) (.cons (.sl (.int .u8)) .nil))))).1,.imm (.int .u64) ((l.getD i (Ty.dflt YA)).2.2.2.2.2.2.1.getD k (Ty.dflt (.cons (.int .i64) (.cons (.sl (.int .u64)) (.cons (.sl (.int .u8)) .nil))))).2.1,.imm (.int .u8) ((l.getD i (Ty.dflt YA)).2.2.2.2.2.2.1.getD k (Ty.dflt (.cons (.int .i64) (.cons (.sl (.int .u64)) (.cons (.sl (.int .u8)) .nil))))).2.2.1]],fun j=>((l.getD i (Ty.dflt YA)).2.2.2.2.2.2.1.getD k (Ty.dflt (.cons (.int .i64) (.cons (.sl (.int .u64)) (.cons (.sl (.int .u8)) .nil))))).2.1.length - j,⟨0,Nat.zero_le _,(by dsimp only;rw [GF_];rfl),rfl⟩,?_⟩;clear h2)
  all_goals have hkt:k < (l.getD i (Ty.dflt YA)).2.2.2.2.2.2.1.length:=by omega
  all_goals have hGok:=hFok.a _ (zn_ hkt (Ty.dflt (.cons (.int .i64) (.cons (.sl (.int .u64)) (.cons (.sl (.int .u8)) .nil)))))
  all_goals clear hend3
  all_goals rintro j hj
  all_goals have hend4:=fun h=>UZ_ (l:=l) (i:=i) (j:=k) (k:=j) (d:=(Ty.dflt YA)) (e:=(Ty.dflt (.cons (.int .i64) (.cons (.sl (.int .u64)) (.cons (.sl (.int .u8)) .nil))))) hkt h
  all_goals have hend5:=fun h=>zaV_ (l:=l) (i:=i) (j:=k) (k:=j) (d:=(Ty.dflt YA)) (e:=(Ty.dflt (.cons (.int .i64) (.cons (.sl (.int .u64)) (.cons (.sl (.int .u8)) .nil))))) hkt h
  all_goals have hsn:=fun h=>Vk_ (l:=l) (i:=i) (j:=k) (k:=j) (d:=(Ty.dflt YA)) (g:=((l.getD i (Ty.dflt YA)).2.2.2.2.2.2.1.getD k (Ty.dflt (.cons (.int .i64) (.cons (.sl (.int .u64)) (.cons (.sl (.int .u8)) .nil)))))) h
  all_goals have hsz:=sz1 (t:=((l.getD i (Ty.dflt YA)).2.2.2.2.2.2.1.getD k (Ty.dflt (.cons (.int .i64) (.cons (.sl (.int .u64)) (.cons (.sl (.int .u8)) .nil))))).1)
  all_goals repeat'(intro t ht;first|(cases t<;>first|(cases ht;done)|(try simp only[zg_]at ht;try(exfalso;first|contradiction|omega)))|((first|refine zb_ ht ?_|refine ht ?_ ?_|refine ht.1 ?_ ?_|refine ht ?_)<;>clear ht))
  all_goals (try generalize (Ty.dflt YA)=od at*)
  all_goals (try generalize (Ty.dflt (.cons (.int .i64) (.cons (.sl (.int .u64)) (.cons (.sl (.int .u8)) .nil))))=oe at*)
  all_goals first
   | exact True.intro
   | omega
   | exact ⟨by dsimp only;omega,by dsimp only;omega⟩
   | exact (show IntKind.u64.min<=(n:Int)/\(n:Int)<=IntKind.u64.max from by simp only [zk_];omega)
   | exact (show IntKind.i64.min<=(j:Int)+1/\(j:Int)+1<=IntKind.i64.max from by simp only [zk_];omega)
   | exact (show IntKind.i64.min<=(k:Int)+1/\(k:Int)+1<=IntKind.i64.max from by simp only [zk_];omega)
   | (refine ⟨k+1,by dsimp only;omega,by dsimp only;omega,?_,rfl⟩
      dsimp only
      first
       | (rw [<- hend4 (by omega)];rfl)
       | (rw [<- hend5 (fun h=>by have:=hsz.1 h;omega)];rfl))
   | (have h1:=hsn (by omega)
      rw [if_pos (hsz.2 (by omega))] at h1
      refine ⟨j+1,by dsimp only;omega,by dsimp only;omega,?_,rfl⟩
      dsimp only
      rw [h1,Hu_,Ht_]
      first
       | (rw [(by assumption:(J5_ l i k j od ((l.getD i od).2.2.2.2.2.2.1.getD k oe)).contains (n:Int)=false),Bool.false_or];rfl)
       | (rw [(by assumption:(J5_ l i k j od ((l.getD i od).2.2.2.2.2.2.1.getD k oe)).contains (n:Int)=true),Bool.true_or];rfl))
 ·cases e
def u8_:IR:=
(sq (kr [0] [oD 2 (.mov cF)])
(sq (sq (.reg [oD 3 (.mov (cI 0))])
(.block 0
(.loop
(sq (sq (kr [0,3] [oM 6 3,
oM 7 0,
oE 8 7,
oB 9 .lss 6 8])
(.cond 9
.skip
(.exit 0)))
(sq (.block 1
(sq (.reg [oD 4 (.mov (cI 0))])
(.block 2
(.loop
(sq (sq (kr [0,3,4] [oM 12 4,
oM 13 0,
oM 14 3,
oI 15 7 13 14,
oA 16 6 15,
oL 17 16,
oE 18 17,
oB 19 .lss 12 18])
(.cond 19
.skip
(.exit 2)))
(sq (.block 3
(sq (kr [0,3,4] [oM 22 0,
oM 23 3,
oI 24 7 22 23,
oA 25 6 24,
oL 26 25,
oM 27 4,
oI 28 3 26 27,
oA 29 0 28,
oL 30 29,
oM 5 30])
(sq (kr [0,3,4,5] [oM 31 5,
oC 32 30 [31],
oM 33 5,
oC 34 48 [33],
oB 35 .neq 32 34])
(.cond 35
(sq (.reg [oD 2 (.mov cF)])
.ret)
.skip))))
(kr [0,3,4] [oM 20 4,
oB 21 .add 20 (cI 1),
oM 4 21])))))))
(kr [0,3] [oM 10 3,
oB 11 .add 10 (cI 1),
oM 3 11]))))))
(sq (kr [0] [oM 36 0,
oC 37 17 [36],
oM 38 0,
oC 39 49 [38],
oC 40 29 [37,39],
oM 2 40])
.ret)))
def un_:List RD:=[.tmp 2 true none]
theorem uG_:zo_ Tryz.prog Tryz.f26 u8_ un_=true:=by kernel_rfl
def wK_:List AV->List Obj->Option (Prop × AV)
 | [.imm ty0 l],[]=>Kf_ ty0 YA l fun l=>some ((okT l,.bool true))
 | _,_=>none
theorem vB_:ze_ Tryz.prog 26 (RoF wK_).sum:=by
 refine zs_ Tryz.func26 uG_ (za_ (s:=RoF QB_) K0_ (za_ (s:=RoF jZ_) xb_ (za_ (s:=RoF Z0_) Qn_ (za_ (s:=RoF wG_) vx_ (za_ (s:=RoF j1_) xc_ (zd_ _)))))) fun args objs p v e=>?_
 unfold wK_ at e
 split at e
 ·rename_i ty0 l
  obtain rfl:=qS_ e
  replace e:=qT_ e
  cases e
  refine ⟨rfl,fun hw ho hp=>?_⟩
  change List TV at l
  clear hw ho
  have hok0:=hp
  obtain ⟨hok,hn⟩:=hp
  repeat'(intro t ht;first|(cases t<;>first|(cases ht;done)|(try simp only[zg_]at ht;try(exfalso;first|contradiction|omega)))|((first|refine zb_ ht ?_|refine ht ?_ ?_|refine ht.1 ?_ ?_|refine ht ?_)<;>clear ht))
  all_goals first
   | exact True.intro
   | (intro r h1 h2;clear h1;refine h2 ⟨[0,3],Nat,(fun i=>i<=l.length),fun i=>[.imm YA l,.int .i64 i],fun _=>[],fun i=>l.length - i,⟨0,Nat.zero_le _,rfl,rfl⟩,?_⟩;clear h2)
  rintro i hi
  repeat'(intro t ht;first|(cases t<;>first|(cases ht;done)|(try simp only[zg_]at ht;try(exfalso;first|contradiction|omega)))|((first|refine zb_ ht ?_|refine ht ?_ ?_|refine ht.1 ?_ ?_|refine ht ?_)<;>clear ht))
  all_goals first
   | exact True.intro
   | omega
   | exact hok0
   | exact ⟨hok0,True.intro⟩
   | (refine ⟨?_,rfl⟩;rw [decide_eq_true rfl];done)
   | exact ⟨rfl,rfl⟩
   | (intro r h1 h2;clear h1;refine h2 ⟨[0,3,4],Nat,(fun k=>k<=(l.getD i (Ty.dflt YA)).2.2.2.2.2.2.1.length),fun k=>[.imm YA l,.int .i64 i,.int .i64 k],fun _=>[],fun k=>(l.getD i (Ty.dflt YA)).2.2.2.2.2.2.1.length - k,⟨0,Nat.zero_le _,rfl,rfl⟩,?_⟩;clear h2)
  have hlt:i < l.length:=by omega
  have hFn:=(hok _ (zn_ hlt (Ty.dflt YA))).n
  rintro k hk
  repeat'(intro t ht;first|(cases t<;>first|(cases ht;done)|(try simp only[zg_]at ht;try(exfalso;first|contradiction|omega)))|((first|refine zb_ ht ?_|refine ht ?_ ?_|refine ht.1 ?_ ?_|refine ht ?_)<;>clear ht))
  all_goals (try generalize (Ty.dflt YA)=od at*)
  all_goals (try generalize (Ty.dflt (.cons (.int .i64) (.cons (.sl (.int .u64)) (.cons (.sl (.int .u8)) .nil))))=oe at*)
  all_goals first
   | exact True.intro
   | omega
   | contradiction
   | exact (show 0<=(k:Int)/\(k:Int) < ((l.getD i od).2.2.2.2.2.2.1.length:Nat) from by omega)
   | exact (show IntKind.i64.min<=(i:Int)+1/\(i:Int)+1<=IntKind.i64.max from by simp only [zk_];omega)
   | exact (show IntKind.i64.min<=(k:Int)+1/\(k:Int)+1<=IntKind.i64.max from by simp only [zk_];omega)
   | exact ⟨i+1,by dsimp only;omega,by dsimp only;omega,rfl,rfl⟩
   | exact ⟨k+1,by dsimp only;omega,by dsimp only;omega,rfl,rfl⟩
 ·cases e
theorem zc5_ {x l:List Int} {room e:Int} (h:e ≠ 0):Ks_ x l room e=e:=by unfold Ks_;rw [if_neg h]
theorem zcA_ {l:List TV} {more:List Int} (hm:more.length<=100):tpE more 200000 0 l=tbE l/\(tbE l=0->tpB more 200000 0 l=more++tbL l):=by
 have hl:=bH_ l
 have e0:∀ x:Int,zl_ 0 x=x:=fun _=>rfl
 unfold tpE tpB
 rw [e0]
 rcases zcq_ l with h | h
 ·rw [h]
  obtain ⟨b1,b2⟩:=zai_ (x:=tbL l) (l:=more) (room:=200000) (by omega)
  exact ⟨b2,fun _=>b1⟩
 ·rw [h];exact ⟨zc5_ (by decide),fun h=>by cases h⟩
theorem zbG_ (e:Int):Wo_ [] e=e:=by
 unfold Wo_
 split
 ·rename_i h;rw [h];rfl
 ·rfl
theorem zbF_ (x:List Int) (e:Int):xH_ x [] e=if e=0 then x else []:=by
 unfold xH_ wv_;by_cases h:e=0
 ·rw [if_pos h,decide_eq_true h];rfl
 ·rw [if_neg h,decide_eq_false h];rfl
def JB_:IR:=
(sq (kr [0,1] [oD 4 (.mov cF)])
(sq (sq (kr [0,1] [oM 12 0,
oC 13 16 [12],
oD 14 (.un .not 13),
oM 15 14,
oF 15 16 (.mov 1),
oF 15 17 (.len 16),
oF 15 18 (.bin .gtr 17 (cI 100)),
oP 19 15 cT 18])
(.cond 19
(sq (kr [] [oC 20 7 [],
oM 4 20])
.ret)
.skip))
(sq (kr [0,1] [oM 22 0,
oC 23 18 [22],
oM 21 23,
oX 24 21 0,
oX 25 21 1,
oM 5 24,
oM 6 25])
(sq (kr [0,1,5,6] [oM 27 0,
oC 28 19 [27],
oM 26 28,
oX 29 26 0,
oX 30 26 1,
oM 7 29,
oM 8 30])
(sq (kr [0,1,5,6,7,8] [oC 31 20 [(cI 200000)],
oM 9 31])
(sq (.reg [oM 32 9,
oM 33 1,
oC 34 21 [32,33]])
(sq (.reg [oM 35 9,
oM 36 0,
oC 37 22 [35,36]])
(sq (kr [0,1,5,6,7,8,9] [oM 39 9,
oC 40 23 [39],
oM 38 40,
oX 41 38 0,
oX 42 38 1,
oM 10 41,
oM 11 42])
(sq (sq (kr [0,1,5,6,7,8,10,11] [oM 43 0,
oC 44 24 [43],
oM 45 8,
oB 46 .eql 45 (cI 0),
oD 47 (.eqb true 44 46),
oM 48 47,
oF 48 49 (.mov 5),
oF 48 50 (.mov 7),
oF 48 51 (.call false (.f 25) [49,50]),
oF 48 52 (.un .not 51),
oP 53 48 cT 52,
oM 54 53,
oF 54 55 (.mov 6),
oF 54 56 (.mov 8),
oF 54 57 (.bin .neq 55 56),
oP 58 54 cT 57,
oM 59 58,
oF 59 60 (.mov 11),
oF 59 61 (.mov 8),
oF 59 62 (.bin .neq 60 61),
oP 63 59 cT 62,
oM 64 63,
oF 64 65 (.mov 0),
oF 64 66 (.call false (.f 26) [65]),
oF 64 67 (.un .not 66),
oP 68 64 cT 67])
(.cond 68
(sq (kr [] [oD 4 (.mov cF)])
.ret)
.skip))
(sq (kr [1,7,8,10] [oM 69 8,
oB 70 .neq 69 (cI 0),
oM 71 70,
oF 71 72 (.mov 10),
oF 71 73 (.slice0 (.int .u8)),
oF 71 74 (.mov 1),
oF 71 75 (.append (.int .u8) 1 73 74),
oF 71 76 (.mov 7),
oF 71 77 (.append (.int .u8) 1 75 76),
oF 71 78 (.call false (.f 25) [72,77]),
oP 79 71 cT 78,
oM 80 79,
oT 80 81 (.call false (.f 7) []),
oP 82 80 81 cF,
oM 4 82])
.ret))))))))))
def Jc_:List RD:=[.tmp 4 true none]
theorem Jp_:zo_ Tryz.prog Tryz.f5 JB_ Jc_=true:=by kernel_rfl
def qn_:List AV->List Obj->Option (Prop × AV)
 | [.imm ty0 l,.imm (.int .u8) more],[]=>Kf_ ty0 YA l fun l=>some ((True,.bool true))
 | _,_=>none
theorem jq_:ze_ Tryz.prog 5 (RoF qn_).sum:=by
 refine zs_ Tryz.func5 Jp_ (za_ (s:=RoF w5_) X1_ (za_ (s:=RoF j2_) xd_ (za_ (s:=RoF Zu_) ZO_ (za_ (s:=RoF j0_) Yb_ (za_ (s:=RwF qy_) Qp_ (za_ (s:=RwF zz_) zJ_ (za_ (s:=RwF KW_) yp_ (za_ (s:=RwF zY_) Zq_ (za_ (s:=RoF kE_) xf_ (za_ (s:=RoF KH_) Wn_ (za_ (s:=RoF wK_) vB_ (zd_ _)))))))))))) fun args objs p v e=>?_
 unfold qn_ at e
 split at e
 ·rename_i ty0 l more
  obtain rfl:=qS_ e
  replace e:=qT_ e
  cases e
  refine ⟨rfl,fun hw ho hp=>?_⟩
  change List Int at more
  change List TV at l
  clear hw ho
  by_cases hc:xF_ l=true/\more.length<=100
  ·obtain ⟨hf,hm⟩:=hc
   have hf1:¬ xF_ l=false:=by rw [hf];decide
   obtain ⟨⟨hok,hn⟩,hnm⟩:=BV_ hf
   have q3:=bH_ l
   obtain ⟨q4,q5⟩:=zcA_ (l:=l) hm
   have hroom:X2_ 200000=200000:=by decide
   obtain ⟨b1,b2⟩:=zai_ (x:=more) (l:=[]) (room:=200000) (by simp only [List.length_nil];omega)
   rw [List.nil_append] at b1
   have q6:(tpB more 200000 0 l).length<=1000000:=zbK_ (by omega) (by decide)
   repeat'(intro t ht;first|(cases t<;>first|(cases ht;done)|(try simp only[zg_]at ht;try(exfalso;first|contradiction|omega)))|((first|refine zb_ ht ?_|refine ht ?_ ?_|refine ht.1 ?_ ?_|refine ht ?_)<;>clear ht))
   all_goals (try simp only [hroom,b1,b2,q4,zbG_,zbF_] at*)
   all_goals first
    | exact True.intro
    | exact ⟨True.intro,True.intro⟩
    | exact hok
    | exact ⟨hok,hnm⟩
    | exact ⟨rfl,by first | rfl | exact True.intro⟩
    | omega
    | (simp only [List.length_nil];omega)
    | (simp only [List.length_append,List.length_nil];omega)
    | exact ⟨hok,by decide,by decide,by omega⟩
    | contradiction
    | (exfalso;rw [beq_self_eq_true] at ht;cases ht;done)
    | (exfalso;exact ht (by rw [if_pos (by assumption),q5 (by assumption)];rfl))
  ·repeat'(intro t ht;first|(cases t<;>first|(cases ht;done)|(try simp only[zg_]at ht;try(exfalso;first|contradiction|omega)))|((first|refine zb_ ht ?_|refine ht ?_ ?_|refine ht.1 ?_ ?_|refine ht ?_)<;>clear ht))
   all_goals first
    | exact True.intro
    | exact ⟨rfl,rfl⟩
    | exact absurd ⟨by assumption,by omega⟩ hc
    | (exfalso;exact hc ⟨by assumption,by omega⟩)
 ·cases e
end Go.Eng
