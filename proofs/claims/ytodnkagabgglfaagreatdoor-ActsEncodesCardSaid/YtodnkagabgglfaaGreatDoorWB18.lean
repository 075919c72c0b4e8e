/- Parts of the proof: H3, H4, HA, HB, H7, HC, S2, S3, S5, S6, S7. No condition. -/
import Derived.Test.YtodnkagabgglfaaGreatDoorProg
import Derived.Test.YtodnkagabgglfaaGreatDoorWB10
import Derived.KernelRfl
import Derived.Test.YtodnkagabgglfaaGreatDoorWB17
import Derived.Test.YtodnkagabgglfaaGreatDoorWB11
namespace Go.Eng
open Go.Proofs
set_option linter.unusedVariables false
set_option linter.unusedSimpArgs false
set_option maxRecDepth 100000
set_option maxHeartbeats 1000000
def vA (y:List Int):AC:=(tT y,acA y 0,acA y 1,(acS y (zu_ (bd y)),acS y (zN_ (bd y)),acH y,acS y (Kw_ (bd y)),acV y (Qm_ (bd y)),acV y (q9_ (bd y)),()),acD y,())
def alG (acc:List AC) (y:List Int):List AC × Int:=
 if y.length=0 then (acc,0) else if acc.length=64 then ([],520) else if ¬ acE y=0 then ([],acE y) else alG (acc++[vA y]) (y.drop (max 1 (tN y).toNat))
termination_by y.length
decreasing_by all_goals (rw [List.length_drop];omega)
theorem GH_ {acc:List AC} {y:List Int} (h:y.length=0):alG acc y=(acc,0):=by rw [alG,if_pos h]
theorem zc2_ {acc:List AC} {y:List Int} (h:¬ y.length=0) (h1:acc.length=64):alG acc y=([],520):=by rw [alG,if_neg h,if_pos h1]
theorem B4_ {acc:List AC} {y:List Int} (h:¬ y.length=0) (h1:¬ acc.length=64) (h2:¬ acE y=0):alG acc y=([],acE y):=by rw [alG,if_neg h,if_neg h1,if_pos h2]
theorem Bg_ {acc:List AC} {y:List Int} (h:¬ y.length=0) (h1:¬ acc.length=64) (h2:acE y=0) (hn:1<=tN y):alG acc y=alG (acc++[vA y]) (y.drop (tN y).toNat):=by
 rw [alG,if_neg h,if_neg h1,if_neg (not_not_intro h2),show max 1 (tN y).toNat=(tN y).toNat by omega]
theorem zc4_ {b:List Int} (h0:acE b=0):8<=tN b/\tN b<=b.length/\(tN b).tmod 8=0:=by
 have hT:tlE b 8 8 514=0:=Classical.byContradiction fun h=>by
  unfold acE at h0;rw [if_pos h] at h0;exact h h0
 unfold tlE at hT
 by_cases h1:b.length < 4
 ·rw [if_pos h1] at hT;cases hT
 ·rw [if_neg h1] at hT
  by_cases h2:tN b < 8\/¬ (tN b).tmod 8=0
  ·rw [if_pos h2] at hT;cases hT
  ·rw [if_neg h2] at hT
   by_cases h3:(b.length:Int) < tN b
   ·rw [if_pos h3] at hT;cases hT
   ·omega
def adE (b:List Int):Int:=if ¬ (alG [] b).2=0 then (alG [] b).2 else if 65528 < b.length then 514 else 0
def adL (b:List Int):List AC:=if adE b=0 then (alG [] b).1 else []
theorem Bh_ {b:List Int} {e:Int} (h:(alG [] b).2=e) (h0:¬ e=0):adL b=[]/\adE b=e:=by
 have:adE b=e:=by unfold adE;rw [h,if_pos h0]
 exact ⟨by unfold adL;rw [this,if_neg h0],this⟩
theorem VC_ {b:List Int} {acc:List AC} (h:alG [] b=(acc,0)):(65528 < b.length->adL b=[]/\adE b=514)/\(¬ 65528 < b.length->adL b=acc/\adE b=0):=by
 have e:adE b=if 65528 < b.length then 514 else 0:=by unfold adE;rw [h];rfl
 constructor
 ·intro hl
  rw [if_pos hl] at e
  exact ⟨by unfold adL;rw [e];rfl,e⟩
 ·intro hl
  rw [if_neg hl] at e
  exact ⟨by unfold adL;rw [e,h];rfl,e⟩
def Go_:IR:=
(sq (kr [0] [oD 1 (.boxv 0),
oD 2 (.mov (.c (.undef)))])
(sq (.reg [oD 3 (.mkfn 61 [] [1]),
oM 2 3])
.ret))
def gx_:List RD:=[.tmp 2 true none]
theorem gV_:zl_ Tryz.prog Tryz.f39 Go_ gx_=true:=by kernel_rfl
def Wk_:List AV->List Obj->Option (Prop × AV × List Obj)
 | [.imm (.int .u8) b],[]=>some ((True,.fn 61 [] [.ptr 0 0],[.box [.imm (.int .u8) b]]))
 | _,_=>none
theorem VU_:ze_ Tryz.prog 39 (RwF Wk_).sum:=by
 refine qn_ Tryz.func39 gV_ (zd_ _) fun args objs p v o e=>?_
 unfold Wk_ at e
 split at e
 ·rename_i b
  cases e
  refine ⟨rfl,fun hw ho hp=>?_⟩
  change List Int at b
  repeat'(intro t ht;first|(cases t<;>first|(cases ht;done)|(try simp only[zh_]at ht;try(exfalso;first|contradiction|omega)))|((first|refine za_ ht ?_|refine ht ?_ ?_|refine ht.1 ?_ ?_|refine ht ?_)<;>clear ht))
  all_goals first
   | exact True.intro
   | exact ⟨rfl,rfl⟩
 ·cases e
def v5_:IR:=
(sq (kr [0] [oD 2 (.box [.nils]),
oD 3 (.box [.int .i64 0])])
(sq (.reg [oD 4 (.box [.nils])])
(sq (sq (.reg [oM 7 0,
oC 8 39 [7]])
(.block 0
(.rng 8 [9,10] [0,2,3,4] 61
(sq (kr [2,3,4,9,10] [oD 5 (.box [.int .i64 0,.int .u64 0,.int .u64 0,.int .i64 0,.int .i64 0,.kb false,.int .u64 0,.nils,.nils,.nils]),
oS 10 5 9])
(.reg [oM 6 10]))
(.block 1
(sq (sq (kr [2,3,4,5,6] [oM 11 6,
oB 12 .neq 11 (cI 0)])
(.cond 12
(sq (.reg [oM 13 6,
oN (.store 1 2 (.c (.nils))),
oS 1 3 13])
.ret)
.skip))
(.reg [oL 14 4,
oK 15 10 5,
oD 16 (.sliceAll Y2 1 [(0,10,15)]),
oD 17 (.append Y2 128 14 16),
oS 1 4 17])))
(sq (kr [0,1] [oD 3 (.mov (cI 0))])
(.block 0
(.loop
(sq (sq (kr [0,1,3] [oL 7 1,
oE 8 7,
oB 9 .gtr 8 (cI 0)])
(.cond 9
.skip
(.exit 0)))
(sq (.block 1
(sq (sq (.reg [oM 12 3,
oB 13 .eql 12 (cI 64)])
(.cond 13
(sq (.keep [0]
(.yld [oM 14 0,
oD 15 (.build [.int .i64 0,.int .u64 0,.int .u64 0,.int .i64 0,.int .i64 0,.kb false,.int .u64 0,.imm (.int .u8) [],.imm (.int .u8) [],.imm (.int .u8) []] [])] (some 16) (.t 14) [(.t 15),(.c (.int .i64 520))] [] []))
.ret)
.skip))
(sq (kr [0,1,3] [oL 18 1,
oC 19 62 [18],
oM 17 19,
oX 20 17 0,
oX 21 17 1,
oX 22 17 2,
oD 4 (.box [.int .i64 0,.int .u64 0,.int .u64 0,.int .i64 0,.int .i64 0,.kb false,.int .u64 0,.imm (.int .u8) [],.imm (.int .u8) [],.imm (.int .u8) []]),
oS 10 4 20,
oM 5 21,
oM 6 22])
(sq (sq (.keep [0,1,3,4,5,6]
(.yld [oM 23 0,
oK 24 10 4,
oM 25 6] (some 26) (.t 23) [(.t 24),(.t 25)] [0,1,3,5,6] [oD 27 (.un .not 26),
oM 28 27,
oF 28 29 (.mov 6),
oF 28 30 (.bin .neq 29 (cI 0)),
oP 31 28 cT 30]))
(.cond 31
.ret
.skip))
(kr [0,1,3,5] [oL 32 1,
oM 33 5,
oD 34 (.slice 1 32 (some 33) none none),
oS 1 1 34])))))
(kr [0,1,3] [oM 10 3,
oB 11 .add 10 (cI 1),
oM 3 11])))))))))
(sq (sq (kr [0,2,3,4] [oM 18 0,
oE 19 18,
oB 20 .gtr 19 (cI 65528)])
(.cond 20
(sq (.reg [oN (.store 1 2 (.c (.nils))),
oN (.store 1 3 (cI 514))])
.ret)
.skip))
(sq (.reg [oL 21 4,
oS 1 2 21,
oN (.store 1 3 (cI 0))])
.ret)))))
def vu_:List RD:=[.cell 2 none true [(some Y2)],.cell 3 none true []]
theorem vM_:zl_ Tryz.prog Tryz.f21 v5_ vu_=true:=by kernel_rfl
def ju_:List AV->List Obj->Option (Prop × AV)
 | [.imm (.int .u8) b],[]=>some ((b.length<=100000000,.tup [.imm Y2 (adL b),.int .i64 (adE b)]))
 | _,_=>none
theorem Ys_:ze_ Tryz.prog 21 (RoF ju_).sum:=by
 refine zm_ Tryz.func21 vM_ (zb_ (s:=RoF Kd_) x8_ (zb_ (s:=RwF Wk_) VU_ (zd_ _))) fun args objs p v e=>?_
 unfold ju_ at e
 split at e
 ·rename_i b
  cases e
  refine ⟨rfl,fun hw ho hp=>?_⟩
  change List Int at b
  clear hw ho
  repeat'(intro t ht;first|(cases t<;>first|(cases ht;done)|(try simp only[zh_]at ht;try(exfalso;first|contradiction|omega)))|((first|refine za_ ht ?_|refine ht ?_ ?_|refine ht.1 ?_ ?_|refine ht ?_)<;>clear ht))
  all_goals first
   | exact True.intro
   | (refine .inl fun lr ln=>?_)
  repeat'(intro t ht;first|(cases t<;>first|(cases ht;done)|(try simp only[zh_]at ht;try(exfalso;first|contradiction|omega)))|((first|refine za_ ht ?_|refine ht ?_ ?_|refine ht.1 ?_ ?_|refine ht ?_)<;>clear ht))
  all_goals first
   | exact True.intro
   | (intro r h1 h2;clear h1;refine h2 ⟨[0,1,3],Option (List AC × List Int),(fun a=>match a with | none=>True | some a=>a.1.length<=64/\a.2.length<=b.length/\alG [] b=alG a.1 a.2),(fun a=>match a with | none=>[.yv ln,.ptr 0 0,.int .i64 0] | some a=>[.yv ln,.ptr 0 0,.int .i64 a.1.length]),(fun a=>match a with | none=>[.box [.imm (.int .u8) b],.box [.nils],.box [.int .i64 0],.box [.nils],.lrec lr 0] | some a=>[.box [.imm (.int .u8) a.2],.box [.nils],.box [.int .i64 0],.box [.own 5],.lrec lr 0,.row false Y2 a.1]),(fun a=>match a with | none=>b.length+1 | some a=>a.2.length),⟨none,True.intro,rfl,rfl⟩,?_⟩;clear h2)
  rintro (_ | ⟨acc,y⟩) hJ
  ·clear hJ
   repeat'(intro t ht;first|(cases t<;>first|(cases ht;done)|(try simp only[zh_]at ht;try(exfalso;first|contradiction|omega)))|((first|refine za_ ht ?_|refine ht ?_ ?_|refine ht.1 ?_ ?_|refine ht ?_)<;>clear ht))
   all_goals (try dsimp only at*)
   all_goals first
    | exact True.intro
    | ((try simp only [zn_,zo_,zi_] at*);omega)
    | exact ⟨rfl,rfl⟩
    | (have hg:=GH_ (acc:=[]) (y:=b) (by omega)
       rw [((VC_ hg).2 (by omega)).1,((VC_ hg).2 (by omega)).2];exact ⟨rfl,rfl⟩)
    | (simp only [ZF_,List.length_cons,List.length_nil];constructor<;>omega)
    | (have h0:acE b=0:=by assumption
       obtain ⟨g1,g2,_⟩:=zc4_ h0
       have e1:∀ x,acI b x=x:=fun x=>if_pos h0
       first
        | (rw [e1];constructor<;>omega)
        | (have hm:=Bg_ (acc:=[]) (by omega) (by decide) h0 (by omega)
           refine ⟨some ([]++[vA b],b.drop (tN b).toNat),⟨by simp,?_,hm⟩,?_,rfl,?_⟩
           ·dsimp only;rw [List.length_drop];omega
           ·dsimp only;rw [List.length_drop];omega
           ·dsimp only;rw [e1,e1];rfl))
    | (have h0:¬ acE b=0:=by assumption
       have hm:=B4_ (acc:=[]) (by omega) (by decide) h0
       obtain ⟨d1,d2⟩:=Bh_ (b:=b) (e:=acE b) (by rw [hm]) h0
       rw [d1,d2];exact ⟨rfl,rfl⟩)
  ·obtain ⟨j1,j2,j3⟩:=hJ
   dsimp only at j1 j2 j3
   repeat'(intro t ht;first|(cases t<;>first|(cases ht;done)|(try simp only[zh_]at ht;try(exfalso;first|contradiction|omega)))|((first|refine za_ ht ?_|refine ht ?_ ?_|refine ht.1 ?_ ?_|refine ht ?_)<;>clear ht))
   all_goals (try dsimp only at*)
   all_goals first
    | exact True.intro
    | ((try simp only [zn_,zo_,zi_] at*);omega)
    | exact ⟨rfl,rfl⟩
    | (have hg:=GH_ (acc:=acc) (y:=y) (by omega)
       rw [<- j3] at hg
       first
        | (obtain ⟨d1,d2⟩:=(VC_ hg).1 (by omega)
           rw [d1,d2];exact ⟨rfl,rfl⟩)
        | (obtain ⟨d1,d2⟩:=(VC_ hg).2 (by omega)
           rw [d1,d2];exact ⟨rfl,rfl⟩))
    | (simp only [ZF_,List.length_cons,List.length_nil];constructor<;>omega)
    | (have hm:=zc2_ (acc:=acc) (y:=y) (by omega) (by omega)
       rw [<- j3] at hm
       obtain ⟨d1,d2⟩:=Bh_ (b:=b) (e:=520) (by rw [hm]) (by decide)
       rw [d1,d2];exact ⟨rfl,rfl⟩)
    | (have h0:acE y=0:=by assumption
       obtain ⟨g1,g2,_⟩:=zc4_ h0
       have e1:∀ x,acI y x=x:=fun x=>if_pos h0
       first
        | (rw [e1];constructor<;>omega)
        | (have hm:=Bg_ (acc:=acc) (by omega) (by omega) h0 (by omega)
           refine ⟨some (acc++[vA y],y.drop (tN y).toNat),⟨?_,?_,j3.trans hm⟩,?_,?_,?_⟩
           ·simp only [List.length_append,List.length_cons,List.length_nil];omega
           ·dsimp only;rw [List.length_drop];omega
           ·dsimp only;rw [List.length_drop];omega
           ·dsimp only;rw [List.length_append];rfl
           ·dsimp only;rw [e1,e1];rfl))
    | (have h0:¬ acE y=0:=by assumption
       have hm:=B4_ (acc:=acc) (y:=y) (by omega) (by omega) h0
       rw [<- j3] at hm
       obtain ⟨d1,d2⟩:=Bh_ (b:=b) (e:=acE y) (by rw [hm]) h0
       rw [d1,d2];exact ⟨rfl,rfl⟩)
 ·cases e
theorem Wo_ {α:Type} {l:List α} {i:Nat} {d:α} (h:i < l.length):l.take i++[l.getD i d]=l.take (i+1):=by
 rw [List.take_succ_eq_append_getElem h,List.getD_eq_getElem?_getD,List.getElem?_eq_getElem h];rfl
def Kr_ (l:List AC):List Int:=(l.filter fun a=>decide (a.1=0)).map fun a=>a.2.1
def kr_ (x:Int):List Int->List Int
 | []=>[x]
 | y :: r=>if x=y then y :: r else if x < y then x :: y :: r else y :: kr_ x r
def poF (l:List Int):List Int:=l.foldl (fun o x=>kr_ x o) []
theorem Va_ (x z:Int):∀ o:List Int,z ∈ kr_ x o ↔ z=x\/z ∈ o
 | []=>by simp [kr_]
 | y :: r=>by
   unfold kr_
   split
   ·rename_i h;subst h;simp
   ·split
    ·simp
    ·rw [List.mem_cons,Va_ x z r,List.mem_cons]
     constructor
     ·rintro (h | h | h)<;>simp [h]
     ·rintro (h | h | h)<;>simp [h]
def Sst (o:List Int):Prop:=o.Pairwise (· < ·)
theorem Hk_ (x:Int):∀ o:List Int,Sst o->Sst (kr_ x o)
 | [],_=>List.pairwise_singleton ..
 | y :: r,h=>by
   have h':=List.pairwise_cons.1 h
   unfold kr_
   split
   ·exact h
   ·rename_i h1
    split
    ·rename_i h2
     refine List.pairwise_cons.2 ⟨fun z hz=>?_,h⟩
     rcases List.mem_cons.1 hz with rfl | hz
     ·exact h2
     ·have:=h'.1 z hz;omega
    ·rename_i h2
     refine List.pairwise_cons.2 ⟨fun z hz=>?_,Hk_ x r h'.2⟩
     rcases (Va_ x z r).1 hz with rfl | hz
     ·omega
     ·exact h'.1 z hz
theorem gB_:∀ (l o:List Int),Sst o->Sst (l.foldl (fun o x=>kr_ x o) o)/\∀ z,z ∈ l.foldl (fun o x=>kr_ x o) o ↔ z ∈ o\/z ∈ l
 | [],o,h=>⟨h,fun z=>by simp⟩
 | x :: l,o,h=>by
   obtain ⟨i1,i2⟩:=gB_ l (kr_ x o) (Hk_ x o h)
   refine ⟨i1,fun z=>?_⟩
   show z ∈ l.foldl (fun o x=>kr_ x o) (kr_ x o) ↔ _
   rw [i2 z,Va_,List.mem_cons]
   constructor
   ·rintro ((h | h) | h)<;>simp [h]
   ·rintro (h | h | h)<;>simp [h]
theorem Wr_ (l:List Int):Sst (poF l):=(gB_ l [] List.Pairwise.nil).1
theorem YQ_ (l:List Int) (z:Int):z ∈ poF l ↔ z ∈ l:=by
 have:=(gB_ l [] List.Pairwise.nil).2 z
 unfold poF;rw [this];simp
theorem XV_ {o:List Int} (h:Sst o):o.Nodup:=List.Pairwise.imp (fun h=>by omega) h
theorem zeE_ {a b:List Int} (ha:Sst a) (hb:Sst b) (h:∀ z,z ∈ a ↔ z ∈ b):a=b:=by
 have p:a.Perm b:=(List.perm_ext_iff_of_nodup (XV_ ha) (XV_ hb)).2 h
 exact zbC_ (List.Pairwise.imp (fun h=>Int.le_of_lt h) ha) (List.Pairwise.imp (fun h=>Int.le_of_lt h) hb) p
theorem zas_ {a b:List Int} (h:∀ z,z ∈ a ↔ z ∈ b):poF a=poF b:=zeE_ (Wr_ a) (Wr_ b) fun z=>by rw [YQ_,YQ_,h z]
theorem zeG_ {l k:List Int} (hn:l.Nodup) (h:∀ z,z ∈ l ↔ z ∈ k):srt l 0 l.length=poF k:=by
 have e:srt l 0 l.length=l.mergeSort leI:=by
  unfold srt midR
  rw [List.take_zero,List.nil_append,List.drop_zero,List.take_length,List.drop_length,List.append_nil]
 rw [e]
 have p1:(l.mergeSort leI).Perm l:=List.mergeSort_perm l leI
 have p2:l.Perm (poF k):=(List.perm_ext_iff_of_nodup hn (XV_ (Wr_ k))).2 fun z=>by rw [YQ_,h z]
 exact zbC_ (bH_ l) (List.Pairwise.imp (fun h=>Int.le_of_lt h) (Wr_ k)) (p1.trans p2)
def poA (l:List AC):List Int:=poF (Kr_ l)
theorem vD_ {l:List AC} {z:Int}:z ∈ Kr_ l ↔ ∃ a ∈ l,a.1=0/\a.2.1=z:=by
 unfold Kr_
 simp only [List.mem_map,List.mem_filter,decide_eq_true_eq]
 constructor
 ·rintro ⟨a,⟨h1,h2⟩,h3⟩;exact ⟨a,h1,h2,h3⟩
 ·rintro ⟨a,h1,h2,h3⟩;exact ⟨a,⟨h1,h2⟩,h3⟩
theorem zdu_ (l:List AC):poA l.reverse=poA l:=zas_ fun z=>by rw [vD_,vD_];simp
theorem BC_ {l:List AC} {z:Int}:z ∈ poA l ↔ ∃ a ∈ l,a.1=0/\a.2.1=z:=by unfold poA;rw [YQ_,vD_]
theorem gA_:∀ (l o:List Int),(l.foldl (fun o x=>kr_ x o) o).length<=o.length+l.length
 | [],o=>Nat.le_refl _
 | x :: l,o=>by
   have h1:=gA_ l (kr_ x o)
   have h2:∀ o:List Int,(kr_ x o).length<=o.length+1:=by
    intro o
    induction o with
    | nil=>simp [kr_]
    | cons y r ih=>
      unfold kr_
      split
      ·simp
      ·split
       ·simp
       ·simp only [List.length_cons];omega
   have:=h2 o
   show (l.foldl (fun o x=>kr_ x o) (kr_ x o)).length<=_
   rw [List.length_cons];omega
theorem Xf_ (l:List AC):(Kr_ l).length<=l.length:=by unfold Kr_;rw [List.length_map];exact List.length_filter_le ..
theorem zdv_ (l:List AC):(poA l).length<=l.length:=by
 have h1:=gA_ (Kr_ l) []
 have h2:=Xf_ l
 unfold poA poF
 rw [List.length_nil] at h1;omega
theorem Ws_ {l:List AC} {i:Nat} (h:i < l.length) (d:AC):Kr_ (l.take (i+1))=Kr_ (l.take i)++(if (l.getD i d).1=0 then [(l.getD i d).2.1] else []):=by
 unfold Kr_
 rw [<- Wo_ (d:=d) h,List.filter_append,List.map_append]
 congr 1
 by_cases c:(l.getD i d).1=0
 ·rw [if_pos c,List.filter_cons_of_pos (by simpa using c)];rfl
 ·rw [if_neg c,List.filter_cons_of_neg (by simpa using c)];rfl
def atU (x:Int):List Int->Nat
 | []=>0
 | y :: r=>if y < x then atU x r+1 else 0
theorem Bd_ (x:Int):∀ o:List Int,atU x o<=o.length
 | []=>Nat.le_refl _
 | y :: r=>by unfold atU;have:=Bd_ x r;split<;>simp only [List.length_cons]<;>omega
theorem BS_ (x:Int):∀ o:List Int,Sst o->x ∉ o->kr_ x o=o.take (atU x o)++[x]++o.drop (atU x o)
 | [],_,_=>rfl
 | y :: r,h,hx=>by
   have h':=List.pairwise_cons.1 h
   have hxy:¬ x=y:=fun c=>hx (by rw [c];exact List.mem_cons_self ..)
   have hxr:x ∉ r:=fun c=>hx (List.mem_cons_of_mem _ c)
   unfold kr_ atU
   rw [if_neg hxy]
   by_cases c:x < y
   ·rw [if_pos c,if_neg (by omega)];rfl
   ·rw [if_neg c,if_pos (by omega),BS_ x r h'.2 hxr];rfl
theorem BR_ (x:Int):∀ o:List Int,Sst o->x ∈ o->kr_ x o=o
 | [],_,hx=>by cases hx
 | y :: r,h,hx=>by
   have h':=List.pairwise_cons.1 h
   unfold kr_
   by_cases c:x=y
   ·rw [if_pos c]
   ·have hr:x ∈ r:=(List.mem_cons.1 hx).resolve_left c
    have:=h'.1 x hr
    rw [if_neg c,if_neg (by omega),BR_ x r h'.2 hr]
theorem Bc_ (x:Int):∀ (o:List Int) (k:Nat),Sst o->k < o.length->(o.getD k 0 < x ↔ k < atU x o)
 | [],k,_,hk=>by cases hk
 | y :: r,k,h,hk=>by
   have h':=List.pairwise_cons.1 h
   unfold atU
   cases k with
   | zero=>
     show y < x ↔ _
     by_cases c:y < x
     ·rw [if_pos c];exact ⟨fun _=>by omega,fun _=>c⟩
     ·rw [if_neg c];exact ⟨fun d=>absurd d c,fun d=>by omega⟩
   | succ k=>
     have hk':k < r.length:=by rw [List.length_cons] at hk;omega
     have ih:=Bc_ x r k h'.2 hk'
     show r.getD k 0 < x ↔ _
     by_cases c:y < x
     ·rw [if_pos c,ih];omega
     ·rw [if_neg c]
      have hm:r.getD k 0 ∈ r:=zZ_ hk' 0
      have:=h'.1 _ hm
      exact ⟨fun d=>by omega,fun d=>by omega⟩
theorem BL_:∀ (m:List (Int × Int)) (k v:Int),(yl_ m k v).map Prod.fst=if k ∈ m.map Prod.fst then m.map Prod.fst else m.map Prod.fst++[k]
 | [],k,v=>rfl
 | (a,b) :: r,k,v=>by
   unfold yl_
   by_cases c:a=k
   ·subst c
    rw [if_pos rfl,if_pos (by simp)];rfl
   ·rw [if_neg c,List.map_cons,BL_ r k v,List.map_cons]
    by_cases h:k ∈ r.map Prod.fst
    ·rw [if_pos h,if_pos (List.mem_cons_of_mem _ h)]
    ·rw [if_neg h,if_neg (fun d=>(List.mem_cons.1 d).elim (fun e=>c e.symm) h)];rfl
theorem zb6_:∀ (m:List (Int × Int)) (k v z:Int),ZK_ (yl_ m k v) z=if k=z then some v else ZK_ m z
 | [],k,v,z=>by unfold yl_ ZK_;rfl
 | (a,b) :: r,k,v,z=>by
   unfold yl_
   by_cases c:a=k
   ·subst c
    rw [if_pos rfl];unfold ZK_
    by_cases h:a=z
    ·rw [if_pos h,if_pos h]
    ·rw [if_neg h,if_neg h,if_neg h]
   ·rw [if_neg c];unfold ZK_
    rw [zb6_ r k v z]
    by_cases h:a=z
    ·rw [if_pos h,if_pos h,if_neg (fun d=>c (h.trans d.symm))]
    ·rw [if_neg h,if_neg h]
structure kOk (m:List (Int × Int)) (ks:List Int):Prop where
 nd:(m.map Prod.fst).Nodup
 mem:∀ z,z ∈ m.map Prod.fst ↔ z ∈ ks
 r:∀ z,0<=(ZK_ m z).getD 0/\(ZK_ m z).getD 0<=ks.length
 l:m.length<=ks.length
theorem zdK_:kOk [] []:=⟨List.Pairwise.nil,fun z=>Iff.rfl,fun z=>⟨Int.le_refl _,Int.le_refl _⟩,Nat.le_refl _⟩
theorem zdL_ {m:List (Int × Int)} {ks:List Int} {k:Int} (h:kOk m ks):kOk (yl_ m k ((ZK_ m k).getD 0+1)) (ks++[k]):=by
 refine ⟨?_,fun z=>?_,fun z=>?_,?_⟩
 ·rw [BL_]
  split
  ·exact h.nd
  ·rename_i hn
   refine List.nodup_append.2 ⟨h.nd,List.pairwise_singleton ..,fun a ha b hb e=>?_⟩
   rw [List.mem_singleton.1 hb] at e
   exact hn (e ▸ ha)
 ·rw [BL_,List.mem_append,List.mem_singleton,<- h.mem z]
  split
  ·rename_i hk
   exact ⟨fun d=>.inl d,fun d=>d.elim id fun e=>e ▸ hk⟩
  ·rw [List.mem_append,List.mem_singleton]
 ·rw [zb6_,List.length_append,List.length_singleton]
  have h1:=h.r k
  have h2:=h.r z
  split
  ·show 0<=(ZK_ m k).getD 0+1/\(ZK_ m k).getD 0+1<=((ks.length+1:Nat):Int);omega
  ·omega
 ·have e:(yl_ m k ((ZK_ m k).getD 0+1)).length=((yl_ m k ((ZK_ m k).getD 0+1)).map Prod.fst).length:=by rw [List.length_map]
  have hl:=h.l
  rw [e,BL_,List.length_append,List.length_singleton]
  split
  ·rw [List.length_map];omega
  ·rw [List.length_append,List.length_map,List.length_singleton];omega
def kAt (m:List (Int × Int)) (d:Nat):Int:=(m.getD d (0,0)).1
theorem zdM_ (m:List (Int × Int)):(List.range m.length).map (kAt m)=m.map Prod.fst:=by
 refine List.ext_getElem (by simp) fun i h1 h2=>?_
 rw [List.getElem_map,List.getElem_map,List.getElem_range]
 unfold kAt
 rw [List.getD_eq_getElem?_getD,List.getElem?_eq_getElem (by simpa using h2)];rfl
theorem zbr_ {m:List (Int × Int)} {ks:List Int} {seen:List Nat} (h:kOk m ks) (hn:seen.Nodup) (hl:∀ d ∈ seen,d < m.length) (hall:∀ d,d < m.length->d ∈ seen):srt (seen.map (kAt m)) 0 (seen.map (kAt m)).length=poF ks:=by
 have hp:seen.Perm (List.range m.length):=(List.perm_ext_iff_of_nodup hn List.nodup_range).2 fun d=>⟨fun q=>List.mem_range.2 (hl d q),fun q=>hall d (List.mem_range.1 q)⟩
 have hq:(seen.map (kAt m)).Perm (m.map Prod.fst):=by rw [<- zdM_];exact hp.map _
 exact zeG_ (hq.nodup_iff.2 h.nd) fun z=>by rw [hq.mem_iff,h.mem z]
def bysU (a:AC):Prop:=0<=a.2.2.2.1.2.2.2.1/\(0<=a.2.1/\a.2.1<=18446744073709551615)/\(0<=a.2.2.1/\a.2.2.1<=18446744073709551615)
theorem zew_ {a:AC} {rest:List Int} (hr:rgA a=true) (hu:bysU a):acE (ebA a++rest)=0/\vA (ebA a++rest)=a/\tN (ebA a++rest)=(ebA a).length:=by
 obtain ⟨E1,E2,E3,E4,E5,E6,E7,E8,E9,E10,E11,E12⟩:=zfi_ (rest:=rest) (show zH_ (zv_ a.2.2.2.1.1 a.2.2.2.1.2.1 a.2.2.2.1.2.2.1 a.2.2.2.1.2.2.2.1 a.2.2.2.1.2.2.2.2.1 a.2.2.2.1.2.2.2.2.2.1) a.1 a.2.1 a.2.2.1 a.2.2.2.1.1 a.2.2.2.1.2.1 a.2.2.2.1.2.2.1 a.2.2.2.1.2.2.2.1 a.2.2.2.1.2.2.2.2.1 a.2.2.2.1.2.2.2.2.2.1 a.2.2.2.2.1=true from hr) hu.2.1 hu.2.2 hu.1
 have hs:=Y1_ hr
 have e:szA a=4+((ZB_ a.1 a.2.1 a.2.2.1 (Zj_ a.2.2.2.1.1 a.2.2.2.1.2.1 a.2.2.2.1.2.2.1 a.2.2.2.1.2.2.2.1 a.2.2.2.1.2.2.2.2.1 a.2.2.2.1.2.2.2.2.2.1) a.2.2.2.2.1).length:Int):=(jC_ hr).1
 refine ⟨E1,?_,?_⟩
 ·show (tT _,acA _ 0,acA _ 1,(acS _ _,acS _ _,acH _,acS _ _,acV _ _,acV _ _,()),acD _,())=a
  unfold ebA
  rw [E2,E4,E5,E6,E7,E8,E9,E10,E11,E12]
 ·unfold ebA at hs ⊢
  rw [E3];omega
theorem B3_:∀ (r acc:List AC),r.all rgA=true->(∀ a ∈ r,bysU a)->acc.length+r.length<=64->alG acc (boA r)=(acc++r,0)
 | [],acc,_,_,_=>by rw [GH_ (by rfl),List.append_nil]
 | a :: r,acc,h,hu,hl=>by
   rw [List.all_cons,Bool.and_eq_true] at h
   obtain ⟨e1,e2,e3⟩:=zew_ (rest:=boA r) h.1 (hu a (List.mem_cons_self ..))
   have hs:=Y1_ h.1
   rw [List.length_cons] at hl
   have ha:acc++a :: r=(acc++[a])++r:=by rw [List.append_assoc];rfl
   rw [XI_,Bg_ (by rw [List.length_append];omega) (by omega) e1 (by rw [e3];omega),e2,e3,Int.toNat_natCast,List.drop_left]
   rw [B3_ r (acc++[a]) h.2 (fun o ho=>hu o (List.mem_cons_of_mem _ ho)) (by rw [List.length_append,List.length_singleton];omega),<- ha]
theorem zc3_ {l:List AC} (h:rgL l=true) (hu:∀ a ∈ l,bysU a):adL (boA l)=l/\adE (boA l)=0:=by
 obtain ⟨h1,h2,h3,_⟩:=ki_ h
 have hg:=B3_ l [] h1 hu (by simpa using h2)
 rw [List.nil_append] at hg
 exact (VC_ hg).2 (by omega)
def L13:List AC:=[(0,3,1,(0,0,false,0,[],[],()),[],()),(18,0,0,(0,0,false,0,[],[],()),[],()),(0,1,0,(0,0,false,0,[],[],()),[],())]
theorem s13r:rgL L13=true:=by decide+kernel
theorem s13l:(boA L13).length=40:=by decide+kernel
theorem s13d:adL (boA L13)=L13/\adE (boA L13)=0:=zc3_ s13r fun a ha=>by
 rcases List.mem_cons.1 ha with rfl | ha
 ·exact ⟨by decide,by decide,by decide⟩
 ·rcases List.mem_cons.1 ha with rfl | ha
  ·exact ⟨by decide,by decide,by decide⟩
  ·rcases List.mem_singleton.1 ha with rfl
   exact ⟨by decide,by decide,by decide⟩
theorem s13e:alL L13=boA L13/\alE L13=0:=by
 unfold alL alE;rw [s13r];exact ⟨rfl,rfl⟩
theorem s13p:poA L13=[1,3]:=by decide
theorem s13z:szL L13=40:=by rw [(ki_ s13r).2.2.2,s13l];rfl
theorem s13o:okL L13:=(Gu_ (by decide)).1
theorem s13n:adL []=[]/\adE []=0:=by
 have h:=zc3_ (l:=[]) (by decide) (fun a ha=>by cases ha)
 exact h
structure SrX where
 r:List Int
structure SrM where
 r:List Int
 m:Nat
structure SrF where
 r:List Int
 m:Nat
 f:Bool
structure SrI where
 s:Int
structure SrP where
 j:Int
 h:Int
 s:Int
theorem k9_.mono {l:List Int} {a b c:Nat} (h:k9_ l a b) (hc:c<=b):k9_ l a c:=fun i j h1 h2 h3=>h i j h1 h2 (by omega)
def WV_:IR:=
(sq (kr [0] [oD 2 (.mov cF)])
(sq (.reg [oM 3 0,
oM 4 0,
oB 5 .neq 3 4,
oM 2 5])
.ret))
def WQ_:List RD:=[.tmp 2 true none]
theorem WS_:zl_ Tryz.prog Tryz.f123 WV_ WQ_=true:=by kernel_rfl
def Qs_:List AV->List Obj->Option (Prop × AV)
 | [.int .u64 x],[]=>some ((True,.bool false))
 | _,_=>none
theorem wy_:ze_ Tryz.prog 123 (RoF Qs_).sum:=by
 refine zm_ Tryz.func123 WS_ (zd_ _) fun args objs p v e=>?_
 unfold Qs_ at e
 split at e
 ·rename_i x
  cases e
  refine ⟨rfl,fun hw ho hp=>?_⟩
  repeat'(intro t ht;first|(cases t<;>first|(cases ht;done)|(try simp only[zh_]at ht;try(exfalso;first|contradiction|omega)))|((first|refine za_ ht ?_|refine ht ?_ ?_|refine ht.1 ?_ ?_|refine ht ?_)<;>clear ht))
  all_goals first
   | exact True.intro
   | exact ⟨rfl,rfl⟩
   | (refine ⟨congrArg AV.bool ?_,rfl⟩;simp;done)
 ·cases e
def xw_:IR:=
(sq (kr [0,1] [oD 4 (.mov cF)])
(sq (kr [0,1] [oM 5 0,
oC 6 123 [5],
oM 7 6,
oT 7 8 (.mov 1),
oT 7 9 (.call false (.f 123) [8]),
oT 7 10 (.un .not 9),
oP 11 7 10 cF,
oM 12 11,
oF 12 13 (.mov 0),
oF 12 14 (.mov 1),
oF 12 15 (.bin .lss 13 14),
oP 16 12 cT 15,
oM 4 16])
.ret))
def xi_:List RD:=[.tmp 4 true none]
theorem xo_:zl_ Tryz.prog Tryz.f94 xw_ xi_=true:=by kernel_rfl
def zC_:List AV->List Obj->Option (Prop × AV)
 | [.int .u64 x,.int .u64 y],[]=>some ((True,.bool (decide (x < y))))
 | _,_=>none
theorem zM_:ze_ Tryz.prog 94 (RoF zC_).sum:=by
 refine zm_ Tryz.func94 xo_ (zb_ (s:=RoF Qs_) wy_ (zd_ _)) fun args objs p v e=>?_
 unfold zC_ at e
 split at e
 ·rename_i x y
  cases e
  refine ⟨rfl,fun hw ho hp=>?_⟩
  repeat'(intro t ht;first|(cases t<;>first|(cases ht;done)|(try simp only[zh_]at ht;try(exfalso;first|contradiction|omega)))|((first|refine za_ ht ?_|refine ht ?_ ?_|refine ht.1 ?_ ?_|refine ht ?_)<;>clear ht))
  all_goals first
   | exact True.intro
   | exact ⟨rfl,rfl⟩
 ·cases e
def qX_:IR:=
(sq (kr [0,1,2] [oM 8 1,
oB 9 .add 8 (cI 1),
oM 6 9])
(.block 0
(.loop
(sq (sq (kr [0,1,2,6] [oM 10 6,
oM 11 2,
oB 12 .lss 10 11])
(.cond 12
.skip
(.exit 0)))
(sq (.block 1
(sq (.reg [oM 15 6,
oM 7 15])
(.block 2
(.loop
(sq (sq (kd [0,1,2,6,7] [(oM 16 7,[]),
(oM 17 1,[0]),
(oB 18 .gtr 16 17,[]),
(oM 19 18,[]),
(oT 19 20 (.mov 0),[]),
(oT 19 21 (.mov 7),[0]),
(oT 19 22 (.indexSl 1 20 21),[]),
(oT 19 23 (.load none 22),[]),
(oT 19 24 (.mov 0),[0,0,0,0]),
(oT 19 25 (.mov 7),[0,0,0,0,0]),
(oT 19 26 (.bin .sub 25 (cI 1)),[1,0,0,0,0]),
(oT 19 27 (.indexSl 1 24 26),[3,0,0,0]),
(oT 19 28 (.load none 27),[4,0,0,0]),
(oT 19 29 (.call false (.f 94) [23,28]),[]),
(oP 30 19 29 cF,[])])
(.cond 30
.skip
(.exit 2)))
(sq (.block 3
(kd [0,1,2,6,7] [(oM 33 0,[]),
(oM 34 7,[0]),
(oM 35 0,[0,0]),
(oM 36 7,[0,0,0]),
(oB 37 .sub 36 (cI 1),[1,0,0]),
(oM 38 0,[0,0,0,0,0]),
(oM 39 7,[0,0,0,0,0,0]),
(oB 40 .sub 39 (cI 1),[1,0,0,0,0,0]),
(oI 41 1 38 40,[3,0,0,0,0]),
(oL 42 41,[4,0,0,0,0]),
(oM 43 0,[0,0,0,0,0,0,0,0,0,0]),
(oM 44 7,[0,0,0,0,0,0,0,0,0,0,0]),
(oI 45 1 43 44,[2,0,0,0,0,0,0,0,0,0]),
(oL 46 45,[3,0,0,0,0,0,0,0,0,0]),
(oI 47 1 33 34,[9,0,0]),
(oS 1 47 42,[10,0,0]),
(oI 48 1 35 37,[]),
(oS 1 48 46,[])]))
(kr [0,1,2,6,7] [oM 31 7,
oB 32 .sub 31 (cI 1),
oM 7 32])))))))
(kr [0,1,2,6] [oM 13 6,
oB 14 .add 13 (cI 1),
oM 6 14]))))))
def qQ_:List RD:=[]
theorem qS_:zl_ Tryz.prog Tryz.f88 qX_ qQ_=true:=by kernel_rfl
def zO_:List AV->List Obj->Option (Prop × AV × List Obj)
 | [.own 0,.int .i64 a,.int .i64 b],[.row false (.int .u64) l]=>some ((0<=a/\a<=b/\b<=l.length/\l.length<=1000000,.tup [],[.row false (.int .u64) (srt l a.toNat b.toNat)]))
 | _,_=>none
theorem qt_:ze_ Tryz.prog 88 (RwF zO_).sum:=by
 refine qn_ Tryz.func88 qS_ (zb_ (s:=RoF zC_) zM_ (zd_ _)) fun args objs p v o e=>?_
 unfold zO_ at e
 split at e
 ·rename_i a b l
  cases e
  refine ⟨rfl,fun hw ho hp=>?_⟩
  change List Int at l
  clear hw ho
  change List Int at l
  obtain ⟨h1,h2,h3,h4⟩:=hp
  obtain ⟨a,rfl⟩:=Int.eq_ofNat_of_zero_le h1
  obtain ⟨b,rfl⟩:=Int.eq_ofNat_of_zero_le (show 0<=b by omega)
  rw [Int.toNat_natCast,Int.toNat_natCast]
  have hab:a<=b:=by omega
  have hbl:b<=l.length:=by omega
  repeat'(intro t ht;first|(cases t<;>first|(cases ht;done)|(try simp only[zh_]at ht;try(exfalso;first|contradiction|omega)))|((first|refine za_ ht ?_|refine ht ?_ ?_|refine ht.1 ?_ ?_|refine ht ?_)<;>clear ht))
  all_goals first
   | exact True.intro
   | omega
   | ((try simp only [zn_,zo_,zi_] at*);omega)
   | (intro r h1 h2;clear h1;refine h2 ⟨[0,1,2,6],Nat × List Int,(fun s=>a+1<=s.1/\(s.1<=b\/s.1=a+1)/\Rear l a b s.2/\k9_ s.2 a s.1),fun s=>[.own 0,.int .i64 a,.int .i64 b,.int .i64 s.1],fun s=>[.row false (.int .u64) s.2],fun s=>b+1 - s.1,⟨(a+1,l),⟨Nat.le_refl _,.inr rfl,Rear.refl _ _ _,fun p q _ _ _=>by omega⟩,rfl,rfl⟩,?_⟩;clear h2)
  rintro ⟨i,u⟩ ⟨hi1,hi2,hR,hS⟩
  dsimp only at hi1 hi2 hR hS
  have hl:=hR.len
  repeat'(intro t ht;first|(cases t<;>first|(cases ht;done)|(try simp only[zh_]at ht;try(exfalso;first|contradiction|omega)))|((first|refine za_ ht ?_|refine ht ?_ ?_|refine ht.1 ?_ ?_|refine ht ?_)<;>clear ht))
  all_goals first
   | exact True.intro
   | omega
   | ((try simp only [zn_,zo_,zi_] at*);omega)
   | (intro r h1 h2;clear h1;refine h2 ⟨[0,1,2,6,7],Nat × List Int,(fun s=>InsJ l s.2 a b i s.1),fun s=>[.own 0,.int .i64 a,.int .i64 b,.int .i64 i,.int .i64 s.1],fun s=>[.row false (.int .u64) s.2],fun s=>s.1,⟨(i,u),Um_ hR hS (by omega) (by omega),rfl,rfl⟩,?_⟩;clear h2)
   | (have hge:b<=i:=by omega
      have e:=W9_ hab hbl hR (hS.mono hge)
      rw [e];exact ⟨rfl,rfl⟩)
  rintro ⟨j,q⟩ hJ
  dsimp only at hJ
  have hq:=hJ.R.len
  have hj1:=hJ.aj
  have hj2:=hJ.ji
  have hj3:=hJ.ib
  have e0:((j:Int)).toNat=j:=Int.toNat_natCast j
  have e1:((j:Int) - 1).toNat=j - 1:=by omega
  repeat'(intro t ht;first|(cases t<;>first|(cases ht;done)|(try simp only[zh_]at ht;try(exfalso;first|contradiction|omega)))|((first|refine za_ ht ?_|refine ht ?_ ?_|refine ht.1 ?_ ?_|refine ht ?_)<;>clear ht))
  all_goals (try simp only [e0,e1] at*)
  all_goals first
   | exact True.intro
   | omega
   | ((try simp only [zn_,zo_,zi_] at*);omega)
   | (constructor<;>omega)
   | (rw [List.length_set];omega)
   | (refine ⟨(j - 1,_),Hj_ hbl hJ (by omega) (by assumption),?_,?_,?_⟩
      ·dsimp only;omega
      ·rw [show ((j - 1:Nat):Int)=(j:Int) - 1 by omega]
      ·rfl)
   | (have hs:=v9_ hJ (by first | exact .inr (by assumption) | exact .inl (by omega))
      refine ⟨(i+1,q),⟨?_,?_,hJ.R,hs⟩,?_,?_,?_⟩
      ·dsimp only;omega
      ·dsimp only;omega
      ·dsimp only;omega
      ·rfl
      ·rfl)
 ·cases e
theorem hm_1 {u:List Int} {f hi x:Nat} (h:¬ 2*x+2 < hi\/¬ u.getD (f+(2*x+1)) 0 < u.getD (f+(2*x+2)) 0):∀ c,(c=2*x+1\/c=2*x+2)->c < hi->u.getD (f+c) 0<=u.getD (f+(2*x+1)) 0:=fun c hc hlt=>by
 rcases hc with rfl | rfl
 ·exact Int.le_refl _
 ·rcases h with h | h
  ·omega
  ·omega
theorem hm_2 {u:List Int} {f hi x:Nat} (h:u.getD (f+(2*x+1)) 0 < u.getD (f+(2*x+2)) 0):∀ c,(c=2*x+1\/c=2*x+2)->c < hi->u.getD (f+c) 0<=u.getD (f+(2*x+2)) 0:=fun c hc hlt=>by
 rcases hc with rfl | rfl
 ·omega
 ·exact Int.le_refl _
theorem zdO_ {u:List Int} {a i:Nat} (hb:a+i < u.length) (h:Hp u a 0 (i+1)):Hp (swp u a (a+i)) a 1 i:=fun j c h1 h2 h3=>by
 have g:=Kn_ u (i:=a) (j:=a+i) (by omega) hb
 rw [g (a+c),g (a+j),if_neg (by omega),if_neg (by omega),if_neg (by omega),if_neg (by omega)]
 exact h j c (by omega) h2 (by omega)
theorem bl_ {l u:List Int} {a b k:Nat} (hR:Rear l a b u) (hH:Hp u a k (b - a)) (hk:k=0) (hab:a<=b):PopJ l u a b (b - a):=by subst hk;exact zar_ hR hH hab
theorem ze4_ (n:Nat):((n:Int) - 1).tdiv 2=(((n - 1) / 2+1:Nat):Int) - 1:=by
 cases n with
 | zero=>rfl
 | succ m=>rw [Int.tdiv_eq_ediv_of_nonneg (by omega)];omega
def QR_:IR:=
(sq (kr [0,1,2,3] [oM 10 1,
oM 8 10])
(.block 0
(.loop
(.block 1
(sq (kr [0,2,3,8] [oM 11 8,
oB 12 .mul (cI 2) 11,
oB 13 .add 12 (cI 1),
oM 9 13])
(sq (sq (.reg [oM 14 9,
oM 15 2,
oB 16 .geq 14 15])
(.cond 16
(.exit 0)
.skip))
(sq (sq (kd [0,2,3,8,9] [(oM 17 9,[]),
(oB 18 .add 17 (cI 1),[]),
(oM 19 2,[0,0]),
(oB 20 .lss 18 19,[]),
(oM 21 20,[]),
(oT 21 22 (.mov 0),[]),
(oT 21 23 (.mov 3),[0]),
(oT 21 24 (.mov 9),[0,0]),
(oT 21 25 (.bin .add 23 24),[2]),
(oT 21 26 (.indexSl 1 22 25),[]),
(oT 21 27 (.load none 26),[]),
(oT 21 28 (.mov 0),[0,0,0,0,0,0]),
(oT 21 29 (.mov 3),[0,0,0,0,0,0,0]),
(oT 21 30 (.mov 9),[0,0,0,0,0,0,0,0]),
(oT 21 31 (.bin .add 29 30),[2,0,0,0,0,0,0]),
(oT 21 32 (.bin .add 31 (cI 1)),[3,0,0,0,0,0,0]),
(oT 21 33 (.indexSl 1 28 32),[5,0,0,0,0,0]),
(oT 21 34 (.load none 33),[6,0,0,0,0,0]),
(oT 21 35 (.call false (.f 94) [27,34]),[]),
(oP 36 21 35 cF,[])])
(.cond 36
(kr [0,2,3,8,9] [oM 37 9,
oB 38 .add 37 (cI 1),
oM 9 38])
.skip))
(sq (sq (kd [0,2,3,8,9] [(oM 39 0,[]),
(oM 40 3,[0]),
(oM 41 8,[0,0]),
(oB 42 .add 40 41,[2]),
(oI 43 1 39 42,[]),
(oL 44 43,[]),
(oM 45 0,[0,0,0,0,0,0]),
(oM 46 3,[0,0,0,0,0,0,0]),
(oM 47 9,[0,0,0,0,0,0,0,0]),
(oB 48 .add 46 47,[2,0,0,0,0,0,0]),
(oI 49 1 45 48,[4,0,0,0,0,0]),
(oL 50 49,[5,0,0,0,0,0]),
(oC 51 94 [44,50],[]),
(oD 52 (.un .not 51),[])])
(.cond 52
.ret
.skip))
(sq (kd [0,2,3,8,9] [(oM 53 0,[]),
(oM 54 3,[0]),
(oM 55 8,[0,0]),
(oB 56 .add 54 55,[2]),
(oM 57 0,[0,0,0,0]),
(oM 58 3,[0,0,0,0,0]),
(oM 59 9,[0,0,0,0,0,0]),
(oB 60 .add 58 59,[2,0,0,0,0]),
(oM 61 0,[0,0,0,0,0,0,0,0]),
(oM 62 3,[0,0,0,0,0,0,0,0,0]),
(oM 63 9,[0,0,0,0,0,0,0,0,0,0]),
(oB 64 .add 62 63,[2,0,0,0,0,0,0,0,0]),
(oI 65 1 61 64,[4,0,0,0,0,0,0,0]),
(oL 66 65,[5,0,0,0,0,0,0,0]),
(oM 67 0,[0,0,0,0,0,0,0,0,0,0,0,0,0,0]),
(oM 68 3,[0,0,0,0,0,0,0,0,0,0,0,0,0,0,0]),
(oM 69 8,[0,0,0,0,0,0,0,0,0,0,0,0,0,0,0,0]),
(oB 70 .add 68 69,[2,0,0,0,0,0,0,0,0,0,0,0,0,0,0]),
(oI 71 1 67 70,[4,0,0,0,0,0,0,0,0,0,0,0,0,0]),
(oL 72 71,[5,0,0,0,0,0,0,0,0,0,0,0,0,0]),
(oI 73 1 53 56,[12,0,0,0]),
(oS 1 73 66,[13,0,0,0]),
(oI 74 1 57 60,[]),
(oS 1 74 72,[])])
(kr [0,2,3,9] [oM 75 9,
oM 8 75]))))))))))
def QK_:List RD:=[]
theorem QO_:zl_ Tryz.prog Tryz.f118 QR_ QK_=true:=by kernel_rfl
def Zc_:List AV->List Obj->Option NdR
 | [.own 0,.int .i64 lo,.int .i64 hi,.int .i64 f],[.row false (.int .u64) l]=>some (⟨0<=lo/\lo<=hi/\0<=f/\0<=hi/\f+hi<=l.length/\l.length<=1000000/\Hp l f.toNat (lo.toNat+1) hi.toNat,SrX,fun x=>Rear l (f.toNat+lo.toNat) (f.toNat+hi.toNat) x.r/\Hp x.r f.toNat lo.toNat hi.toNat,fun _=>.tup [],fun x=>[.row false (.int .u64) x.r]⟩)
 | _,_=>none
theorem Qy_:jR_ Tryz.prog 118 (NdF Zc_):=by
 refine y6_ Tryz.func118 QO_ (zb_ (s:=RoF zC_) zM_ (zd_ _)) fun args objs r e=>?_
 unfold Zc_ at e
 split at e
 ·rename_i lo hi f l
  cases e
  refine ⟨rfl,fun hw ho hp=>?_⟩
  change List Int at l
  clear hw ho
  change List Int at l
  obtain ⟨g1,g0,g2,g3,g4,g5,g6⟩:=hp
  obtain ⟨lo,rfl⟩:=Int.eq_ofNat_of_zero_le g1
  obtain ⟨f,rfl⟩:=Int.eq_ofNat_of_zero_le g2
  obtain ⟨hi,rfl⟩:=Int.eq_ofNat_of_zero_le g3
  simp only [Int.toNat_natCast] at g6
  have hb:f+hi<=l.length:=by omega
  repeat'(intro t ht;first|(cases t<;>first|(cases ht;done)|(try simp only[zh_]at ht;try(exfalso;first|contradiction|omega)))|((first|refine za_ ht ?_|refine ht ?_ ?_|refine ht.1 ?_ ?_|refine ht ?_)<;>clear ht))
  all_goals first
   | exact True.intro
   | (intro r h1 h2;clear h1;refine h2 ⟨[0,2,3,8],Nat × List Int,(fun s=>SiftJ l s.2 f lo hi s.1/\s.1<=lo+hi),fun s=>[.own 0,.int .i64 hi,.int .i64 f,.int .i64 s.1],fun s=>[.row false (.int .u64) s.2],fun s=>lo+hi+1 - s.1,⟨(lo,l),⟨H4_ g6,by dsimp only;omega⟩,rfl,rfl⟩,?_⟩;clear h2)
  rintro ⟨x,u⟩ ⟨hJ,hx⟩
  dsimp only at hJ hx
  have hl:=hJ.R.len
  have hlx:=hJ.lx
  have e1:((f:Int)+(2*(x:Int)+1)).toNat=f+(2*x+1):=by omega
  have e2:((f:Int)+(2*(x:Int)+1)+1).toNat=f+(2*x+2):=by omega
  have e3:((f:Int)+(2*(x:Int)+1+1)).toNat=f+(2*x+2):=by omega
  have e4:((f:Int)+(x:Int)).toNat=f+x:=by omega
  repeat'(intro t ht;first|(cases t<;>first|(cases ht;done)|(try simp only[zh_]at ht;try(exfalso;first|contradiction|omega)))|((first|refine za_ ht ?_|refine ht ?_ ?_|refine ht.1 ?_ ?_|refine ht ?_)<;>clear ht))
  all_goals (try simp only [e1,e2,e3,e4] at*)
  all_goals first
   | exact True.intro
   | omega
   | (constructor<;>omega)
   | (rw [List.length_set];omega)
   | (rw [List.length_set];constructor<;>omega)
   | (simp only [zi_];omega)
   | (refine ⟨⟨u⟩,⟨hJ.R,zai_ hJ (by omega)⟩,?_,?_⟩<;>first | rfl | exact True.intro)
   | (refine ⟨⟨u⟩,⟨hJ.R,u4_ (c0:=2*x+1) hJ (hm_1 (by first | exact .inl (by omega) | exact .inr (by assumption))) (by assumption)⟩,?_,?_⟩<;>first | rfl | exact True.intro)
   | (refine ⟨⟨u⟩,⟨hJ.R,u4_ (c0:=2*x+2) hJ (hm_2 (by assumption)) (by assumption)⟩,?_,?_⟩<;>first | rfl | exact True.intro)
   | (refine ⟨(2*x+1,swp u (f+x) (f+(2*x+1))),⟨u5_ hb hJ (.inl rfl) (by omega) (hm_1 (by first | exact .inl (by omega) | exact .inr (by assumption))) (by assumption),?_⟩,?_,?_,?_⟩
      ·show 2*x+1<=lo+hi;omega
      ·show lo+hi+1 - (2*x+1) < lo+hi+1 - x;omega
      ·show [AV.own 0,AV.int .i64 hi,AV.int .i64 f,AV.int .i64 (2*(x:Int)+1)]=[AV.own 0,AV.int .i64 hi,AV.int .i64 f,AV.int .i64 ((2*x+1:Nat):Int)]
       rw [show ((2*x+1:Nat):Int)=2*(x:Int)+1 by omega]
      ·rfl)
   | (refine ⟨(2*x+2,swp u (f+x) (f+(2*x+2))),⟨u5_ hb hJ (.inr rfl) (by omega) (hm_2 (by assumption)) (by assumption),?_⟩,?_,?_,?_⟩
      ·show 2*x+2<=lo+hi;omega
      ·show lo+hi+1 - (2*x+2) < lo+hi+1 - x;omega
      ·show [AV.own 0,AV.int .i64 hi,AV.int .i64 f,AV.int .i64 (2*(x:Int)+1+1)]=[AV.own 0,AV.int .i64 hi,AV.int .i64 f,AV.int .i64 ((2*x+2:Nat):Int)]
       rw [show ((2*x+2:Nat):Int)=2*(x:Int)+1+1 by omega]
      ·rfl)
 ·cases e
def QS_:IR:=
(sq (kr [0,1,2] [oM 11 1,
oM 6 11])
(sq (.reg [oD 7 (.mov (cI 0))])
(sq (.reg [oM 12 2,
oM 13 1,
oB 14 .sub 12 13,
oM 8 14])
(sq (sq (kr [0,6,7,8] [oM 15 8,
oB 16 .sub 15 (cI 1),
oB 17 .quo 16 (cI 2),
oM 9 17])
(.block 0
(.loop
(sq (sq (kr [0,6,7,8,9] [oM 18 9,
oB 19 .geq 18 (cI 0)])
(.cond 19
.skip
(.exit 0)))
(sq (.block 1
(kr [0,6,7,8,9] [oM 22 0,
oM 23 9,
oM 24 8,
oM 25 6,
oD 26 (.calln (.f 118) [22,23,24,25])]))
(kr [0,6,7,8,9] [oM 20 9,
oB 21 .sub 20 (cI 1),
oM 9 21]))))))
(sq (kr [0,6,7,8] [oM 27 8,
oB 28 .sub 27 (cI 1),
oM 10 28])
(.block 2
(.loop
(sq (sq (kr [0,6,7,10] [oM 29 10,
oB 30 .geq 29 (cI 0)])
(.cond 30
.skip
(.exit 2)))
(sq (.block 3
(sq (kd [0,6,7,10] [(oM 33 0,[]),
(oM 34 6,[0]),
(oM 35 0,[0,0]),
(oM 36 6,[0,0,0]),
(oM 37 10,[0,0,0,0]),
(oB 38 .add 36 37,[2,0,0]),
(oM 39 0,[0,0,0,0,0,0]),
(oM 40 6,[0,0,0,0,0,0,0]),
(oM 41 10,[0,0,0,0,0,0,0,0]),
(oB 42 .add 40 41,[2,0,0,0,0,0,0]),
(oI 43 1 39 42,[4,0,0,0,0,0]),
(oL 44 43,[5,0,0,0,0,0]),
(oM 45 0,[0,0,0,0,0,0,0,0,0,0,0,0]),
(oM 46 6,[0,0,0,0,0,0,0,0,0,0,0,0,0]),
(oI 47 1 45 46,[2,0,0,0,0,0,0,0,0,0,0,0]),
(oL 48 47,[3,0,0,0,0,0,0,0,0,0,0,0]),
(oI 49 1 33 34,[10,0,0,0]),
(oS 1 49 44,[11,0,0,0]),
(oI 50 1 35 38,[]),
(oS 1 50 48,[])])
(kr [0,6,7,10] [oM 51 0,
oM 52 7,
oM 53 10,
oM 54 6,
oD 55 (.calln (.f 118) [51,52,53,54])])))
(kr [0,6,7,10] [oM 31 10,
oB 32 .sub 31 (cI 1),
oM 10 32]))))))))))
def QL_:List RD:=[]
theorem QP_:zl_ Tryz.prog Tryz.f89 QS_ QL_=true:=by kernel_rfl
def Zd_:List AV->List Obj->Option (Prop × AV × List Obj)
 | [.own 0,.int .i64 a,.int .i64 b],[.row false (.int .u64) l]=>some ((0<=a/\a<=b/\b<=l.length/\l.length<=1000000,.tup [],[.row false (.int .u64) (srt l a.toNat b.toNat)]))
 | _,_=>none
theorem Qz_:ze_ Tryz.prog 89 (RwF Zd_).sum:=by
 refine qn_ Tryz.func89 QP_ (zb_ (s:=NdF Zc_) Qy_ (zd_ _)) fun args objs p v o e=>?_
 unfold Zd_ at e
 split at e
 ·rename_i a b l
  cases e
  refine ⟨rfl,fun hw ho hp=>?_⟩
  change List Int at l
  clear hw ho
  change List Int at l
  obtain ⟨g1,g2,g3,g4⟩:=hp
  obtain ⟨a,rfl⟩:=Int.eq_ofNat_of_zero_le g1
  obtain ⟨b,rfl⟩:=Int.eq_ofNat_of_zero_le (show 0<=b by omega)
  rw [Int.toNat_natCast,Int.toNat_natCast]
  have hab:a<=b:=by omega
  have hbl:b<=l.length:=by omega
  have hh:((b:Int) - (a:Int))=((b - a:Nat):Int):=by omega
  have hq9:((b:Int) - (a:Int) - 1).tdiv 2=(((b - a - 1) / 2+1:Nat):Int) - 1:=by rw [hh];exact ze4_ _
  repeat'(intro t ht;first|(cases t<;>first|(cases ht;done)|(try simp only[zh_]at ht;try(exfalso;first|contradiction|omega)))|((first|refine za_ ht ?_|refine ht ?_ ?_|refine ht.1 ?_ ?_|refine ht ?_)<;>clear ht))
  all_goals first
   | exact True.intro
   | decide
   | (simp only [zi_];omega)
   | (intro r h1 h2;clear h1;refine h2 ⟨[0,6,7,8,9],Nat × List Int,(fun s=>s.1<=(b - a - 1) / 2+1/\Rear l a b s.2/\Hp s.2 a s.1 (b - a)),fun s=>[.own 0,.int .i64 a,.int .i64 0,.int .i64 ((b:Int) - (a:Int)),.int .i64 ((s.1:Int) - 1)],fun s=>[.row false (.int .u64) s.2],fun s=>s.1,⟨((b - a - 1) / 2+1,l),⟨Nat.le_refl _,Rear.refl _ _ _,zco_ (Nat.le_refl _)⟩,(by rw [hq9]),rfl⟩,?_⟩;clear h2)
  rintro ⟨k,u⟩ ⟨hk,hR,hH⟩
  dsimp only at hk hR hH
  have hl:=hR.len
  have hb9:((b:Int) - (a:Int)).toNat=b - a:=by omega
  repeat'(intro t ht;first|(cases t<;>first|(cases ht;done)|(try simp only[zh_]at ht;try(exfalso;first|contradiction|omega)))|((first|refine za_ ht ?_|refine ht ?_ ?_|refine ht.1 ?_ ?_|refine ht ?_)<;>clear ht))
  all_goals first
   | exact True.intro
   | (simp only [zi_];omega)
   | (dsimp only;simp only [zi_];omega)
   | (intro r h1 h2;clear h1;refine h2 ⟨[0,6,7,10],Nat × List Int,(fun s=>s.1<=b - a/\PopJ l s.2 a b s.1),fun s=>[.own 0,.int .i64 a,.int .i64 0,.int .i64 ((s.1:Int) - 1)],fun s=>[.row false (.int .u64) s.2],fun s=>s.1,⟨(b - a,u),⟨Nat.le_refl _,bl_ hR hH (by omega) hab⟩,(by rw [hh]),rfl⟩,?_⟩;clear h2)
   | (refine ⟨?_,?_,?_,?_,?_,?_,?_⟩
      all_goals (try dsimp only)
      all_goals first
       | omega
       | (rw [Int.toNat_natCast,hb9,show ((k:Int) - 1).toNat+1=k by omega];exact hH))
   | (obtain ⟨hr1,hr2⟩:=ht
      rw [hb9,show ((k:Int) - 1).toNat=k - 1 by omega] at hr1 hr2
      refine ⟨(k - 1,_),⟨?_,hR.trans (hr1.wide (by omega) (by omega)),hr2⟩,?_,?_,rfl⟩
      ·show k - 1<=(b - a - 1) / 2+1;omega
      ·show k - 1 < k;omega
      ·show [AV.own 0,AV.int .i64 a,AV.int .i64 0,AV.int .i64 ((b:Int) - (a:Int)),AV.int .i64 ((k:Int) - 1 - 1)]=[AV.own 0,AV.int .i64 a,AV.int .i64 0,AV.int .i64 ((b:Int) - (a:Int)),AV.int .i64 (((k - 1:Nat):Int) - 1)]
       rw [show ((k - 1:Nat):Int)=(k:Int) - 1 by omega])
  clear hk hR hH hl ht k u
  rintro ⟨k,u⟩ ⟨hk,hJ⟩
  dsimp only at hk hJ
  have hl:=hJ.R.len
  by_cases hk0:k=0
  ·subst hk0
   repeat'(intro t ht;first|(cases t<;>first|(cases ht;done)|(try simp only[zh_]at ht;try(exfalso;first|contradiction|omega)))|((first|refine za_ ht ?_|refine ht ?_ ?_|refine ht.1 ?_ ?_|refine ht ?_)<;>clear ht))
   all_goals first
    | exact True.intro
    | (have e:=zdt_ hab hbl hJ
       rw [show ((0,u):Nat × List Int).2=srt l a b from e];exact ⟨rfl,rfl⟩)
  ·obtain ⟨i,rfl⟩:∃ i,k=i+1:=⟨k - 1,by omega⟩
   have e1:((a:Int)+(((i+1:Nat):Int) - 1)).toNat=a+i:=by omega
   have e2:(((i+1:Nat):Int) - 1).toNat=i:=by omega
   have e3:((i+1:Nat):Int) - 1=(i:Int):=by omega
   have hlen:(swp u a (a+i)).length=u.length:=UW_ ..
   have hps:=zdO_ (u:=u) (a:=a) (i:=i) (by omega) hJ.h
   repeat'(intro t ht;first|(cases t<;>first|(cases ht;done)|(try simp only[zh_]at ht;try(exfalso;first|contradiction|omega)))|((first|refine za_ ht ?_|refine ht ?_ ?_|refine ht.1 ?_ ?_|refine ht ?_)<;>clear ht))
   all_goals first
    | exact True.intro
    | (simp only [zi_];omega)
    | (dsimp only;simp only [zi_];omega)
    | (dsimp only;omega)
    | (dsimp only;rw [List.length_set];omega)
    | (refine ⟨?_,?_,?_,?_,?_,?_,?_⟩
       all_goals (try dsimp only)
       all_goals (try simp only [List.length_set])
       all_goals first
        | omega
        | (rw [e1,e2];exact hps))
    | (rw [e1,e2] at ht
       obtain ⟨hr1,hr2⟩:=ht
       refine ⟨(i,_),⟨?_,zbF_ hbl (by omega) hJ hr1 hr2⟩,?_,?_,rfl⟩
       ·show i<=b - a;omega
       ·show i < i+1;omega
       ·show [AV.own 0,AV.int .i64 a,AV.int .i64 0,AV.int .i64 (((i+1:Nat):Int) - 1 - 1)]=[AV.own 0,AV.int .i64 a,AV.int .i64 0,AV.int .i64 ((i:Int) - 1)]
        rw [e3])
 ·cases e
theorem mkP {a b j h:Int} {o:List Obj} (h1:a<=j) (h2:j < b):∃ x:SrP,(a<=x.j/\x.j < b)/\AV.tup [.int .i64 j,.int .i64 h]=AV.tup [.int .i64 x.j,.int .i64 x.h]/\o=o:=⟨⟨j,h,0⟩,⟨h1,h2⟩,rfl,rfl⟩
def o2a (l:List Int) (a b:Int):Int:=if l.getD b.toNat 0 < l.getD a.toNat 0 then b else a
def o2b (l:List Int) (a b:Int):Int:=if l.getD b.toNat 0 < l.getD a.toNat 0 then a else b
def o2s (l:List Int) (a b s:Int):Int:=if l.getD b.toNat 0 < l.getD a.toNat 0 then s+1 else s
theorem hL_ (l:List Int) (a b s:Int):(o2a l a b=a\/o2a l a b=b)/\(o2b l a b=a\/o2b l a b=b)/\s<=o2s l a b s/\o2s l a b s<=s+1:=by
 unfold o2a o2b o2s;split
 ·exact ⟨.inr rfl,.inl rfl,by omega,by omega⟩
 ·exact ⟨.inl rfl,.inr rfl,by omega,by omega⟩
def mdF (l:List Int) (a b c:Int):Int:=o2b l (o2a l a b) (o2a l (o2b l a b) c)
def mdS (l:List Int) (a b c s:Int):Int:=o2s l (o2a l a b) (o2a l (o2b l a b) c) (o2s l (o2b l a b) c (o2s l a b s))
theorem hV_ (l:List Int) (a b c s:Int):(mdF l a b c=a\/mdF l a b c=b\/mdF l a b c=c)/\s<=mdS l a b c s/\mdS l a b c s<=s+3:=by
 obtain ⟨p1,p2,p3,p4⟩:=hL_ l a b s
 obtain ⟨q1,q2,q3,q4⟩:=hL_ l (o2b l a b) c (o2s l a b s)
 obtain ⟨r1,r2,r3,r4⟩:=hL_ l (o2a l a b) (o2a l (o2b l a b) c) (o2s l (o2b l a b) c (o2s l a b s))
 unfold mdF mdS
 refine ⟨?_,by omega,by omega⟩
 omega
def kp_:IR:=
(sq (kr [0,1,2,3] [oD 8 (.mov (cI 0)),
oD 9 (.mov (cI 0))])
(sq (sq (kd [0,1,2,3] [(oM 10 0,[]),
(oM 11 2,[0]),
(oI 12 1 10 11,[]),
(oL 13 12,[]),
(oM 14 0,[0,0,0,0]),
(oM 15 1,[0,0,0,0,0]),
(oI 16 1 14 15,[2,0,0,0]),
(oL 17 16,[3,0,0,0]),
(oC 18 94 [13,17],[])])
(.cond 18
(sq (kr [1,2,3] [oM 19 3,
oD 20 (.nilck 19),
oL 21 20,
oB 22 .add 21 (cI 1),
oD 23 (.nilck 19),
oS 1 23 22])
(sq (.reg [oM 24 2,
oM 25 1,
oM 8 24,
oM 9 25])
.ret))
.skip))
(sq (kr [1,2] [oM 26 1,
oM 27 2,
oM 8 26,
oM 9 27])
.ret)))
def kk_:List RD:=[.tmp 8 true none,.tmp 9 true none]
theorem kn_:zl_ Tryz.prog Tryz.f142 kp_ kk_=true:=by kernel_rfl
def Zn_:List AV->List Obj->Option (Prop × AV × List Obj)
 | [.imm (.int .u64) l,.int .i64 a,.int .i64 b,.ptr 0 0],[.box [.int .i64 s]]=>some ((0<=a/\a < l.length/\0<=b/\b < l.length/\0<=s/\s<=1000,.tup [.int .i64 (o2a l a b),.int .i64 (o2b l a b)],[.box [.int .i64 (o2s l a b s)]]))
 | _,_=>none
theorem Q9_:ze_ Tryz.prog 142 (RwF Zn_).sum:=by
 refine qn_ Tryz.func142 kn_ (zb_ (s:=RoF zC_) zM_ (zd_ _)) fun args objs p v o e=>?_
 unfold Zn_ at e
 split at e
 ·rename_i l a b s
  cases e
  refine ⟨rfl,fun hw ho hp=>?_⟩
  change List Int at l
  clear hw ho
  change List Int at l
  obtain ⟨g1,g2,g3,g4,g5,g6⟩:=hp
  repeat'(intro t ht;first|(cases t<;>first|(cases ht;done)|(try simp only[zh_]at ht;try(exfalso;first|contradiction|omega)))|((first|refine za_ ht ?_|refine ht ?_ ?_|refine ht.1 ?_ ?_|refine ht ?_)<;>clear ht))
  all_goals first
   | exact True.intro
   | omega
   | (constructor<;>omega)
   | (simp only [zi_];omega)
   | (unfold o2a o2b o2s;rw [if_pos ht,if_pos ht,if_pos ht];exact ⟨rfl,rfl⟩)
   | (unfold o2a o2b o2s;rw [if_neg ht,if_neg ht,if_neg ht];exact ⟨rfl,rfl⟩)
 ·cases e
def kq_:IR:=
(sq (kr [0,1,2,3,4] [oD 10 (.mov (cI 0))])
(sq (kr [0,1,2,3,4] [oM 12 0,
oM 13 1,
oM 14 2,
oM 15 4,
oC 16 142 [12,13,14,15],
oM 11 16,
oX 17 11 0,
oX 18 11 1,
oM 1 17,
oM 2 18])
(sq (kr [0,1,2,3,4] [oM 20 0,
oM 21 2,
oM 22 3,
oM 23 4,
oC 24 142 [20,21,22,23],
oM 19 24,
oX 25 19 0,
oX 26 19 1,
oM 2 25,
oM 3 26])
(sq (kr [0,1,2,4] [oM 28 0,
oM 29 1,
oM 30 2,
oM 31 4,
oC 32 142 [28,29,30,31],
oM 27 32,
oX 33 27 0,
oX 34 27 1,
oM 1 33,
oM 2 34])
(sq (kr [2] [oM 35 2,
oM 10 35])
.ret)))))
def kl_:List RD:=[.tmp 10 true none]
theorem ko_:zl_ Tryz.prog Tryz.f122 kq_ kl_=true:=by kernel_rfl
def zR_:List AV->List Obj->Option (Prop × AV × List Obj)
 | [.imm (.int .u64) l,.int .i64 a,.int .i64 b,.int .i64 c,.ptr 0 0],[.box [.int .i64 s]]=>some ((0<=a/\a < l.length/\0<=b/\b < l.length/\0<=c/\c < l.length/\0<=s/\s<=100,.int .i64 (mdF l a b c),[.box [.int .i64 (mdS l a b c s)]]))
 | _,_=>none
theorem ZT_:ze_ Tryz.prog 122 (RwF zR_).sum:=by
 refine qn_ Tryz.func122 ko_ (zb_ (s:=RwF Zn_) Q9_ (zd_ _)) fun args objs p v o e=>?_
 unfold zR_ at e
 split at e
 ·rename_i l a b c s
  cases e
  refine ⟨rfl,fun hw ho hp=>?_⟩
  change List Int at l
  clear hw ho
  change List Int at l
  obtain ⟨g1,g2,g3,g4,g5,g6,g7,g8⟩:=hp
  obtain ⟨p1,p2,p3,p4⟩:=hL_ l a b s
  obtain ⟨q1,q2,q3,q4⟩:=hL_ l (o2b l a b) c (o2s l a b s)
  repeat'(intro t ht;first|(cases t<;>first|(cases ht;done)|(try simp only[zh_]at ht;try(exfalso;first|contradiction|omega)))|((first|refine za_ ht ?_|refine ht ?_ ?_|refine ht.1 ?_ ?_|refine ht ?_)<;>clear ht))
  all_goals first
   | exact True.intro
   | (refine ⟨?_,?_,?_,?_,?_,?_⟩<;>omega)
   | exact ⟨rfl,rfl⟩
 ·cases e
def qG_:IR:=
(sq (kr [0,1,2] [oD 6 (.mov (cI 0))])
(sq (kr [0,1,2] [oM 7 0,
oM 8 1,
oB 9 .sub 8 (cI 1),
oM 10 1,
oM 11 1,
oB 12 .add 11 (cI 1),
oM 13 2,
oC 14 122 [7,9,10,12,13],
oM 6 14])
.ret))
def qz_:List RD:=[.tmp 6 true none]
theorem qD_:zl_ Tryz.prog Tryz.f121 qG_ qz_=true:=by kernel_rfl
def zK_:List AV->List Obj->Option (Prop × AV × List Obj)
 | [.imm (.int .u64) l,.int .i64 a,.ptr 0 0],[.box [.int .i64 s]]=>some ((1<=a/\a+1 < l.length/\l.length<=1000000/\0<=s/\s<=100,.int .i64 (mdF l (a - 1) a (a+1)),[.box [.int .i64 (mdS l (a - 1) a (a+1) s)]]))
 | _,_=>none
theorem qs_:ze_ Tryz.prog 121 (RwF zK_).sum:=by
 refine qn_ Tryz.func121 qD_ (zb_ (s:=RwF zR_) ZT_ (zd_ _)) fun args objs p v o e=>?_
 unfold zK_ at e
 split at e
 ·rename_i l a s
  cases e
  refine ⟨rfl,fun hw ho hp=>?_⟩
  change List Int at l
  clear hw ho
  change List Int at l
  obtain ⟨g1,g2,g3,g4,g5⟩:=hp
  repeat'(intro t ht;first|(cases t<;>first|(cases ht;done)|(try simp only[zh_]at ht;try(exfalso;first|contradiction|omega)))|((first|refine za_ ht ?_|refine ht ?_ ?_|refine ht.1 ?_ ?_|refine ht ?_)<;>clear ht))
  all_goals first
   | exact True.intro
   | (simp only [zi_];omega)
   | (refine ⟨?_,?_,?_,?_,?_,?_,?_,?_⟩<;>omega)
   | exact ⟨rfl,rfl⟩
 ·cases e
def Qk_:IR:=
(sq (kr [0,1,2] [oD 6 (.mov (cI 0)),
oD 7 (.mov (cI 0))])
(sq (.reg [oM 13 2,
oM 14 1,
oB 15 .sub 13 14,
oM 8 15])
(sq (.reg [oD 9 (.box [.int .i64 0])])
(sq (kr [0,1,8,9] [oM 16 1,
oM 17 8,
oB 18 .quo 17 (cI 4),
oB 19 .mul 18 (cI 1),
oB 20 .add 16 19,
oM 10 20])
(sq (kr [0,1,8,9,10] [oM 21 1,
oM 22 8,
oB 23 .quo 22 (cI 4),
oB 24 .mul 23 (cI 2),
oB 25 .add 21 24,
oM 11 25])
(sq (kr [0,1,8,9,10,11] [oM 26 1,
oM 27 8,
oB 28 .quo 27 (cI 4),
oB 29 .mul 28 (cI 3),
oB 30 .add 26 29,
oM 12 30])
(sq (sq (.reg [oM 31 8,
oB 32 .geq 31 (cI 8)])
(.cond 32
(sq (sq (kr [0,8,9,10,11,12] [oM 33 8,
oB 34 .geq 33 (cI 50)])
(.cond 34
(sq (.reg [oM 35 0,
oM 36 10,
oC 37 121 [35,36,9],
oM 10 37])
(sq (kr [0,9,10,11,12] [oM 38 0,
oM 39 11,
oC 40 121 [38,39,9],
oM 11 40])
(.reg [oM 41 0,
oM 42 12,
oC 43 121 [41,42,9],
oM 12 43])))
.skip))
(kr [0,9,10,11,12] [oM 44 0,
oM 45 10,
oM 46 11,
oM 47 12,
oC 48 122 [44,45,46,47,9],
oM 11 48]))
.skip))
(sq (kr [9,11] [oL 49 9])
(.block 0
(sq (.reg [oB 52 .eql 49 (cI 0),
oM 51 52])
(.cond 51
(sq (.reg [oM 53 11,
oM 6 53,
oD 7 (.mov (cI 1))])
.ret)
(sq (.reg [oB 55 .eql 49 (cI 12),
oM 54 55])
(.cond 54
(sq (kr [11] [oM 56 11,
oM 6 56,
oD 7 (.mov (cI 2))])
.ret)
(sq (kr [11] [oM 50 11,
oM 6 50,
oD 7 (.mov (cI 0))])
.ret))))))))))))))
def Qg_:List RD:=[.tmp 6 true none,.tmp 7 true none]
theorem Qi_:zl_ Tryz.prog Tryz.f91 Qk_ Qg_=true:=by kernel_rfl
def zX_:List AV->List Obj->Option NdR
 | [.own 0,.int .i64 a,.int .i64 b],[.row false (.int .u64) l]=>some (⟨0<=a/\a+12 < b/\b<=l.length/\l.length<=1000000,SrP,fun x=>a<=x.j/\(x.j:Int) < b,fun x=>.tup [.int .i64 x.j,.int .i64 x.h],fun _=>[.row false (.int .u64) l]⟩)
 | _,_=>none
theorem q4_:jR_ Tryz.prog 91 (NdF zX_):=by
 refine y6_ Tryz.func91 Qi_ (zb_ (s:=RwF zK_) qs_ (zb_ (s:=RwF zR_) ZT_ (zd_ _))) fun args objs r e=>?_
 unfold zX_ at e
 split at e
 ·rename_i a b l
  cases e
  refine ⟨rfl,fun hw ho hp=>?_⟩
  change List Int at l
  clear hw ho
  change List Int at l
  obtain ⟨g1,g2,g3,g4⟩:=hp
  have hq:(b - a).tdiv 4=(b - a) / 4:=Int.tdiv_eq_ediv_of_nonneg (by omega)
  have hq1:4*(b - a).tdiv 4<=b - a/\b - a < 4*(b - a).tdiv 4+4:=by rw [hq];omega
  have M1:=hV_ l (a+(b - a).tdiv 4*1 - 1) (a+(b - a).tdiv 4*1) (a+(b - a).tdiv 4*1+1) 0
  have M2:=hV_ l (a+(b - a).tdiv 4*2 - 1) (a+(b - a).tdiv 4*2) (a+(b - a).tdiv 4*2+1) (mdS l (a+(b - a).tdiv 4*1 - 1) (a+(b - a).tdiv 4*1) (a+(b - a).tdiv 4*1+1) 0)
  have M3:=hV_ l (a+(b - a).tdiv 4*3 - 1) (a+(b - a).tdiv 4*3) (a+(b - a).tdiv 4*3+1) (mdS l (a+(b - a).tdiv 4*2 - 1) (a+(b - a).tdiv 4*2) (a+(b - a).tdiv 4*2+1) (mdS l (a+(b - a).tdiv 4*1 - 1) (a+(b - a).tdiv 4*1) (a+(b - a).tdiv 4*1+1) 0))
  have M4:=hV_ l (a+(b - a).tdiv 4*1) (a+(b - a).tdiv 4*2) (a+(b - a).tdiv 4*3) 0
  have M5:=hV_ l (mdF l (a+(b - a).tdiv 4*1 - 1) (a+(b - a).tdiv 4*1) (a+(b - a).tdiv 4*1+1)) (mdF l (a+(b - a).tdiv 4*2 - 1) (a+(b - a).tdiv 4*2) (a+(b - a).tdiv 4*2+1)) (mdF l (a+(b - a).tdiv 4*3 - 1) (a+(b - a).tdiv 4*3) (a+(b - a).tdiv 4*3+1)) 0
  clear hq
  repeat'(intro t ht;first|(cases t<;>first|(cases ht;done)|(try simp only[zh_]at ht;try(exfalso;first|contradiction|omega)))|((first|refine za_ ht ?_|refine ht ?_ ?_|refine ht.1 ?_ ?_|refine ht ?_)<;>clear ht))
  all_goals (try generalize (b - a).tdiv 4=q at*)
  all_goals first
   | exact True.intro
   | decide
   | omega
   | (simp only [zi_];omega)
   | exact mkP (by omega) (by omega)
 ·cases e
theorem BE_ {l u:List Int} {a b i j:Nat} (J:PartJ l u a b i j) (hij:i<=j) (h:u.getD i 0<=u.getD a 0):PartJ l u a b (i+1) j:=
 ⟨J.R,by have:=J.ai;omega,J.jb,by omega,fun k h1 h2=>by
  by_cases e:k=i
  ·rw [e];exact h
  ·exact J.lt k h1 (by omega),J.ge⟩
theorem BF_ {l u:List Int} {a b i j:Nat} (J:PartJ l u a b i j) (hij:i<=j) (h:u.getD a 0<=u.getD j 0):PartJ l u a b i (j - 1):=
 ⟨J.R,J.ai,by have:=J.jb;omega,by have:=J.ai;omega,J.lt,fun k h1 h2=>by
  by_cases e:k=j
  ·rw [e];exact h
  ·exact J.ge k (by omega) h2⟩
theorem zaw_ {l:List Int} {a b p:Nat} (hb:b<=l.length) (ha:a < b) (hp:a<=p/\p < b):PartJ l (swp l a p) a b (a+1) (b - 1):=
 ⟨Rear.swp (by omega) (by omega) hb,by omega,by omega,by omega,fun k h1 h2=>by omega,fun k h1 h2=>by omega⟩
theorem ze9_ {l u:List Int} {a b i j:Nat} {x:Int} (J:EqlJ l u a b i j x) (hij:i<=j) (h:u.getD i 0<=u.getD a 0):EqlJ l u a b (i+1) j x:=
 ⟨J.R,J.pv,by have:=J.ai;omega,J.jb,by omega,fun k h1 h2=>by
  by_cases e:k=i
  ·rw [e];exact h
  ·exact J.le k h1 (by omega),J.gt⟩
theorem zfa_ {l u:List Int} {a b i j:Nat} {x:Int} (J:EqlJ l u a b i j x) (hij:i<=j) (h:u.getD a 0 < u.getD j 0):EqlJ l u a b i (j - 1) x:=
 ⟨J.R,J.pv,J.ai,by have:=J.jb;omega,by have:=J.ai;omega,J.le,fun k h1 h2=>by
  by_cases e:k=j
  ·rw [e];exact h
  ·exact J.gt k (by omega) h2⟩
theorem zcH_ {l:List Int} {a b p:Nat} (hb:b<=l.length) (ha:a < b) (hp:a<=p/\p < b):EqlJ l (swp l a p) a b (a+1) (b - 1) (l.getD p 0):=
 ⟨Rear.swp (by omega) (by omega) hb,by
  rw [Kn_ l (by omega) (by omega)]
  by_cases e:a=p
  ·rw [if_pos e,e]
  ·rw [if_neg e,if_pos rfl],by omega,by omega,by omega,fun k h1 h2=>by omega,fun k h1 h2=>by omega⟩
def q8_:IR:=
(sq (kr [0,1,2] [oM 8 1,
oM 6 8])
(sq (.reg [oM 9 2,
oB 10 .sub 9 (cI 1),
oM 7 10])
(.block 0
(.loop
(sq (sq (kr [0,6,7] [oM 11 6,
oM 12 7,
oB 13 .lss 11 12])
(.cond 13
.skip
(.exit 0)))
(.block 1
(sq (kd [0,6,7] [(oM 14 0,[]),
(oM 15 6,[0]),
(oM 16 0,[0,0]),
(oM 17 7,[0,0,0]),
(oM 18 0,[0,0,0,0]),
(oM 19 7,[0,0,0,0,0]),
(oI 20 1 18 19,[2,0,0,0]),
(oL 21 20,[3,0,0,0]),
(oM 22 0,[0,0,0,0,0,0,0,0]),
(oM 23 6,[0,0,0,0,0,0,0,0,0]),
(oI 24 1 22 23,[2,0,0,0,0,0,0,0]),
(oL 25 24,[3,0,0,0,0,0,0,0]),
(oI 26 1 14 15,[8,0]),
(oS 1 26 21,[9,0]),
(oI 27 1 16 17,[]),
(oS 1 27 25,[])])
(sq (kr [0,6,7] [oM 28 6,
oB 29 .add 28 (cI 1),
oM 6 29])
(.reg [oM 30 7,
oB 31 .sub 30 (cI 1),
oM 7 31])))))))))
def q5_:List RD:=[]
theorem q6_:zl_ Tryz.prog Tryz.f92 q8_ q5_=true:=by kernel_rfl
def zU_:List AV->List Obj->Option NdR
 | [.own 0,.int .i64 a,.int .i64 b],[.row false (.int .u64) l]=>some (⟨0<=a/\a < b/\b<=l.length/\l.length<=1000000,SrX,fun x=>Rear l a.toNat b.toNat x.r,fun _=>.tup [],fun x=>[.row false (.int .u64) x.r]⟩)
 | _,_=>none
theorem qO_:jR_ Tryz.prog 92 (NdF zU_):=by
 refine y6_ Tryz.func92 q6_ (zd_ _) fun args objs r e=>?_
 unfold zU_ at e
 split at e
 ·rename_i a b l
  cases e
  refine ⟨rfl,fun hw ho hp=>?_⟩
  change List Int at l
  clear hw ho
  change List Int at l
  obtain ⟨g1,g2,g3,g4⟩:=hp
  obtain ⟨a,rfl⟩:=Int.eq_ofNat_of_zero_le g1
  obtain ⟨b,rfl⟩:=Int.eq_ofNat_of_zero_le (show 0<=b by omega)
  have eb:(b:Int) - 1=((b - 1:Nat):Int):=by omega
  repeat'(intro t ht;first|(cases t<;>first|(cases ht;done)|(try simp only[zh_]at ht;try(exfalso;first|contradiction|omega)))|((first|refine za_ ht ?_|refine ht ?_ ?_|refine ht.1 ?_ ?_|refine ht ?_)<;>clear ht))
  all_goals first
   | exact True.intro
   | (simp only [zi_];omega)
   | (intro r h1 h2;clear h1;refine h2 ⟨[0,6,7],Nat × Nat × List Int,(fun s=>a<=s.1/\s.2.1 < b/\Rear l a b s.2.2),fun s=>[.own 0,.int .i64 s.1,.int .i64 s.2.1],fun s=>[.row false (.int .u64) s.2.2],fun s=>s.2.1,⟨(a,b - 1,l),⟨Nat.le_refl _,by dsimp only;omega,Rear.refl _ _ _⟩,(by rw [eb]),rfl⟩,?_⟩;clear h2)
  rintro ⟨i,j,u⟩ ⟨hi,hj,hR⟩
  dsimp only at hi hj hR
  have hl:=hR.len
  repeat'(intro t ht;first|(cases t<;>first|(cases ht;done)|(try simp only[zh_]at ht;try(exfalso;first|contradiction|omega)))|((first|refine za_ ht ?_|refine ht ?_ ?_|refine ht.1 ?_ ?_|refine ht ?_)<;>clear ht))
  all_goals first
   | exact True.intro
   | (dsimp only;omega)
   | (dsimp only;simp only [zi_];omega)
   | (dsimp only;rw [List.length_set];omega)
   | exact ⟨⟨u⟩,hR,rfl,rfl⟩
   | (refine ⟨(i+1,j - 1,swp u i j),⟨?_,?_,hR.trans (Rear.swp (by omega) (by omega) (by omega))⟩,?_,?_,rfl⟩
      ·show a<=i+1;omega
      ·show j - 1 < b;omega
      ·show j - 1 < j;omega
      ·show [AV.own 0,AV.int .i64 ((i:Int)+1),AV.int .i64 ((j:Int) - 1)]=[AV.own 0,AV.int .i64 ((i+1:Nat):Int),AV.int .i64 ((j - 1:Nat):Int)]
       rw [show ((j - 1:Nat):Int)=(j:Int) - 1 by omega];rfl)
 ·cases e
end Go.Eng
