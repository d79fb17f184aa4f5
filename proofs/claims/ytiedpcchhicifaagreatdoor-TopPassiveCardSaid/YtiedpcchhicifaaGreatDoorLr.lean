/- Part of the proof. -/
import Derived.Test.YtiedpcchhicifaaGreatDoorLq
set_option linter.unusedSimpArgs false
set_option linter.unusedVariables false
namespace Go.AV
structure Mly where
 inp:Int
 st:Int
 nx:List (List Int)
 ot:List (List Int)
@[reducible] def Mly.av (m:Mly):AV:=.agg [.int .i64 m.inp,.int .i64 m.st,.list (.list (.int .i64)) m.nx,.list (.list (.int .i64)) m.ot]
def cO (m:Mly)(s a:Nat):Prop:=
 (m.nx.getD s []).getD a 0<0∨(m.nx.length:Int)≤(m.nx.getD s []).getD a 0∨(m.ot.getD s []).getD a 0<0∨1048576<(m.ot.getD s []).getD a 0
def gK (m:Mly)(s:Nat):Prop:=¬((m.nx.getD s []).length:Int)=m.inp∨¬((m.ot.getD s []).length:Int)=m.inp
instance (m:Mly)(s a:Nat):Decidable (cO m s a):=by unfold cO;exact inferInstance
instance (m:Mly)(s:Nat):Decidable (gK m s):=by unfold gK;exact inferInstance
def dK (f:Nat→Int):Nat→Int
 |0=>0
 |n+1=>if dK f n≠0 then dK f n else f n
theorem bC {f:Nat→Int}{k n:Nat}(h:∀ i,i<k→f i=0)(hk:k<n)(hf:f k≠0):dK f n=f k:=by
 induction n with
 |zero=>omega
 |succ n ih=>
  have h0:∀ j,j≤k→dK f j=0:=by
   intro j
   induction j with
   |zero=>intro _;rfl
   |succ j ih=>intro hj;simp only[dK,ih ω];simp[h j ω]
  simp only[dK]
  by_cases e:n=k
  ·subst e;simp[h0 n (Nat.le_refl _)]
  ·rw[ih ω];simp[hf]
theorem bH {f:Nat→Int}{n:Nat}(h:∀ i,i<n→f i=0):dK f n=0:=by
 induction n with
 |zero=>rfl
 |succ n ih=>simp only[dK,ih λi hi=>h i ω];simp[h n ω]
theorem jR {f:Nat→Int}{n:Nat}(h:dK f n=0):∀ i,i<n→f i=0:=by
 induction n with
 |zero=>intro i hi;omega
 |succ n ih=>
  simp only[dK] at h
  by_cases e:dK f n=0
  ·simp[e] at h
   intro i hi
   by_cases ei:i=n
   ·rw[ei];exact h
   ·exact ih e i ω
  ·simp[e] at h
def kN (m:Mly)(s:Nat):Int:=if gK m s then 1 else dK (λa=>if cO m s a then 2 else 0) m.inp.toNat
def aK (m:Mly):Int:=
 if m.inp<1∨64<m.inp then 2 else if m.nx.length=0 then 19 else if 128<m.nx.length then 11
 else if m.st<0∨(m.nx.length:Int)≤m.st then 2 else if m.ot.length≠m.nx.length then 1 else dK (kN m) m.nx.length
structure MOK (m:Mly):Prop where
 i1:1≤m.inp
 i2:m.inp≤64
 n1:1≤m.nx.length
 n2:m.nx.length≤128
 s1:0≤m.st
 s2:m.st<m.nx.length
 ol:m.ot.length=m.nx.length
 rl:∀ s,s<m.nx.length→((m.nx.getD s []).length:Int)=m.inp
 ql:∀ s,s<m.nx.length→((m.ot.getD s []).length:Int)=m.inp
 nr:∀ s a:Nat,s<m.nx.length→(a:Int)<m.inp→0≤(m.nx.getD s []).getD a 0∧(m.nx.getD s []).getD a 0<m.nx.length
 or:∀ s a:Nat,s<m.nx.length→(a:Int)<m.inp→0≤(m.ot.getD s []).getD a 0∧(m.ot.getD s []).getD a 0≤1048576
theorem Fh {m:Mly}{s:Nat}(h:kN m s=0):((m.nx.getD s []).length:Int)=m.inp∧((m.ot.getD s []).length:Int)=m.inp∧
 ∀ a:Nat,(a:Int)<m.inp→¬cO m s a:=by
 unfold kN at h;split at h
 ·omega
 ·rename_i hl
  unfold gK at hl;refine⟨ω,ω,λa ha hb=>?_⟩;have:=jR h a ω;simp[hb] at this
theorem Nk {m:Mly}{s:Nat}(h1:((m.nx.getD s []).length:Int)=m.inp)(h2:((m.ot.getD s []).length:Int)=m.inp)(h3:∀ a:Nat,(a:Int)<m.inp→¬cO m s a):kN m s=0:=by
 unfold kN;rw[if_neg (by unfold gK;omega)];exact bH λa ha=>by rw[if_neg (h3 a ω)]
theorem dA {m:Mly}{s:Nat}(h:¬((m.nx.getD s []).length:Int)=m.inp∨¬((m.ot.getD s []).length:Int)=m.inp):kN m s=1:=by
 unfold kN;rw[if_pos (show gK m s from h)]
theorem dE {m:Mly}{s j:Nat}(h1:((m.nx.getD s []).length:Int)=m.inp)(h2:((m.ot.getD s []).length:Int)=m.inp)(hj:(j:Int)<m.inp)(hb:cO m s j):kN m s=2:=by
 have:∀ n:Nat,j<n→dK (λa=>if cO m s a then 2 else 0) n=2:=by
  intro n
  induction n with
  |zero=>intro h;omega
  |succ n ih=>
   intro h;simp only[dK]
   by_cases e:n=j
   ·subst e
    split
    ·rename_i hne
     have:∀ k:Nat,dK (λa=>if cO m s a then 2 else 0) k=0∨dK (λa=>if cO m s a then 2 else 0) k=2:=by
      intro k
      induction k with
      |zero=>exact .inl rfl
      |succ k ih2=>
       simp only[dK];split
       ·exact ih2
       ·split
        ·exact .inr rfl
        ·exact .inl rfl
     rcases this n with h0|h0
     ·exact absurd h0 hne
     ·exact h0
    ·simp[hb]
   ·rw[ih ω];simp
 unfold kN;rw[if_neg (by unfold gK;omega)];exact this _ ω
theorem fc {m:Mly}(h:aK m=0):MOK m:=by
 unfold aK at h;split at h
 ·omega
 split at h
 ·omega
 split at h
 ·omega
 split at h
 ·omega
 split at h
 ·omega
 have hr:=λs (hs:s<m.nx.length)=>Fh (jR h s hs);refine⟨ω,ω,ω,ω,ω,ω,ω,λs hs=>(hr s hs).1,λs hs=>(hr s hs).2.1,λs a hs ha=>?_,λs a hs ha=>?_⟩
 ·have:=(hr s hs).2.2 a ha;unfold cO at this;omega
 ·have:=(hr s hs).2.2 a ha;unfold cO at this;omega
theorem ci {m:Mly}(h:MOK m):aK m=0:=by
 obtain⟨a1,a2,a3,a4,a5,a6,a7,a8,a9,a10,a11⟩:=h;unfold aK;rw[if_neg ω,if_neg ω,if_neg ω,if_neg ω,if_neg ω];refine bH λs hs=>?_;unfold kN;have h8:=a8 s hs;have h9:=a9 s hs;rw[if_neg (by unfold gK;omega)];refine bH λa ha=>?_;have h10:=a10 s a hs ω;have h11:=a11 s a hs ω;rw[if_neg (by unfold cO;omega)]
end Go.AV
