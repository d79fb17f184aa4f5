/- Part of the proof. -/
import Derived.Test.YtiedpcchhicifaaGreatDoorLs
set_option linter.unusedSimpArgs false
set_option linter.unusedVariables false
open List renaming getElem?_eq_some_iff→Δ
namespace Go.AV
def dQ (n a:Int):Prop:=a<0∨n≤a
instance (n a:Int):Decidable (dQ n a):=by unfold dQ;exact inferInstance
def bQ (w:List Int)(n:Int):Int:=if n<1∨1024<n then 2 else if 1024<w.length then 3 else if ∃ a,a∈w∧dQ n a then 1 else 0
structure WOK (w:List Int)(n:Int):Prop where
 len:w.length≤1024
 sym:∀ i:Nat,i<w.length→0≤w.getD i 0∧w.getD i 0<n
theorem cP {w:List Int}{i:Nat}(h:i<w.length):w.getD i 0∈w:=by
 simp[List.getD,List.getElem?_eq_getElem h]
theorem me {w:List Int}{n:Int}(h:bQ w n=0):WOK w n:=by
 unfold bQ at h;split at h
 ·omega
 split at h
 ·omega
 split at h
 ·omega
 rename_i hn;refine⟨ω,λi hi=>?_⟩;have:¬dQ n (w.getD i 0):=λhb=>hn ⟨_,cP hi,hb⟩;unfold dQ at this;omega
theorem KG {w:List Int}{n:Int}(h1:1≤n)(h2:n≤1024)(h:WOK w n):bQ w n=0:=by
 unfold bQ;have:=h.len;rw[if_neg ω,if_neg ω,if_neg ?_];rintro⟨a,ha,hb⟩;obtain⟨i,hi⟩:=List.getElem?_of_mem ha;have hl:i<w.length:=(Δ.1 hi).1;have:=h.sym i hl;simp only[List.getD,hi,Option.getD_some] at this;unfold dQ at hb;omega
def Mly.nxt (m:Mly)(s a:Int):Int:=(m.nx.getD s.toNat []).getD a.toNat 0
def Mly.out (m:Mly)(s a:Int):Int:=(m.ot.getD s.toNat []).getD a.toNat 0
def Mly.go (m:Mly)(s:Int)(w:List Int):Int×List Int:=w.foldl (λp a=>(m.nxt p.1 a,p.2++[m.out p.1 a])) (s,[])
theorem AH (m:Mly)(s:Int):m.go s []=(s,[]):=rfl
theorem ip (m:Mly)(s:Int)(w:List Int)(a:Int):m.go s (w++[a])=(m.nxt (m.go s w).1 a,(m.go s w).2++[m.out (m.go s w).1 a]):=by
 simp[Mly.go,List.foldl_append]
theorem dx {w:List Int}{k:Nat}(h:k<w.length):w.take (k+1)=w.take k++[w.getD k 0]:=by
 rw[List.take_add_one,List.getElem?_eq_getElem h];simp[List.getD,List.getElem?_eq_getElem h]
theorem kG (m:Mly)(s:Int){w:List Int}{k:Nat}(h:k<w.length):m.go s (w.take (k+1))=(m.nxt (m.go s (w.take k)).1 (w.getD k 0),(m.go s (w.take k)).2++[m.out (m.go s (w.take k)).1 (w.getD k 0)]):=by
 rw[dx h,ip]
theorem oD (m:Mly)(s:Int)(w:List Int):(m.go s w).2.length=w.length:=by
 have:∀ (w:List Int) (p:Int×List Int),(w.foldl (λp a=>(m.nxt p.1 a,p.2++[m.out p.1 a])) p).2.length=p.2.length+w.length:=by
  intro w
  induction w with
  |nil=>intro p;simp
  |cons a w ih=>intro p;simp only[List.foldl_cons];rw[ih];simp;omega
 have:=this w (s,[]);simp only[List.length_nil,Nat.zero_add] at this;exact this
theorem NK {m:Mly}(hm:MOK m){s:Int}(h0:0≤s)(h1:s<m.nx.length){w:List Int}(hw:WOK w m.inp):∀ k,k≤w.length→0≤(m.go s (w.take k)).1∧(m.go s (w.take k)).1<m.nx.length:=by
 intro k
 induction k with
 |zero=>intro _;simpa [AH] using⟨h0,h1⟩
 |succ k ih=>
  intro hk;have:=ih ω;rw[kG m s ω];have h2:=hw.sym k ω;have h3:=hm.nr (m.go s (w.take k)).1.toNat (w.getD k 0).toNat ω ω;exact h3
def gv (m:Mly)(s:Int)(w:List Int):Int:=
 if aK m≠0 then aK m else if s<0∨(m.nx.length:Int)≤s then 2 else bQ w m.inp
def eG (m:Mly)(s:Int)(w:List Int):List Int:=if gv m s w=0 then(m.go s w).2 else []
def pF (m:Mly)(s:Int)(w:List Int):Int:=if gv m s w=0 then(m.go s w).1 else 0
def dV (m:Mly)(s:Int):Int:=if aK m≠0 then aK m else if s<0∨(m.nx.length:Int)≤s then 2 else 0
theorem mJ {m:Mly}{s:Int}{w:List Int}(h:dV m s≠0):gv m s w=dV m s:=by
 unfold gv dV at*;split
 ·rfl
 ·rename_i hv;rw[if_neg hv] at h
  split
  ·rfl
  ·rename_i hs;rw[if_neg hs] at h;exact absurd rfl h
theorem nQ {m:Mly}{s:Int}{w:List Int}(h:dV m s=0):gv m s w=bQ w m.inp:=by
 unfold gv dV at*;split
 ·rename_i hv;rw[if_pos hv] at h;exact absurd h hv
 ·rename_i hv;rw[if_neg hv] at h
  split
  ·rename_i hs;rw[if_pos hs] at h;omega
  ·rfl
structure SOK (m:Mly)(s:Int):Prop where
 ok:MOK m
 s0:0≤s
 s1:s<m.nx.length
theorem Sf {m:Mly}{s:Int}(h:dV m s=0):SOK m s:=by
 unfold dV at h;split at h
 ·contradiction
 ·rename_i hv
  split at h
  ·omega
  ·exact⟨fc (Decidable.not_not.1 hv),ω,ω⟩
def nG (w:List Int)(n:Int):Int:=match w.findIdx? (λa=>decide (dQ n a)) with|some i=>i|none=>-1
theorem CP {w:List Int}{n:Int}{k:Nat}(hk:k<w.length)(h:∀ i,i<k→¬dQ n (w.getD i 0))(hb:dQ n (w.getD k 0)):nG w n=k:=by
 unfold nG;have:w.findIdx? (λa=>decide (dQ n a))=some k:=by
  rw[List.findIdx?_eq_some_iff_getElem];refine⟨hk,?_,λj hj=>?_⟩
  ·simpa [List.getD,List.getElem?_eq_getElem hk] using hb
  ·have:=h j hj
   simpa [List.getD,List.getElem?_eq_getElem (Nat.lt_trans hj hk)] using this
 rw[this]
theorem pM {w:List Int}{n:Int}(h:∀ i,i<w.length→¬dQ n (w.getD i 0)):nG w n= -1:=by
 unfold nG;have:w.findIdx? (λa=>decide (dQ n a))=none:=by
  rw[List.findIdx?_eq_none_iff];intro a ha;obtain⟨i,hi⟩:=List.getElem?_of_mem ha;have:=h i (Δ.1 hi).1
  simpa [List.getD,hi] using this
 rw[this]
theorem wB (w:List Int)(n:Int):(0≤nG w n∧∃ a,a∈w∧dQ n a)∨(nG w n<0∧¬ ∃ a,a∈w∧dQ n a):=by
 by_cases h:∃ a,a∈w∧dQ n a
 ·refine .inl ⟨?_,h⟩
  unfold nG;obtain⟨a,ha,hb⟩:=h
  cases hf:w.findIdx? (λa=>decide (dQ n a)) with
  |some i=>simp
  |none=>
   rw[List.findIdx?_eq_none_iff] at hf;have:=hf a ha;simp[hb] at this
 ·refine .inr ⟨?_,h⟩
  rw[pM λi hi hb=>h ⟨_,cP hi,hb⟩];decide
theorem mb {w:List Int}{n:Int}(h1:1≤n)(h2:n≤1024)(h3:w.length≤1024)(h:0≤nG w n):bQ w n=1:=by
 unfold bQ;rcases wB w n with⟨_,hs⟩|⟨h',_⟩
 ·rw[if_neg ω,if_neg ω,if_pos hs]
 ·omega
theorem jL {w:List Int}{n:Int}(h1:1≤n)(h2:n≤1024)(h3:w.length≤1024)(h:nG w n<0):bQ w n=0:=by
 unfold bQ;rcases wB w n with⟨h',_⟩|⟨_,hs⟩
 ·omega
 ·rw[if_neg ω,if_neg ω,if_neg hs]
def kz (m n:Mly):Bool:=decide (m.inp=n.inp)&&decide (m.st=n.st)&&decide (m.nx=n.nx)&&decide (m.ot=n.ot)
theorem jB (ls:List (List Int)){k:Nat}(h:k<ls.length):(ls.take (k+1)).flatten=(ls.take k).flatten++ls.getD k []:=by
 have e:ls.take (k+1)=ls.take k++[ls.getD k []]:=by
  rw[List.take_add_one,List.getElem?_eq_getElem h];simp[List.getD,List.getElem?_eq_getElem h]
 rw[e,List.flatten_append,List.flatten_cons,List.flatten_nil,List.append_nil]
theorem li (ls:List (List Int))(k:Nat):(ls.take k).flatten.length≤ls.flatten.length:=by
 have h:ls.flatten=(ls.take k).flatten++(ls.drop k).flatten:=by rw[← List.flatten_append,List.take_append_drop]
 rw[h,List.length_append];omega
theorem y3 (m:Mly)(s:Int)(u v:List Int):m.go s (u++v)=((m.go (m.go s u).1 v).1,(m.go s u).2++(m.go (m.go s u).1 v).2):=by
 have key:∀ (v:List Int) (p:Int×List Int),v.foldl (λp a=>(m.nxt p.1 a,p.2++[m.out p.1 a])) p=((m.go p.1 v).1,p.2++(m.go p.1 v).2):=by
  intro v
  induction v with
  |nil=>intro p;simp[Mly.go]
  |cons a v ih=>
   intro p;simp only[List.foldl_cons,Mly.go];rw[ih,ih];simp[Mly.go]
 have h:=key v (m.go s u);unfold Mly.go at h⊢;rw[List.foldl_append];exact h
end Go.AV
