/- Part of the proof. -/
import Derived.Test.YtiedpcchhicifaaGreatDoorLt
set_option linter.unusedSimpArgs false
set_option linter.unusedVariables false
namespace Go.AV
def cw (l:List Int)(t:Int):List Int:=if t∈l then l else l++[t]
@[reducible] def Mly.row (m:Mly)(s:Int):List Int:=m.nx.getD s.toNat []
def Mly.rf (m:Mly):Nat→Nat→List Int→List Int
 |0,_,l=>l
 |f+1,i,l=>if i<l.length then m.rf f (i+1) ((m.row (l.getD i 0)).foldl cw l) else l
def Mly.reach (m:Mly):List Int:=if aK m=0 then m.rf (m.nx.length+1) 0 [m.st] else []
structure RSet (n:Nat)(l:List Int):Prop where
 nd:l.Nodup
 rng:∀ x,x∈l→0≤x∧x<n
theorem gz:∀ (n:Nat) (l:List Int),l.Nodup→(∀ x,x∈l→0≤x∧x<n)→l.length≤n
 |0,l,_,h=>by
  cases l with
  |nil=>simp
  |cons x l=>have:=h x η;omega
 |n+1,l,hn,h=>by
  have h1:(l.erase (n:Int)).length≤n:=by
   refine gz n _ (hn.erase _) λx hx=>?_;rw[hn.mem_erase_iff] at hx;have:=h x hx.2;have:x≠n:=hx.1;omega
  have:l.length≤(l.erase (n:Int)).length+1:=by
   rw[List.length_erase];split<;>omega
  omega
theorem RSet.len {n:Nat}{l:List Int}(h:RSet n l):l.length≤n:=gz n l h.nd h.rng
theorem RSet.at_ {n:Nat}{l:List Int}(h:RSet n l){i:Nat}(hi:i<l.length):0≤l.getD i 0∧l.getD i 0<n:=h.rng _ (cP hi)
theorem gF {l:List Int}{t:Int}(h:t∈l):cw l t=l:=by unfold cw;rw[if_pos h]
theorem fg {l:List Int}{t:Int}(h:t∉l):cw l t=l++[t]:=by unfold cw;rw[if_neg h]
theorem RSet.add {n:Nat}{l:List Int}(h:RSet n l){t:Int}(h0:0≤t)(h1:t<n):RSet n (cw l t):=by
 unfold cw;split
 ·exact h
 ·rename_i ht
  refine⟨?_,λx hx=>?_⟩
  ·rw[List.nodup_append]
   refine⟨h.nd,η,λa ha b hb=>?_⟩;simp at hb;subst hb;intro e;subst e;exact ht ha
  ·rcases List.mem_append.1 hx with hx|hx
   ·exact h.rng x hx
   ·simp at hx;subst hx;exact⟨h0,h1⟩
theorem RSet.fold {n:Nat}:∀ {r l:List Int},RSet n l→(∀ x,x∈r→0≤x∧x<n)→RSet n (r.foldl cw l)
 |[],_,h,_=>h
 |t::r,l,h,hr=>by
  simp only[List.foldl_cons];exact RSet.fold (h.add (hr t η).1 (hr t η).2) λx hx=>hr x (by simp[hx])
theorem iZ {r l:List Int}{j:Nat}(hj:j<r.length):(r.take (j+1)).foldl cw l=cw ((r.take j).foldl cw l) (r.getD j 0):=by
 rw[dx hj,List.foldl_append];rfl
theorem row_rng {m:Mly}(hm:MOK m){s:Int}(h0:0≤s)(h1:s<m.nx.length):∀ x,x∈m.row s→0≤x∧x<m.nx.length:=by
 intro x hx;obtain⟨i,hi⟩:=List.getElem?_of_mem hx;have hl:=(List.getElem?_eq_some_iff.1 hi).1;have:=hm.rl s.toNat ω;have h2:=hm.nr s.toNat i ω (by unfold Mly.row at hl;omega);have:(m.nx.getD s.toNat []).getD i 0=x:=by
  unfold Mly.row at hi;rw[List.getD,hi];rfl
 rw[this] at h2;exact h2
theorem RSet.take {m:Mly}(hm:MOK m){l:List Int}(h:RSet m.nx.length l){s:Int}(h0:0≤s)(h1:s<m.nx.length)(j:Nat):RSet m.nx.length (((m.row s).take j).foldl cw l):=
 h.fold λx hx=>row_rng hm h0 h1 x (List.mem_of_mem_take hx)
def fm (n:Nat)(l:List Int):List Bool:=(List.range n).map fun(t:Nat)=>decide ((t:Int)∈l)
theorem sK (n:Nat)(l:List Int):(fm n l).length=n:=by simp[fm]
theorem yP (n:Nat):List.replicate n false=fm n []:=by
 apply List.ext_getElem<;>simp[fm]
theorem xg {n:Nat}{l:List Int}{t:Int}(h0:0≤t)(h1:t<n):(fm n l).getD t.toNat false=decide (t∈l):=by
 have:t.toNat<n:=ω;simp[fm,List.getD,this,Int.toNat_of_nonneg h0]
theorem lU {n:Nat}{l:List Int}{t:Int}(h0:0≤t)(h1:t<n):(fm n l).set t.toNat true=fm n (l++[t]):=by
 apply List.ext_getElem
 ·simp[fm]
 ·intro i h2 h3
  simp only[fm,List.getElem_set,List.getElem_map,List.getElem_range,List.mem_append,List.mem_singleton];split
  ·rename_i e
   have:(i:Int)=t:=ω;simp[this]
  ·rename_i e
   have:¬(i:Int)=t:=ω;simp[this]
theorem i4 (m:Mly)(f i:Nat)(l:List Int)(h:l.length≤i):m.rf f i l=l:=by
 cases f with
 |zero=>rfl
 |succ f=>simp only[Mly.rf];rw[if_neg ω]
theorem jo (m:Mly)(f i:Nat)(l:List Int)(h:i<l.length):m.rf (f+1) i l=m.rf f (i+1) ((m.row (l.getD i 0)).foldl cw l):=by
 simp only[Mly.rf];rw[if_pos h]
theorem qv (r:List Int):∀ l:List Int,l.length≤(r.foldl cw l).length:=by
 induction r with
 |nil=>intro l;simp
 |cons t r ih=>
  intro l;simp only[List.foldl_cons];refine Nat.le_trans ?_ (ih _);unfold cw;split<;>simp
theorem jd {m:Mly}(h:MOK m):RSet m.nx.length [m.st]:=⟨η,λx hx=>by simp at hx;subst hx;exact⟨h.s1,h.s2⟩⟩
theorem CH {m:Mly}(h:MOK m):∀ (f i:Nat) (l:List Int),RSet m.nx.length l→RSet m.nx.length (m.rf f i l)
 |0,_,_,hl=>hl
 |f+1,i,l,hl=>by
  simp only[Mly.rf];split
  ·rename_i hi
   have:=hl.at_ hi;exact CH h f (i+1) _ (hl.fold (row_rng h this.1 this.2))
  ·exact hl
theorem gx {m:Mly}(h:MOK m):RSet m.nx.length m.reach:=by
 unfold Mly.reach;rw[if_pos (ci h)];exact CH h _ _ _ (jd h)
theorem eV {m:Mly}(h:aK m=0):m.reach=m.rf (m.nx.length+1) 0 [m.st]:=by unfold Mly.reach;rw[if_pos h]
theorem xu {m:Mly}(h:¬aK m=0):m.reach=[]:=by unfold Mly.reach;rw[if_neg h]
def tX (n:Nat)(l:List Int):Nat→List Int
 |0=>List.replicate n 0
 |k+1=>(tX n l k).set (l.getD k 0).toNat (k:Int)
theorem om (n:Nat)(l:List Int):∀ k,(tX n l k).length=n
 |0=>by simp[tX]
 |k+1=>by simp[tX,om n l k]
def Mly.num (m:Mly):List Int:=tX m.nx.length m.reach m.reach.length
def Mly.tnx (m:Mly):List (List Int):=m.reach.map λs=>(m.row s).map λt=>m.num.getD t.toNat 0
def Mly.tot (m:Mly):List (List Int):=m.reach.map λs=>m.ot.getD s.toNat []
def Mly.trim (m:Mly):Mly:=if aK m=0 then⟨m.inp,0,m.tnx,m.tot⟩ else⟨0,0,[],[]⟩
def km (num r:List Int)(j:Nat):List Int:=(r.take j).map (λt=>num.getD t.toNat 0)++List.replicate (r.length-j) 0
theorem Fw (num r:List Int){j:Nat}(h:j≤r.length):(km num r j).length=r.length:=by simp[km];omega
theorem CZ (num r:List Int):km num r 0=List.replicate r.length 0:=by simp[km]
theorem F9 (num r:List Int):km num r r.length=r.map (λt=>num.getD t.toNat 0):=by simp[km]
theorem Ff (num r:List Int){j:Nat}(h:j<r.length):(km num r j).set j (num.getD (r.getD j 0).toNat 0)=km num r (j+1):=by
 unfold km;rw[dx h,List.map_append,List.set_append];have hl:((r.take j).map (λt=>num.getD t.toNat 0)).length=j:=by simp;omega
 rw[hl,if_neg ω,Nat.sub_self,show r.length-j=(r.length-(j+1))+1 by omega,List.replicate_succ];simp
theorem kK {α β:Type}(f:α→β)(d:α){l:List α}{k:Nat}(h:k<l.length):(l.map f).take (k+1)=(l.map f).take k++[f (l.getD k d)]:=by
 rw[List.take_add_one];simp[List.getElem?_eq_getElem h,List.getD]
theorem vl {m:Mly}(h:aK m=0):m.trim=⟨m.inp,0,m.tnx,m.tot⟩:=by unfold Mly.trim;rw[if_pos h]
theorem zp {m:Mly}(h:¬aK m=0):m.trim=⟨0,0,[],[]⟩:=by unfold Mly.trim;rw[if_neg h]
end Go.AV
