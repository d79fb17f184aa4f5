/- Part of the proof. -/
import Derived.Test.YtiedpcchhicifaaGreatDoorLc
import Derived.Maps.AppendAt
set_option linter.unusedSimpArgs false
set_option linter.unusedVariables false
open List renaming getElem?_eq_some_iff→Δ
open Go.Result renaming andThen_ok→Ψ
open Go.Sem renaming run_pure→Ω
open Go.Sem renaming run_bind→Φ
open Option.some renaming injEq→Λ
namespace Go.AV
open Go Go.RowKit
section
variable {C:Ctx} {L0:List AO} {o:Oper} {opn:Operand→AV}
theorem ee {w:World}{b:Nat}{cs:Array Value}{t:TypeId}{fr:Nat×Nat}(h:w.heap[b]? =some (.cells cs t fr))(j:Nat):w.cell? ⟨b,j,none⟩=cs[j]?:=cell_of_row w b j cs t fr h
theorem add_lit (b o j:Nat):(⟨b,o,none⟩:Addr).add j=⟨b,o+j,none⟩:=by unfold Addr.add;split<;>simp_all
theorem EU {x:Operand}(ho:o.op= .move x):bG C L0 o opn {av:=opn x}:=by
 intro L σ w ρ hi hx _ _;simp only[ho,execOp,Ω,bI];exact aZ hi (hx x (by simp[ho,Op.operands]))
theorem Az {x:Operand}(ho:o.op= .assign x):bG C L0 o opn {av:=opn x}:=by
 intro L σ w ρ hi hx _ _;simp only[ho,execOp,Ω,bI];exact aZ hi (hx x (by simp[ho,Op.operands]))
theorem y0 {c a b:Operand}{t:Bool}(ho:o.op= .pick c a b)(hc:opn c= .one (.bool t)):bG C L0 o opn {av:=if t then opn a else opn b}:=by
 intro L σ w ρ hi hx _ _;have h1:=hx c (by simp[ho,Op.operands]);rw[hc] at h1;have h2:ρ c= .bool t:=h1.2;simp only[ho,execOp,h2,asBool,Φ,Ω,Ψ,bI];refine aZ hi ?_
 cases t
 ·exact hx b (by simp[ho,Op.operands])
 ·exact hx a (by simp[ho,Op.operands])
theorem LG {T:TypeId}{x:Operand}{cs:List AC}(ho:o.op= .box T x)(hc:cG (opn x)=some cs):bG C L0 o opn {av:=.one (.ptr L0.length 0 0 0),new:=[.vars T cs]}:=by
 intro L σ w ρ hi hx _ hlen;have h1:=m4 hc (hx x (by simp[ho,Op.operands]));simp only[ho,execOp,Instr.box,newVar,newRow,Φ,run_newObj,Ω,Ψ,bI];refine eE (g:=.pointer (some ⟨w.heap.size,0,none⟩)) hi η rfl rfl rfl (λb hb=>heap_alloc_old w _ hb) (λb hb=>by simp only[blk,Λ] at hb;omega) (λhp=>?_) ?_
 ·refine⟨w.heap.size,(ρ x).cells.toList,aR _ _ _,?_,h1.mono λc u hcu=>hp c u hcu⟩
  simp
 ·refine⟨rfl,.vars T cs,by rw[← hlen];simp,Nat.zero_le _,λ_ _=>⟨w.heap.size,?_,by simp[AO.esize]⟩⟩
  rw[← hlen,aR];rfl
theorem Cv {T:TypeId}{td:TD}(ho:o.op= .alloc T)(ht:aN C.P T=some td):bG C L0 o opn {av:=.one (.ptr L0.length 0 0 0),new:=[.vars T td.zero]}:=by
 intro L σ w ρ hi hx _ hlen;obtain⟨z,hz,hcs⟩:=eT ht w;simp only[ho,execOp,Instr.alloc,newVar,newRow,Φ,hz,run_newObj,Ω,Ψ,bI];refine eE (g:=.pointer (some ⟨w.heap.size,0,none⟩)) hi η rfl rfl rfl (λb hb=>heap_alloc_old w _ hb) (λb hb=>by simp only[blk,Λ] at hb;omega) (λhp=>?_) ?_
 ·refine⟨w.heap.size,z.cells.toList,aR _ _ _,?_,cz hcs⟩
  simp
 ·refine⟨rfl,.vars T td.zero,by rw[← hlen];simp,Nat.zero_le _,λ_ _=>⟨w.heap.size,?_,by simp[AO.esize]⟩⟩
  rw[← hlen,aR];rfl
def bZ (td:TD)(cs:List AC)(off:Nat):Option AV:=
 if cT td.k then if off+td.size≤cs.length then some (.agg ((cs.drop off).take td.size)) else none
 else match cs[off]? with|some c=>some (.one c)|none=>none
theorem kP {L:List AO}{σ:Sig}{w:World}{T:TypeId}{td:TD}(ht:aN C.P T=some td){b base off:Nat}{cs:List AC}{vs:List Value}{v:AV}
 (ha:bv (RC C L σ w) cs vs) (hc:∀ j,j<vs.length→w.cell? ⟨b,base+j,none⟩=vs[j]?) (hr:bZ td cs off=some v):
 ∃ u,(Instr.loadAt T (.pointer (some ⟨b,base+off,none⟩))).run C.P w= .ok u w∧RV C L σ w v u:=by
 unfold bZ at hr;have hl:=ha.length;simp only[Instr.loadAt,Instr.sureAddr,loadVar,Φ,Ω,Ψ,mE ht w];split at hr
 ·rename_i hk
  split at hr
  ·rename_i hsz
   simp only[Λ] at hr;subst hr;have hcl:((vs.drop off).take td.size).length=td.size:=by simp;omega
   have hrun:=run_loadCells_list (P:=C.P) w ⟨b,base+off,none⟩ ((vs.drop off).take td.size) (λj v hv=>by
    rw[add_lit,Nat.add_assoc];have hj:j<td.size:=by have:=(Δ.1 hv).1;omega
    rw[hc (off+j) ω,← hv,List.getElem?_take_of_lt hj,List.getElem?_drop])
   rw[hcl] at hrun;simp only[hk,if_true,Φ,bT ht w,hrun,Ψ,Ω];exact⟨_,rfl,_,rfl,(ha.drop off).take td.size⟩
  ·cases hr
 ·rename_i hk
  split at hr
  ·rename_i c hcc
   simp only[Λ] at hr;subst hr;obtain⟨u,hu,hrc⟩:=ha.at_ hcc;have hlt:off<vs.length:=(Δ.1 hu).1;have hcell:=hc off hlt;rw[hu] at hcell;simp only[hk,Bool.false_eq_true,if_false,run_load,hcell];exact⟨u,rfl,hrc⟩
  ·cases hr
def cK (L:List AO)(o ver i:Nat):Option (List AC):=
 match L[o]? with
 |some (.vars _ cs)=>if ver=0∧i=0 then some cs else none
 |some (.row t _ v xs)=>if ver=v∧i<xs.length then some (acs t (xs.getD i t.dflt)) else none
 |some (.rowc _ sz v cs)=>if ver=v∧(i+1)*sz≤cs.length then some ((cs.drop (i*sz)).take sz) else none
 |_=>none
theorem ik {w:World}{base:Nat}{e:TypeId}{size:Nat}{v:Value}{n:Nat}{xs:List Value}(h:w.ownsRow base e size v n xs){b:Nat}(hb:blk v=some b):
 ∃ cap cur,v= .slice (some ⟨b,0,none⟩) n cap∧w.heap[b]? =some (.cells cur e (0,0))∧n≤cap∧cap≤maxLen∧cur.size=cap*size∧cur.toList.take (n*size)=xs:=by
 rcases h.2 with⟨rfl,_⟩|⟨g,cap,cur,rfl,_,h1,h2,h3,h4,h5⟩
 ·cases hb
 ·simp only[blk,Λ] at hb;subst hb
  exact⟨cap,cur,rfl,h1,h2,h3,h4,h5⟩
theorem eD {L:List AO}{σ:Sig}{w:World}(hi:INV C L σ w){k ver i off:Nat}{cs:List AC}(hcs:cK L k ver i=some cs){v:Value}(hv:RP L σ k ver i off v):
 ∃ b base vs,v= .pointer (some ⟨b,base+off,none⟩)∧own L σ k b∧bv (RC C L σ w) cs vs∧(∀ j,j<vs.length→w.cell? ⟨b,base+j,none⟩=vs[j]?):=by
 obtain⟨ob,hob,hle,hp⟩:=hv;unfold cK at hcs;rw[hob] at hcs;have h1:=hi.ob k ob hob
 cases ob with
 |dead _=>cases hcs
 |vars T as=>
  simp only at hcs;split at hcs
  ·rename_i hz
   simp only[Λ] at hcs;subst hcs;obtain⟨rfl,rfl⟩:=hz;obtain⟨b,hb,rfl⟩:=hp rfl rfl;obtain⟨b',vs,e1,e2,e3⟩:=h1;rw[e1] at hb;simp only[blk,Λ] at hb;subst hb;refine⟨b',0,vs,by simp[AO.esize],⟨_,hob,rfl,by rw[e1];rfl⟩,e3,λj _=>?_⟩;rw[ee e2];simp
  ·cases hcs
 |row t e v' xs=>
  simp only at hcs;split at hcs
  ·rename_i hz
   simp only[Λ] at hcs;subst hcs;obtain⟨rfl,hlt⟩:=hz;obtain⟨b,hb,rfl⟩:=hp rfl rfl;obtain⟨flat,h2,h0,h3⟩:=h1;obtain⟨cap,cur,e1,e2,e3,e4,e5,e6⟩:=ik h2 hb;have hd:=h3 i hlt;have hm:(i+1)*t.size≤xs.length*t.size:=Nat.mul_le_mul_right _ hlt;rw[Nat.add_mul,Nat.one_mul] at hm;refine⟨b,i*t.size,_,by simp[AO.esize],⟨_,hob,rfl,hb⟩,kW hd,λj hj=>?_⟩;have hj':j<t.size:=by rw[hd.length] at hj;exact hj
   rw[ee e2,List.getElem?_take_of_lt hj',List.getElem?_drop,← e6,List.getElem?_take_of_lt ω];simp
  ·cases hcs
 |mp T vk es=>cases hcs
 |itr s pos=>cases hcs
 |fact g x=>cases hcs
 |rowc e sz v' as=>
  simp only at hcs;split at hcs
  ·rename_i hz
   simp only[Λ] at hcs;subst hcs;obtain⟨rfl,hlt⟩:=hz;obtain⟨b,hb,rfl⟩:=hp rfl rfl;obtain⟨flat,n,h2,h0,hl0,h3⟩:=h1;obtain⟨cap,cur,e1,e2,e3,e4,e5,e6⟩:=ik h2 hb;have hfl:=h3.length;rw[Nat.add_mul,Nat.one_mul] at hlt;refine⟨b,i*sz,_,by simp[AO.esize],⟨_,hob,rfl,hb⟩,(h3.drop _).take _,λj hj=>?_⟩;have hj':j<sz:=by simp at hj;omega
   rw[ee e2,List.getElem?_take_of_lt hj',List.getElem?_drop,← e6,List.getElem?_take_of_lt ω];simp
  ·cases hcs
theorem mH {T:TypeId}{td:TD}{x:Operand}{k ver i off:Nat}{cs:List AC}{v:AV}(ho:o.op= .load T x)(ht:aN C.P T=some td)(hx':opn x= .one (.ptr k ver i off))
 (hcs:cK L0 k ver i=some cs) (hr:bZ td cs off=some v):bG C L0 o opn {av:=v,fp:=[k]}:=by
 intro L σ w ρ hi hx hfp hlen;have h1:=hx x (by simp[ho,Op.operands]);rw[hx'] at h1;have hcs':cK L k ver i=some cs:=by unfold cK at hcs⊢;rw[hfp k η];exact hcs
 obtain⟨b,base,vs,e,_,ha,hc⟩:=eD hi hcs' h1.2;obtain⟨u,hu,hrv⟩:=kP ht ha hc hr;simp only[ho,execOp,e,Φ,hu,Ψ,Ω,bI];exact aZ hi hrv
theorem vh {T:TypeId}{td:TD}{x:Operand}{t:Ty}{d:t.den}{off:Nat}{v:AV}(ho:o.op= .load T x)(ht:aN C.P T=some td)(hx':opn x= .one (.pat t d off))
 (hr:bZ td (acs t d) off=some v):bG C L0 o opn {av:=v}:=by
 intro L σ w ρ hi hx hfp hlen;have h1:=hx x (by simp[ho,Op.operands]);rw[hx'] at h1;obtain⟨b,base,cs,e,_,_,hc,hd⟩:=h1.2;obtain⟨u,hu,hrv⟩:=kP ht (kW hd) (λj hj=>hc j (by rw[hd.length] at hj;exact hj)) hr;simp only[ho,execOp,e,Φ,hu,Ψ,Ω,bI];exact aZ hi hrv
theorem x8 {T:TypeId}{td:TD}{x:Operand}{f:FuncId}{ds:List ((t:Ty)×t.den)}(ho:o.op= .load T x)(ht:aN C.P T=some td)(hk:cT td.k=false)(hx':opn x= .one (.pfn f ds)):
 bG C L0 o opn {av:=.one (.fn f (ds.map λp=>.pat p.1 p.2))}:=by
 intro L σ w ρ hi hx hfp hlen;have h1:=hx x (by simp[ho,Op.operands]);rw[hx'] at h1;obtain⟨b,base,vs,e,_,_,hc,hd⟩:=h1.2;have hfn:RC C L σ w (.fn f (ds.map λp=>.pat p.1 p.2)) (.func (.func f) #[] vs.toArray):=by
  refine⟨rfl,vs,rfl,?_⟩;have:∀ (ds:List ((t:Ty)×t.den)) (vs:List Value),bv (λp u=>u.oneCell'=true∧kQ C L σ w p.1 p.2 0 u) ds vs→bv (qP C L σ w) (ds.map λp=>.pat p.1 p.2) vs:=by
   intro ds
   induction ds with
   |nil=>intro vs h;cases vs with|nil=>trivial|cons _ _=>exact h.elim
   |cons p ds ih=>
    intro vs h
    cases vs with
    |nil=>exact h.elim
    |cons v vs=>exact⟨h.1,ih vs h.2⟩
  exact this ds vs hd
 obtain⟨u,hu,hrv⟩:=kP (L:=L) (σ:=σ) (w:=w) (cs:=[.fn f (ds.map λp=>.pat p.1 p.2)]) (vs:=[.func (.func f) #[] vs.toArray]) (b:=b) (base:=base) (off:=0) ht ⟨hfn,trivial⟩ (λj hj=>by
  have:j=0:=by simpa using hj
  subst this;simpa using hc) (by unfold bZ;rw[hk];rfl)
 simp only[Nat.add_zero] at hu;simp only[ho,execOp,e,Φ,hu,Ψ,Ω,bI];exact aZ hi hrv
theorem np {x:Operand}(ho:o.op= .nilCheck x)(hx':(∃ k i off,opn x= .one (.ptr k 0 i off)∧(∃ T cs,L0[k]? =some (.vars T cs)))∨(∃ t d off,opn x= .one (.pat t d off))):
 bG C L0 o opn {av:=opn x,fp:=match opn x with| .one (.ptr k _ _ _)=>[k]|_=>[]}:=by
 intro L σ w ρ hi hx hfp hlen;have h1:=hx x (by simp[ho,Op.operands]);have hp:∃ a,ρ x= .pointer (some a):=by
  rcases hx' with⟨k,i,off,e,T,cs,hk⟩|⟨t,d,off,e⟩
  ·rw[e] at h1
   obtain⟨ob,h2,h3,h4⟩:=h1.2;have hk':L[k]? =some (.vars T cs):=by rw[hfp k (by rw[e];simp)];exact hk
   rw[h2] at hk';cases hk';obtain⟨b,_,e⟩:=h4 rfl rfl;exact⟨_,e⟩
  ·rw[e] at h1
   obtain⟨b,base,cs,e,_⟩:=h1.2;exact⟨_,e⟩
 obtain⟨a,e⟩:=hp;simp only[ho,execOp,e,Ω,bI];rw[e] at h1;exact aZ hi h1
theorem qe {T:TypeId}{td:TD}{fs:List (Nat×TypeId×Nat)}(ht:aN C.P T=some td)(hk:td.k= .struct fs){f off ft sz:Nat}(hf:fs[f]? =some (off,ft,sz))(hs:sz≠0)
 (b a0:Nat) (w:World):(Instr.fieldAt T (.pointer (some ⟨b,a0,none⟩)) f).run C.P w= .ok (.pointer (some ⟨b,a0+off,none⟩)) w:=by
 obtain⟨d,hd,hkd,hu⟩:=bS ht w;rw[hk] at hkd;obtain⟨gs,rfl,hgs⟩:=pV hkd;have hg:∃ g,gs[f]? =some g∧g.offset=off∧C.P.cellsOf g.type=sz:=by
  rw[← hgs,List.getElem?_map] at hf
  cases hgf:gs.toList[f]? with
  |none=>rw[hgf] at hf;cases hf
  |some g=>
   rw[hgf] at hf;simp only[Option.map_some,Λ,Prod.mk.injEq] at hf;exact⟨g,by simpa using hgf,hf.1,hf.2.2⟩
 obtain⟨g,h1,h2,h3⟩:=hg;have hsz:∃ i,C.P.info? g.type=some i∧i.size=sz:=by
  unfold Program.cellsOf at h3
  cases hi:C.P.info? g.type with
  |none=>rw[hi] at h3;simp at h3;omega
  |some i=>rw[hi] at h3;exact⟨i,rfl,by simpa using h3⟩
 obtain⟨i,h4,h5⟩:=hsz;simp[Instr.fieldAt,hd,h1,Instr.sureAddr,fieldPlace,sizeOf,typeInfo,h4,h5,hs,add_lit,h2]
theorem jC {T:TypeId}{td:TD}{x:Operand}{fs:List (Nat×TypeId×Nat)}{f off ft sz k i o1:Nat}(ho:o.op= .fieldAddr T x f)(ht:aN C.P T=some td)(hk:td.k= .struct fs)
 (hf:fs[f]? =some (off,ft,sz)) (hs:sz≠0) {ver:Nat} {ob:AO} (hx':opn x= .one (.ptr k ver i o1)) (hob:L0[k]? =some ob) (hl:ob.live=true) (hv:ob.ver=ver):bG C L0 o opn {av:=.one (.ptr k ver i (o1+off)),fp:=[k]}:=by
 intro L σ w ρ hi hx hfp hlen;have h1:=hx x (by simp[ho,Op.operands]);rw[hx'] at h1;obtain⟨ob',h2,h3,h4⟩:=h1.2;rw[hfp k η,hob] at h2;cases h2;obtain⟨b,hb,e⟩:=h4 hl hv.symm;simp only[ho,execOp,e,Φ,qe ht hk hf hs,Ψ,Ω,bI];refine aZ hi ⟨rfl,ob,by rw[hfp k η];exact hob,h3,λ_ _=>⟨b,hb,by rw[Nat.add_assoc]⟩⟩
theorem pb {T:TypeId}{td:TD}{x:Operand}{fs:List (Nat×TypeId×Nat)}{f off ft sz o1:Nat}{t:Ty}{d:t.den}(ho:o.op= .fieldAddr T x f)(ht:aN C.P T=some td)(hk:td.k= .struct fs)
 (hf:fs[f]? =some (off,ft,sz)) (hs:sz≠0) (hx':opn x= .one (.pat t d o1)):bG C L0 o opn {av:=.one (.pat t d (o1+off))}:=by
 intro L σ w ρ hi hx hfp hlen;have h1:=hx x (by simp[ho,Op.operands]);rw[hx'] at h1;obtain⟨b,base,cs,e,h2,h3,h4,h5⟩:=h1.2;simp only[ho,execOp,e,Φ,qe ht hk hf hs,Ψ,Ω,bI];exact aZ hi ⟨rfl,b,base,cs,by rw[Nat.add_assoc],h2,h3,h4,h5⟩
theorem jQ {T e:TypeId}{td te:TD}(ht:aN C.P T=some td)(hk:td.k= .slice e)(hte:aN C.P e=some te)(b a0 n c:Nat)(k:IntKind)(i:Int)(h0:0≤i)(h1:i<n)(w:World):
 (Instr.indexAt T (.slice (some ⟨b,a0,none⟩) n c) (.int k i)).run C.P w= .ok (.pointer (some ⟨b,a0+i.toNat*te.size,none⟩)) w:=by
 obtain⟨d,hd,hkd,hu⟩:=bS ht w;rw[hk] at hkd;have:=bW hkd;subst this;simp[Instr.indexAt,asIntOf,hd,h0,h1,bT hte,add_lit]
theorem rR {T e:TypeId}{td te:TD}{x ix:Operand}{t:Ty}{xs:List t.den}{k:IntKind}{i:Int}(ho:o.op= .indexAddr T x ix)(ht:aN C.P T=some td)(hk:td.k= .slice e)(hte:aN C.P e=some te)(hsz:te.size=t.size)
 (hx':opn x= .one (.list t xs)) (hi':opn ix= .one (.int k i)) (h0:0≤i) (h1:i<xs.length):bG C L0 o opn {av:=.one (.pat t (gt t xs i) 0)}:=by
 intro L σ w ρ hi hx hfp hlen;have hx1:=hx x (by simp[ho,Op.operands]);have hx2:=hx ix (by simp[ho,Op.operands]);rw[hx'] at hx1;rw[hi'] at hx2;have e2:ρ ix= .int k i:=hx2.2;obtain⟨A,c,e1,h2,h3,h4⟩:=hx1.2;simp only[List.cons.injEq,and_true] at e1;obtain⟨b,o1,rfl,h5,h6,h7⟩:=h4 ω;obtain⟨cs,hl,hc,hd⟩:=h7 i.toNat ω;simp only[ho,execOp,e1,e2,Φ,jQ ht hk hte b o1 _ c k i h0 h1,Ψ,Ω,bI];rw[hsz];exact aZ hi ⟨rfl,b,o1+i.toNat*t.size,cs,η,h5,h6,hc,hd⟩
theorem ur {T e:TypeId}{td te:TD}{x ix:Operand}{r ver:Nat}{t:Ty}{e':TypeId}{xs:List t.den}{k:IntKind}{i:Int}(ho:o.op= .indexAddr T x ix)(ht:aN C.P T=some td)(hk:td.k= .slice e)(hte:aN C.P e=some te)(hsz:te.size=t.size)
 (hx':opn x= .one (.row r ver)) (hob:L0[r]? =some (.row t e' ver xs)) (hi':opn ix= .one (.int k i)) (h0:0≤i) (h1:i<xs.length):bG C L0 o opn {av:=.one (.ptr r ver i.toNat 0),fp:=[r]}:=by
 intro L σ w ρ hi hx hfp hlen;have hx1:=hx x (by simp[ho,Op.operands]);have hx2:=hx ix (by simp[ho,Op.operands]);rw[hx'] at hx1;rw[hi'] at hx2;have e2:ρ ix= .int k i:=hx2.2;have hob':L[r]? =some (.row t e' ver xs):=by rw[hfp r η];exact hob
 obtain⟨ob,h2,h3,h4⟩:=hx1.2;rw[hob'] at h2;cases h2;obtain⟨_,e1⟩:=h4 rfl rfl;obtain⟨flat,h5,h6,h7⟩:=hi.ob r _ hob';have hne:∃ b,blk (σ r)=some b:=by
  rcases h5.2 with⟨_,h8⟩|⟨g,cap,cur,e3,_⟩
  ·omega
  ·exact⟨g,by rw[e3];rfl⟩
 obtain⟨b,hb⟩:=hne;obtain⟨cap,cur,e3,_⟩:=ik h5 hb;simp only[ho,execOp,e1,e2,e3,Φ,jQ ht hk hte b 0 _ cap k i h0 h1,Ψ,Ω,bI];refine aZ hi ⟨rfl,.row t e' ver xs,hob',Nat.le_refl _,λ_ _=>⟨b,hb,by simp[AO.esize,hsz]⟩⟩
theorem t8 {T e:TypeId}{td te:TD}{x ix:Operand}{r ver sz:Nat}{e':TypeId}{cs:List AC}{k:IntKind}{i:Int}(ho:o.op= .indexAddr T x ix)(ht:aN C.P T=some td)(hk:td.k= .slice e)(hte:aN C.P e=some te)(hsz:te.size=sz)
 (hx':opn x= .one (.rwc r ver)) (hob:L0[r]? =some (.rowc e' sz ver cs)) (hi':opn ix= .one (.int k i)) (h0:0≤i) (h1:i*sz<cs.length):bG C L0 o opn {av:=.one (.ptr r ver i.toNat 0),fp:=[r]}:=by
 intro L σ w ρ hi hx hfp hlen;have hx1:=hx x (by simp[ho,Op.operands]);have hx2:=hx ix (by simp[ho,Op.operands]);rw[hx'] at hx1;rw[hi'] at hx2;have e2:ρ ix= .int k i:=hx2.2;have hob':L[r]? =some (.rowc e' sz ver cs):=by rw[hfp r η];exact hob
 obtain⟨ob,h2,h3,h4⟩:=hx1.2;rw[hob'] at h2;cases h2;obtain⟨_,e1⟩:=h4 rfl rfl;obtain⟨flat,n,h5,h6,h7,h8⟩:=hi.ob r _ hob';have hin:i<n:=by
  rw[h7] at h1;have h1':i*(sz:Int)<(n:Int)*(sz:Int):=by rw[← Int.natCast_mul];exact_mod_cast h1
  exact Int.lt_of_mul_lt_mul_right h1' ω
 have hne:∃ b,blk (σ r)=some b:=by
  rcases h5.2 with⟨_,h8⟩|⟨g,cap,cur,e3,_⟩
  ·omega
  ·exact⟨g,by rw[e3];rfl⟩
 obtain⟨b,hb⟩:=hne;obtain⟨cap,cur,e3,_⟩:=ik h5 hb;simp only[ho,execOp,e1,e2,e3,Φ,jQ ht hk hte b 0 _ cap k i h0 hin,Ψ,Ω,bI];refine aZ hi ⟨rfl,.rowc e' sz ver cs,hob',Nat.le_refl _,λ_ _=>⟨b,hb,by simp[AO.esize,hsz]⟩⟩
theorem uC {T e:TypeId}{td te:TD}{x ix:Operand}{r off n:Nat}{T':TypeId}{cs:List AC}{k:IntKind}{i:Int}(ho:o.op= .indexAddr T x ix)(ht:aN C.P T=some td)(hk:td.k= .array n e)(hte:aN C.P e=some te)
 (hx':opn x= .one (.ptr r 0 0 off)) (hob:L0[r]? =some (.vars T' cs)) (hi':opn ix= .one (.int k i)) (h0:0≤i) (h1:i<n) (hne:te.size≠0):bG C L0 o opn {av:=.one (.ptr r 0 0 (off+i.toNat*te.size)),fp:=[r]}:=by
 intro L σ w ρ hi hx hfp hlen;have hx1:=hx x (by simp[ho,Op.operands]);have hx2:=hx ix (by simp[ho,Op.operands]);rw[hx'] at hx1;rw[hi'] at hx2;have e2:ρ ix= .int k i:=hx2.2;have hob':L[r]? =some (.vars T' cs):=by rw[hfp r η];exact hob
 obtain⟨ob,h2,h3,h4⟩:=hx1.2;rw[hob'] at h2;cases h2;obtain⟨b,hb,e1⟩:=h4 rfl rfl;obtain⟨d,hd,hkd,hu⟩:=bS ht w;rw[hk] at hkd;have:=lK hkd;subst this;have hrun:(Instr.indexAt T (.pointer (some ⟨b,0*AO.esize (.vars T' cs)+off,none⟩)) (.int k i)).run C.P w= .ok (.pointer (some ⟨b,off+i.toNat*te.size,none⟩)) w:=by
  simp[Instr.indexAt,asIntOf,hd,h0,h1,bT hte,add_lit,Instr.sureAddr,hne]
 simp only[ho,execOp,e1,e2,Φ,hrun,Ψ,Ω,bI];refine aZ hi ⟨rfl,.vars T' cs,hob',Nat.le_refl _,λ_ _=>⟨b,hb,by simp[AO.esize]⟩⟩
end
end Go.AV
