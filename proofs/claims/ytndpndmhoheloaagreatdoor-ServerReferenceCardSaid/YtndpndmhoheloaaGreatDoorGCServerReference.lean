/- Part 4 of a proof of the law ServerReference: Go data as trees, the walks of the functions that the law reaches, the plain laws. -/
import Derived.Test.YtndpndmhoheloaaGreatDoorGBServerReference
import Derived.Laws.StructEq
import Derived.Laws.Cover3
import Derived.Laws.Entries
import Derived.Lib.Overlaps
open List renaming all_cons->aMi,all_eq_true->aNz,append_assoc->aOe,append_nil->aN9,drop_eq_getElem_cons->aOi,drop_zero->aOh,getD_eq_getElem?_getD->aNj,getElem?_append_left->aM0,getElem?_append_right->aM1,getElem?_cons_succ->aM8,getElem?_cons_zero->aNw,getElem?_eq_getElem->aNi,getElem?_map->aNg,getElem?_set_ne->aM5,getElem?_set_self->aM4,getElem?_toArray->aNf,getElem_cons_zero->aMn,getElem_mem->aNq,length_append->aNo,length_cons->aM7,length_drop->aNd,length_map->aMw,length_nil->aOa,length_take->aNe,map_append->aN3,map_cons->aNl,mem_append->aN0,mem_cons->aN2,mem_filter->aN5,mem_map->aNy,mem_range->aN6,mem_singleton->aN8,nil_append->aN7,replicate->aNb,set_append_right->aN4
open Nat renaming add_mul->aNu,add_zero->aNm,le_refl->aMq,le_trans->aMr,lt_or_ge->aMo,mul_le_mul_right->aNp,sub_self->aNt,zero_add->aNn
open Go.Sem renaming run_bind->aM9,run_pure->aNc
open Array renaming getD_eq_getD_getElem?->aMt,getElem?_eq_getElem->aMy,getElem?_eq_none->aMp,getElem?_setIfInBounds_ne->aMv,getElem?_setIfInBounds_self_of_lt->aMu,getElem?_toList->aNk,length_toList->aMx
open Bool renaming and_eq_true->aMj,eq_iff_iff->aN1,false_eq_true->aNh,not_eq_true'->aMk,not_false->aNx
open Option renaming bind_some->aM3,getD_some->aMz,isSome_some->aNv,map_none->aNr,map_some->aM6
open Go.Result renaming andThen_ok->aNa
set_option linter.unusedSectionVars false
set_option linter.unnecessarySimpa false
set_option linter.unusedVariables false
set_option linter.unusedSimpArgs false
namespace Go.Abs
structure aAu(P:Program)(N:Nat)(ops:Array Oper)(m:Nat)(S:List qP)(x:aJ×aH):Prop where
 ops_eq:∀i s,S[i]? =some s->ops.toList[m+i]? =some s.o
 rob:∀i s,S[i]? =some s->Rob P N ops s.o (cY (λj=>decide (j<m+i)) m S x).1 (cY (λj=>decide (j<m+i)) m S x).2 s.v s.eff s.rd
 own:∀s∈S,∀e∈s.eff,e.1∈s.rd
 apart:∀i j s s',i<j->S[i]? =some s->S[j]? =some s'->((cH ops.toList).getD (m+j) 0).testBit (m+i)=true\/((∀e∈s.eff,e.1∉s'.rd)/\∀e∈s'.eff,e.1∉s.rd)
section
variable{P:Program}{N nb:Nat}{ops:Array Oper}{S:List qP}{x:aJ×aH}
theorem NI{m:Nat}{K:Exit->Act->World->Prop}(hb:iR ops.toList=true)(hs:mH ops.toList (cH ops.toList)=true)(tr:aAu P N ops m S x)(hmS:m+S.length<=ops.size)
  (hbar:∀j i,m+S.length<=j->j<ops.size->m<=i->i<m+S.length->((cH ops.toList).getD j 0).testBit i=true) (E0:aK)
  (hnext:∀(fuel t:Nat) (listed:Array Bool) (E:aK) (a:Act),listed.size=ops.size->((List.range ops.size).filter λi=> !listed.getD i true).length<=fuel->(∀j,j<ops.size->listed.getD j false=decide (j<m+S.length))->
   E0.leN nb E->E.Ok->E.H=(cY (λ_=>true) m S x).2->eR E.view N a (cY (λ_=>true) m S x).1->wpOps P ops K (lH ops fuel t listed) a E.w):
  ∀(q fuel t:Nat) (listed:Array Bool) (E:aK) (a:Act),listed.size=ops.size->((List.range ops.size).filter λi=> !listed.getD i true).length<=fuel->((List.range ops.size).filter λi=> !listed.getD i true).length<=q->
   (∀j o,ops.toList[j]? =some o->listed.getD j false=true->∀e∈o.after.toList,Region.binds .any e=true->listed.getD e.on false=true)->
   (∀j,j<m->listed.getD j false=true)->(∀j,m+S.length<=j->listed.getD j false=false)->
   E0.leN nb E->E.Ok->E.H=(cY (λj=>listed.getD j false) m S x).2->eR E.view N a (cY (λj=>listed.getD j false) m S x).1->wpOps P ops K (lH ops fuel t listed) a E.w:=by
 intro q
 induction q with
 |zero=>
  intro fuel t listed E a hsz hcnt hq hcl hlo hhi hle ho hH ht;have hall:∀j,j<ops.size->listed.getD j false=true:=by
   intro j hj;cases hqq:listed.getD j false with
   |true=>rfl
   |false=>
    have hm:j∈(List.range ops.size).filter λi=> !listed.getD i true:=by
     rw[aN5];refine⟨aN6.2 z8, ?_⟩;rw[aMt,aMy z8]at hqq⊢;simpa using hqq
    have:=List.length_pos_of_mem hm;omega
  have hend:ops.size<=m+S.length:=by
   rcases aMo (m+S.length) ops.size with h|h
   ·have h1:=hall _ h;rw[hhi _ (aMq _)]at h1;cases h1
   ·exact h
  rw[iF (D':=λ_=>true) S m x (λj hj=>by simpa using hall (m+j) z8)]at hH ht;exact hnext fuel t listed E a hsz hcnt (λj hj=>by rw[hall j hj,decide_eq_true (by omega:j<m+S.length)]) hle ho hH ht
 |succ q ih=>
  intro fuel t listed E a hsz hcnt hq hcl hlo hhi hle ho hH ht
  by_cases hdone:∀j,j<m+S.length->listed.getD j false=true
  ·rw[iF (D':=λ_=>true) S m x (λj hj=>by simpa using hdone (m+j) z8)]at hH ht;refine hnext fuel t listed E a hsz hcnt (λj hj=> ?_) hle ho hH ht;rcases aMo j (m+S.length)with h|h
   ·rw[hdone j h,decide_eq_true h]
   ·rw[hhi j h,decide_eq_false z8]
  ·have hex:∃j,j<ops.size/\listed.getD j false=false:=by
    apply Classical.byContradiction;intro hno;apply hdone;intro j hj;cases hqq:listed.getD j false with
    |true=>rfl
    |false=>exact(hno ⟨j,z8,hqq⟩).elim
   obtain⟨j0,⟨hj0,hl0⟩,hmin⟩:=oZ hex;have hdT:∀(j:Nat),j<ops.size->∀b c:Bool,listed.getD j b=listed.getD j c:=by
    intro j hj b c;rw[aMt,aMt,aMy z8];rfl
   have hfuel:∃f,fuel=f+1:=by
    have hm:j0∈(List.range ops.size).filter λi=> !listed.getD i true:=by
     rw[aN5];exact⟨aN6.2 hj0,by rw[hdT j0 hj0 true false,hl0];rfl⟩
    have:=List.length_pos_of_mem hm;exact⟨fuel-1,z8⟩
   obtain⟨fuel,rfl⟩:=hfuel;unfold lH;have hready:cZ ops listed j0=true:=by
    unfold cZ;rw[hdT j0 hj0 true false,hl0,aMy hj0];simp only[aNx,Bool.true_and,aM6,aMz];rw[Array.all_eq_true'];intro e he;cases hbd:Region.binds .any e with
    |false=>rfl
    |true=>
     have hon:=iL hb (i:=j0) (o:=ops[j0]) (by simp[hj0]) (e:=e) (by simpa using he) hbd;simp only[Bool.not_true,Bool.false_or];cases hqq:listed.getD e.on false with
     |true=>rfl
     |false=>have:=hmin e.on ⟨z8,hqq⟩;omega
   have hne:(List.range ops.size).filter (cZ ops listed)≠ []:=by
    intro hnil;have:j0∈(List.range ops.size).filter (cZ ops listed):=aN5.2 ⟨aN6.2 hj0,hready⟩;rw[hnil]at this;cases this
   have hpos:0<((List.range ops.size).filter (cZ ops listed)).length:=List.length_pos_iff.2 hne;have hlt:=Nat.mod_lt t hpos;rw[aNi hlt];simp only;generalize hi:((List.range ops.size).filter (cZ ops listed))[t%((List.range ops.size).filter (cZ ops listed)).length]=i;have him:i∈(List.range ops.size).filter (cZ ops listed):=by rw[<-hi];exact aNq hlt
   obtain⟨him1,him2⟩:=aN5.1 him;rw[aN6]at him1;unfold cZ at him2;rw[hdT i him1 true false,aMy him1]at him2;simp only[aMj,aMk,aM6,aMz]at him2;obtain⟨hnl,hpre⟩:=him2;rw[Array.all_eq_true']at hpre;have hso0:ops.toList[i]? =some ops[i]:=by rw[aNk,aMy him1]
   have hprei:∀e∈(ops[i]).after.toList,Region.binds .any e=true->listed.getD e.on false=true:=by
    intro e he hbd;have:=hpre e (by simpa using he);rw[hbd]at this;simpa using this
   have hBfD:∀ {k j:Nat},Bf ops.toList k j->listed.getD j false=true->listed.getD k false=true:=λhbf hj=>hbf.closed (listed:=λj=>listed.getD j false) hcl hj;have hBfI:∀ {k:Nat},Bf ops.toList k i->listed.getD k false=true:=λhbf=>Bf.pre (listed:=λj=>listed.getD j false) (i:=i) (λj o hoo hj e he hbd=>by
    rcases hj with hj|rfl
    ·exact hcl j o hoo hj e he hbd
    ·rw[hso0]at hoo;cases hoo;exact hprei e he hbd) hbf
   have hbmB:∀ {k j:Nat},((cH ops.toList).getD j 0).testBit k=true->Bf ops.toList k j:=λh=>(lJ ops.toList _ ops.toList [] rfl zz).2 _ _ h;have hge:m<=i:=by
    rcases aMo i m with h|h
    ·rw[hlo i h]at hnl;cases hnl
    ·exact h
   have hltS:i<m+S.length:=by
    rcases aMo i (m+S.length)with h|h
    ·exact h
    ·exact(hdone λj hj=>by
      rcases aMo j m with h1|h1
      ·exact hlo j h1
      ·exact hBfI (hbmB (hbar i j h him1 h1 hj))).elim
   obtain⟨d,rfl⟩:∃d,i=m+d:=⟨i-m,z8⟩;obtain⟨s,hs_i⟩:∃s,S[d]? =some s:=⟨S[d]'z8,aNi _⟩;have hop:=tr.ops_eq;have hso:=hop d s hs_i;have hop_i:ops[m+d]? =some s.o:=by rw[aNk]at hso;exact hso
   have hso':ops[m+d]=s.o:=by rw[aMy him1]at hop_i;simpa using hop_i
   have hun1:∀j,m+d<j->listed.getD j false=true->((cH ops.toList).getD j 0).testBit (m+d)=false:=by
    intro j hij hj;cases hqq:((cH ops.toList).getD j 0).testBit (m+d)with
    |false=>rfl
    |true=>have:=hBfD (hbmB hqq) hj;rw[hnl]at this;cases this
   have hun2:∀k,k<m+d->listed.getD k false=false->((cH ops.toList).getD (m+d) 0).testBit k=false:=by
    intro k hki hk;cases hqq:((cH ops.toList).getD (m+d) 0).testBit k with
    |false=>rfl
    |true=>have:=hBfI (hbmB hqq);rw[hk]at this;cases this
   let D:Nat->Bool:=λj=>listed.getD j false
   have hslot:∀t∈pX ops.toList s.o,(cY D m S x).1 t=(cY (λj=>decide (j<m+d)) m S x).1 t:=by
    intro t htm;refine yW S m x x rfl (λj s' hj hD=> ?_);have hoj:=hop j s' hj
    by_cases hji:m+j<m+d
    ·have hDj:D (m+j)=false:=by
      cases hqq:D (m+j)with
      |false=>rfl
      |true=>rw[hqq]at hD;simp[hji]at hD
     exact(hP hs hji hoj hso (hun2 _ hji hDj)).2.1 t htm
    ·have hDj:D (m+j)=true:=by
      cases hqq:D (m+j)with
      |true=>rfl
      |false=>rw[hqq]at hD;simp[hji]at hD
     have hne:m+j≠m+d:=by intro e;rw[e,show D (m+d)=false from hnl]at hDj;cases hDj
     exact(hP hs (by omega:m+d<m+j) hso hoj (hun1 _ z8 hDj)).2.2 t htm
   have hheap:∀id∈s.rd,(cY D m S x).2[id]? =(cY (λj=>decide (j<m+d)) m S x).2[id]? :=by
    intro id hid;refine yH S m x x rfl rfl (λj s' hj hD e he heq=> ?_)
    by_cases hji:m+j<m+d
    ·have hDj:D (m+j)=false:=by
      cases hqq:D (m+j)with
      |false=>rfl
      |true=>rw[hqq]at hD;simp[hji]at hD
     rcases tr.apart j d s' s z8 hj hs_i with h|h
     ·rw[hun2 _ hji hDj]at h;cases h
     ·exact h.1 e he (heq▸hid)
    ·have hDj:D (m+j)=true:=by
      cases hqq:D (m+j)with
      |true=>rfl
      |false=>rw[hqq]at hD;simp[hji]at hD
     have hne:m+j≠m+d:=by intro e;rw[e,show D (m+d)=false from hnl]at hDj;cases hDj
     rcases tr.apart d j s s' z8 hs_i hj with h|h
     ·rw[hun1 _ z8 hDj]at h;cases h
     ·exact h.2 e he (heq▸hid)
   have hlenr:(cY D m S x).2.length=(cY (λj=>decide (j<m+d)) m S x).2.length:=by rw[tM,tM]
   have hins:cY (λj=>(listed.setIfInBounds (m+d) true).getD j false) m S x=s.app (cY D m S x):=by
    rw[<-tB D (i:=m+d) hnl S m x s z8 (by rw[show m+d-m=d by omega];exact hs_i)]
    ·refine iF S m x (λj hj=> ?_);simp only[D];rw[aMt,aMt]
     by_cases e:m+j=m+d
     ·rw[e,aMu z8];simp
     ·rw[aMv (λq=>e q.symm)];have:(m+j==m+d)=false:=by simpa using e
      rw[this];simp
    ·intro j s' hij hj hDj;have hb':=hun1 _ hij hDj;refine⟨(hP hs hij hso (hop j s' hj) hb').1,λe he y hy heq=> ?_⟩;rcases tr.apart d j s s' z8 hs_i hj with h|h
     ·rw[hb']at h;cases h
     ·exact h.1 e he (heq▸tr.own s' (List.mem_of_getElem? hj) y hy)
   have hcnt0:((List.range ops.size).filter λk=> !(listed.setIfInBounds (m+d) true).getD k true).length<((List.range ops.size).filter λk=> !listed.getD k true).length:=by
    have e1:(List.range ops.size).filter (λk=> !(listed.setIfInBounds (m+d) true).getD k true)=((List.range ops.size).filter λk=> !listed.getD k true).filter λk=>k != m+d:=by
     rw[List.filter_filter];apply List.filter_congr;intro k hk;rw[aMt,aMt]
     by_cases e:k=m+d
     ·rw[e,aMu z8];simp
     ·rw[aMv (λq=>e q.symm)];simp[e]
    rw[e1];refine List.length_filter_lt_length_iff_exists.2 ⟨m+d, ?_,zz⟩;rw[aN5];exact⟨aN6.2 him1,by rw[hdT _ him1 true false,hnl];rfl⟩
   have hup:∀k,listed.getD k false=true->(listed.setIfInBounds (m+d) true).getD k false=true:=by
    intro k hk;rw[aMt]at hk⊢
    by_cases q:k=m+d
    ·rw[q,aMu z8];rfl
    ·rw[aMv (λz=>q z.symm)];exact hk
   have hdn:∀k,k≠m+d->(listed.setIfInBounds (m+d) true).getD k false=listed.getD k false:=by
    intro k hk;rw[aMt,aMv (λz=>hk z.symm),<-aMt]
   have hcl':∀j o,ops.toList[j]? =some o->(listed.setIfInBounds (m+d) true).getD j false=true->∀e∈o.after.toList,Region.binds .any e=true->(listed.setIfInBounds (m+d) true).getD e.on false=true:=by
    intro j o hoo hj e he hbd;apply hup
    by_cases q:j=m+d
    ·subst q;rw[hso]at hoo;cases hoo;exact hprei e (by rw[hso'];exact he) hbd
    ·rw[hdn j q]at hj;exact hcl j o hoo hj e he hbd
   have hlo':∀j,j<m->(listed.setIfInBounds (m+d) true).getD j false=true:=λj hj=>hup j (hlo j hj);have hhi':∀j,m+S.length<=j->(listed.setIfInBounds (m+d) true).getD j false=false:=λj hj=>by rw[hdn j z8];exact hhi j hj
   have hrob:=tr.rob d s hs_i (cY D m S x).1 (cY D m S x).2 hslot hheap hlenr E a ho hH ht;refine DC hop_i ?_;rcases hrob with⟨hw,he0,hv0⟩| ⟨hw,hgo⟩
   ·rw[if_neg (by rw[hw];simp)];refine ih _ _ _ E _ (by simp[hsz]) z8 z8 hcl' hlo' hhi' hle ho ?_ ?_
    ·rw[hins];simp only[qP.app,he0,mS,List.foldl_nil];exact hH
    ·rw[hins];simp only[qP.app];rcases hv0 with e|e
     ·rw[e];exact ht.put s.o.dst (.junk _)
     ·rw[e];exact ht.put s.o.dst (.tup _ _ rfl (λi h=>absurd h zz))
   ·rw[if_pos hw];refine hgo _ _ (λE' val hle' ho' hH' hv'=> ?_);refine ih _ _ _ E' _ (by simp[hsz]) z8 z8 hcl' hlo' hhi' (hle.trans (hle'.leN nb)) ho' ?_ ?_
    ·rw[hins];simp only[qP.app];exact hH'
    ·rw[hins];simp only[qP.app];exact(ht.mono hle'.view).put s.o.dst hv'
def BU(P:Program)(N:Nat)(ops:Array Oper)(nx:aJ->aH->Prop):Nat->List Oper->gW->aJ->aH->Prop
 |_,[],_,T,H=>nx T H
 |k,o::l,prev,T,H=>∃v eff rd,Rob P N ops o T H v eff rd/\(∀e∈eff,e.1∈rd)/\
   (∀p∈prev,((cH ops.toList).getD k 0).testBit p.1=true\/((∀id∈p.2.2,id∉rd)/\∀e∈eff,e.1∉p.2.1))/\
   BU P N ops nx (k+1) l (prev++ [(k,rd,eff.map (·.1))]) (bT T o.dst v) (mS H eff)
theorem vN{nx:aJ->aH->Prop}{m:Nat}:∀(l:List Oper) (k:Nat) (prev:gW) (S0:List qP),m+S0.length=k->(∀i s,S0[i]? =some s->ops.toList[m+i]? =some s.o)->(∀i o,l[i]? =some o->ops.toList[k+i]? =some o)->
  (∀(i:Nat) (s:qP),S0[i]? =some s->Rob P N ops s.o (cY (λj=>decide (j<m+i)) m S0 x).1 (cY (λj=>decide (j<m+i)) m S0 x).2 s.v s.eff s.rd)->
  (∀s∈S0,∀e∈s.eff,e.1∈s.rd)->
  (∀(i j:Nat) (s s':qP),i<j->S0[i]? =some s->S0[j]? =some s'->((cH ops.toList).getD (m+j) 0).testBit (m+i)=true\/((∀e∈s.eff,e.1∉s'.rd)/\∀e∈s'.eff,e.1∉s.rd))->
  (∀(i:Nat) (s:qP),S0[i]? =some s->(m+i,s.rd,s.eff.map (·.1))∈prev)->
  BU P N ops nx k l prev (cY (λ_=>true) m S0 x).1 (cY (λ_=>true) m S0 x).2->
  ∃S,S.length=S0.length+l.length/\aAu P N ops m S x/\nx (cY (λ_=>true) m S x).1 (cY (λ_=>true) m S x).2
 | [],k,prev,S0,hk,ho,ho2,h1,h2,h3,h4,hd=>⟨S0,rfl,⟨ho,h1,h2,h3⟩,hd⟩
 |o::l,k,prev,S0,hk,ho,ho2,h1,h2,h3,h4,hd=>by
  obtain⟨v,eff,rd,hr,how,hap,hd'⟩:=hd
  let s:qP:=⟨o,v,eff,rd⟩
  have hpre:∀i,m+i<=k->cY (λj=>decide (j<m+i)) m (S0++ [s]) x=cY (λj=>decide (j<m+i)) m S0 x:=by
   intro i hi;rw[oE];exact oY _ _ _ (λj hj=>by simp at hj;subst hj;simp;omega)
  have hfull:cY (λj=>decide (j<k)) m S0 x=cY (λ_=>true) m S0 x:=iF S0 m x (λj hj=>by simp;omega);have hext:cY (λ_=>true) m (S0++ [s]) x=s.app (cY (λ_=>true) m S0 x):=by
   rw[oE];rfl
  have hk1:m+(S0++ [s]).length=k+1:=by rw[aNo,List.length_singleton];omega
  have key:=vN l (k+1) (prev++ [(k,rd,eff.map (·.1))]) (S0++ [s]) hk1 ?_ (λi o' h=>by have:=ho2 (i+1) o' (by simpa using h);rw[show k+1+i=k+(i+1)by omega];exact this) ?_ ?_ ?_ ?_ (by rw[hext];exact hd')
  ·obtain⟨S,q1,q2,q3⟩:=key;refine⟨S, ?_,q2,q3⟩;rw[q1,aNo,List.length_singleton,aM7];omega
  ·intro i s' hs'
   by_cases hi:i<S0.length
   ·rw[aM0 hi]at hs';exact ho i s' hs'
   ·have hik:i=S0.length:=by have:=lG hs';simp at this;omega
    subst hik;rw[aM1 (aMq _)]at hs';simp at hs';subst hs';have:=ho2 0 o rfl;rw[hk];simpa using this
  ·intro i s' hs'
   by_cases hi:i<S0.length
   ·rw[aM0 hi]at hs';rw[hpre i z8];exact h1 i s' hs'
   ·have hik:i=S0.length:=by have:=lG hs';simp at this;omega
    subst hik;rw[aM1 (aMq _)]at hs';simp at hs';subst hs';rw[hpre _ z8,hk,hfull];exact hr
  ·intro s' hs';rcases aN0.1 hs' with hs'|hs'
   ·exact h2 s' hs'
   ·simp at hs';subst hs';exact how
  ·intro i j s1 s2 hij hs1 hs2;have hi:i<S0.length:=by have:=lG hs2;simp at this;omega
   rw[aM0 hi]at hs1
   by_cases hj:j<S0.length
   ·rw[aM0 hj]at hs2;exact h3 i j s1 s2 hij hs1 hs2
   ·have hjk:j=S0.length:=by have:=lG hs2;simp at this;omega
    subst hjk;rw[aM1 (aMq _)]at hs2;simp at hs2;subst hs2;rw[hk];rcases hap _ (h4 i s1 hs1)with h|h
    ·exact .inl h
    ·refine .inr ⟨λe he=>h.1 _ (aNy.2 ⟨e,he,rfl⟩),h.2⟩
  ·intro i s' hs'
   by_cases hi:i<S0.length
   ·rw[aM0 hi]at hs';exact aN0.2 (.inl (h4 i s' hs'))
   ·have hik:i=S0.length:=by have:=lG hs';simp at this;omega
    subst hik;rw[aM1 (aMq _)]at hs';simp at hs';subst hs';exact aN0.2 (.inr (by simp[s,hk]))
def iP(P:Program)(N nb:Nat)(ops:Array Oper)(Q:cT)(k:Nat)(T:aJ)(H:aH):Prop:=
 ∀(E0:aK) (fuel t:Nat) (listed:Array Bool) (E:aK) (a:Act),listed.size=ops.size->((List.range ops.size).filter λi=> !listed.getD i true).length<=fuel->(∀j,j<ops.size->listed.getD j false=decide (j<k))->
  E0.leN nb E->E.Ok->E.H=H->eR E.view N a T->wpOps P ops (qG N nb E0 Q) (lH ops fuel t listed) a E.w
variable{Q:cT}{T:aJ}{H:aH}
theorem pS{k:Nat}{listed:Array Bool}(hb:iR ops.toList=true)(hsz:listed.size=ops.size)(hl:∀j,j<ops.size->listed.getD j false=decide (j<k)):
  ∀j o,ops.toList[j]? =some o->listed.getD j false=true->∀e∈o.after.toList,Region.binds .any e=true->listed.getD e.on false=true:=by
 intro j o hj hlj e he hbd;have hjs:j<ops.size:=by have:=lG hj;simpa using this
 have hon:=iL hb hj he hbd;rw[hl j hjs]at hlj;have:=of_decide_eq_true hlj;rw[hl e.on z8,decide_eq_true (by omega:e.on<k)]
theorem eV(h:Q .normal T H):iP P N nb ops Q ops.size T H:=by
 intro E0 fuel t listed E a hsz hcnt hl hle ho hH ht;have hrs:(List.range ops.size).filter (cZ ops listed)= []:=by
  rw[List.filter_eq_nil_iff];intro j hj;rw[aN6]at hj;have:=hl j hj;rw[decide_eq_true hj,aMt,aMy z8]at this;unfold cZ;rw[aMt,aMy z8];simp only[aMz]at this⊢;simp[this]
 have hnil:lH ops fuel t listed= []:=by
  cases fuel with
  |zero=>rfl
  |succ f=>unfold lH;rw[hrs];rfl
 rw[hnil];exact⟨E,T,rfl,hle,ho,ht,hH▸h⟩
theorem MS{m n:Nat}(hb:iR ops.toList=true)(hs:mH ops.toList (cH ops.toList)=true)(hn:m+n<=ops.size)
  (hbar:((List.range ops.size).all λj=>decide (j<m+n)||(List.range n).all λi=>((cH ops.toList).getD j 0).testBit (m+i))=true)
  (h:BU P N ops (iP P N nb ops Q (m+n)) m ((ops.toList.drop m).take n) [] T H):iP P N nb ops Q m T H:=by
 intro E0 fuel t listed E a hsz hcnt hl hle ho hH ht;obtain⟨S,q1,q2,q3⟩:=vN (x:=(T,H)) (m:=m) _ m [] [] zz (λi s h=>by simp at h) (λi o h=>by
  rw[List.getElem?_take]at h
  split at h
  ·rw[List.getElem?_drop]at h;exact h
  ·cases h) (λi s h=>by simp at h) (λs h=>by simp at h) (λi j s s' _ h=>by simp at h) (λi s h=>by simp at h) h
 have hlen:S.length=n:=by rw[q1];simp;omega
 have hbar':∀j i,m+S.length<=j->j<ops.size->m<=i->i<m+S.length->((cH ops.toList).getD j 0).testBit i=true:=by
  intro j i h1 h2 h3 h4;rw[aNz]at hbar;have:=hbar j (aN6.2 h2);rw[decide_eq_false (by omega:¬j<m+n),Bool.false_or,aNz]at this;have:=this (i-m) (aN6.2 z8)
  rwa [show m+(i-m)=i by omega]at this
 have hD:cY (λj=>listed.getD j false) m S (T,H)=(T,H):=oY S m _ λj hj=>by rw[hl _ z8];exact decide_eq_false z8
 refine NI hb hs q2 z8 hbar' E0 ?_ _ fuel t listed E a hsz hcnt (aMq _) (pS hb hsz hl) (λj hj=>by rw[hl j z8];exact decide_eq_true hj) ?_ hle ho (by rw[hD];exact hH) (by rw[hD];exact ht)
 ·intro fuel t listed E a hsz hcnt hl hle ho hH ht;rw[hlen]at hl;exact q3 E0 fuel t listed E a hsz hcnt hl hle ho hH ht
 ·intro j hj;rcases aMo j ops.size with h|h
  ·rw[hl j h];exact decide_eq_false z8
  ·rw[aMt,aMp z8];rfl
theorem aC9{k:Nat}{o:Oper}(hb:iR ops.toList=true)(hok:ops.toList[k]? =some o)
  (hbar:((List.range ops.size).all λj=>decide (j<=k)||((cH ops.toList).getD j 0).testBit k)=true)
  (h:bC P N nb ops (bQ (iP P N nb ops Q (k+1)) Q) [o] T H):iP P N nb ops Q k T H:=by
 intro E0 fuel t listed E a hsz hcnt hl hle ho hH ht;have hk:k<ops.size:=by have:=lG hok;simpa using this
 have hdT:∀(j:Nat),j<ops.size->∀b c:Bool,listed.getD j b=listed.getD j c:=by
  intro j hj b c;rw[aMt,aMt,aMy z8];rfl
 have hcl:=pS hb hsz hl;have hok':ops[k]? =some o:=by rw[aNk]at hok;exact hok
 have hbar':∀j,k<j->j<ops.size->((cH ops.toList).getD j 0).testBit k=true:=by
  intro j h1 h2;rw[aNz]at hbar;have:=hbar j (aN6.2 h2)
  rwa [decide_eq_false (by omega:¬j<=k),Bool.false_or]at this
 have hready:∀j,j<ops.size->cZ ops listed j=decide (j=k):=by
  intro j hj;rcases Nat.lt_trichotomy j k with hlt|rfl|hgt
  ·rw[decide_eq_false (by omega:¬j=k)];unfold cZ;rw[hdT j hj true false,hl j hj,decide_eq_true hlt];rfl
  ·rw[decide_eq_true rfl];unfold cZ;rw[hdT j hj true false,hl j hj,decide_eq_false (Nat.lt_irrefl _),aMy hj];simp only[aNx,Bool.true_and,aM6,aMz];rw[Array.all_eq_true'];intro e he;cases hbd:Region.binds .any e with
   |false=>rfl
   |true=>
    have hon:=iL hb (i:=j) (o:=ops[j]) (by simp[hj]) (e:=e) (by simpa using he) hbd;rw[hl e.on z8,decide_eq_true hon];rfl
  ·rw[decide_eq_false (by omega:¬j=k)];cases hr:cZ ops listed j with
   |false=>rfl
   |true=>
    unfold cZ at hr;rw[hdT j hj true false,aMy hj]at hr;simp only[aMj,aMk,aM6,aMz]at hr;obtain⟨_,hpre⟩:=hr;rw[Array.all_eq_true']at hpre;have hso0:ops.toList[j]? =some ops[j]:=by rw[aNk,aMy hj]
    have hbf:Bf ops.toList k j:=(lJ ops.toList _ ops.toList [] rfl zz).2 _ _ (hbar' j hgt hj);have:=Bf.pre (listed:=λj=>listed.getD j false) (i:=j) (λj' o' hoo hj' e he hbd=>by
     rcases hj' with hj'|rfl
     ·exact hcl j' o' hoo hj' e he hbd
     ·rw[hso0]at hoo;cases hoo;have:=hpre e (by simpa using he);rw[hbd]at this;simpa using this) hbf
    rw[hl k hk,decide_eq_false (Nat.lt_irrefl _)]at this;cases this
 have hfilt:(List.range ops.size).filter (cZ ops listed)= [k]:=by
  have e1:(List.range ops.size).filter (cZ ops listed)=(List.range ops.size).filter (λj=>decide (j=k)):=List.filter_congr λj hj=>hready j (aN6.1 hj);rw[e1];have hnd:((List.range ops.size).filter λj=>decide (j=k)).Nodup:=List.nodup_range.sublist List.filter_sublist;have hm:∀x,x∈(List.range ops.size).filter (λj=>decide (j=k))↔x=k:=by
   intro x;rw[aN5,aN6];constructor
   ·rintro⟨_,h⟩;exact of_decide_eq_true h
   ·rintro rfl;exact⟨hk,decide_eq_true rfl⟩
  generalize (List.range ops.size).filter (λj=>decide (j=k))=L at hnd hm
  match L,hnd,hm with
  | [],_,hm=>exact absurd ((hm k).2 rfl) zz
  | [x],_,hm=>rw[(hm x).1 zz]
  |x::y::l,hnd,hm=>
   have h1:=(hm x).1 zz;have h2:=(hm y).1 zz;rw[List.nodup_cons]at hnd;exact absurd (by rw[h1,h2];simp) hnd.1
 have hfuel:∃f,fuel=f+1:=by
  have hm:k∈(List.range ops.size).filter λi=> !listed.getD i true:=by
   rw[aN5];exact⟨aN6.2 hk,by rw[hdT k hk true false,hl k hk,decide_eq_false (Nat.lt_irrefl _)];rfl⟩
  have:=List.length_pos_of_mem hm;exact⟨fuel-1,z8⟩
 obtain⟨fuel,rfl⟩:=hfuel;unfold lH;rw[hfilt];simp only[List.length_singleton,Nat.mod_one,aNw,Nat.div_one];have hgk:listed.getD k true=false:=by rw[hdT k hk true false,hl k hk,decide_eq_false (Nat.lt_irrefl _)]
 have hsz':(listed.setIfInBounds k true).size=ops.size:=by simp[hsz]
 have hl':∀j,j<ops.size->(listed.setIfInBounds k true).getD j false=decide (j<k+1):=by
  intro j hj;rw[aMt]
  by_cases e:j=k
  ·subst e;rw[aMu z8,decide_eq_true (by omega:j<j+1)];rfl
  ·rw[aMv (λq=>e q.symm),<-aMt,hl j hj]
   by_cases h:j<k
   ·rw[decide_eq_true h,decide_eq_true (by omega:j<k+1)]
   ·rw[decide_eq_false h,decide_eq_false (by omega:¬j<k+1)]
 have hcnt':((List.range ops.size).filter λi=> !(listed.setIfInBounds k true).getD i true).length<=fuel:=by
  have e1:(List.range ops.size).filter (λj=> !(listed.setIfInBounds k true).getD j true)=((List.range ops.size).filter λj=> !listed.getD j true).filter λj=>j != k:=by
   rw[List.filter_filter];apply List.filter_congr;intro j hj;rw[aMt,aMt]
   by_cases e:j=k
   ·rw[e,aMu z8];simp
   ·rw[aMv (λq=>e q.symm)];simp[e]
  have hm:k∈(List.range ops.size).filter λi=> !listed.getD i true:=by
   rw[aN5];exact⟨aN6.2 hk,by rw[hgk];rfl⟩
  have:((List.range ops.size).filter λi=> !(listed.setIfInBounds k true).getD i true).length<((List.range ops.size).filter λi=> !listed.getD i true).length:=by
   rw[e1];exact List.length_filter_lt_length_iff_exists.2 ⟨k,hm,zz⟩
  omega
 have hgo:=h E a ho hH ht;unfold wpList at hgo;unfold wpOps;rw[hok'];simp only;have hnorm:∀a w,qG N nb E (bQ (iP P N nb ops Q (k+1)) Q) .normal a w->wpOps P ops (qG N nb E0 Q) (lH ops fuel t (listed.setIfInBounds k true)) a w:=by
  rintro a w ⟨E',T',rfl,h2,h3,h4,h5⟩;exact h5 E0 fuel t _ E' a hsz' hcnt' hl' (hle.trans h2) h3 rfl h4
 have hbad:∀e a w,e≠ .normal->qG N nb E (bQ (iP P N nb ops Q (k+1)) Q) e a w->qG N nb E0 Q e a w:=by
  intro e a w hne hx;obtain⟨E',T',h1,h2,h3,h4,h5⟩:=hx;refine⟨E',T',h1,hle.trans h2,h3,h4, ?_⟩;cases e with
  |normal=>exact(hne rfl).elim
  |_=>exact h5
 have hout:LetsOut (qG N nb E (bQ (iP P N nb ops Q (k+1)) Q))->LetsOut (qG N nb E0 Q):=λ⟨a,w,x⟩=>⟨a,w,hbad _ _ _ zz x⟩
 split at hgo
 ·rename_i hw;rw[if_pos hw];rcases hgo with hgo| ⟨h1,h2⟩
  ·left;unfold Oper.wp at hgo⊢;generalize (execOp a.eval o).run P E.w=r at hgo⊢;unfold Oper.upon at hgo⊢
   split at hgo
   ·exact hnorm _ _ hgo
   ·exact hnorm _ _ hgo
   ·exact hnorm _ _ hgo
   ·refine hgo.mono λe w'' he=> ?_;cases e with
    |returned v=>exact hnorm _ _ he
    |panicked ch=>exact hbad _ _ _ zz he
    |outgrown=>exact hout he
   ·exact hgo.mono λv w'' he=>hnorm _ _ he
   ·exact hbad _ _ _ zz hgo
   ·exact hgo.elim
  ·exact .inr ⟨h1,hout h2⟩
 ·rename_i hw;rw[if_neg hw];exact hnorm _ _ hgo
theorem dV{id:Nat}(n:Nat)(hok:kT P ops.toList=true)(h:iP P N nb ops Q 0 T (H++aNb n .unborn)):fO P N nb (.region id ops true) Q T H:=by
 refine AX n ?_;unfold kT at hok;simp only[aMj]at hok;intro E a ho hH ht;refine wp_region_draw λt=> ?_;rw[hok.1.1];simp only[Region.schedule,Bool.true_or,if_true,Region.linearise,NH,List.reverse_nil,aN7];refine h E ops.size t (Array.replicate ops.size false) E.drew a zz (aMr (List.length_filter_le _ _) zz) (λj hj=> ?_) (E.drew_le.leN nb) ho.drew hH ht;rw[aMt,aMy (by simpa using hj)];simp
theorem xD{nx:aJ->aH->Prop}:∀(l:List Oper) (k:Nat) (prev:gW) (T:aJ) (H:aH),mI P N ops (λ_=>nx) k l prev T H->BU P N ops nx k l prev T H
 | [],_,_,_,_,h=>h
 |o::l,k,prev,T,H,⟨v,eff,rd,h1,h2,h3,h4⟩=>⟨v,eff,rd,h1,h2,h3,xD l _ _ _ _ h4⟩
def OE(m n:Nat):Nat->List Nat->Bool
 |_,[]=>true
 |j,b::l=>(Nat.blt j (m+n)||Nat.beq ((b/2^m)%2^n) (2^n-1))&&OE m n (j+1) l
theorem rH{m n:Nat}:∀(l:List Nat) (j0:Nat),OE m n j0 l=true->∀j,j<l.length->m+n<=j0+j->∀i,i<n->(l.getD j 0).testBit (m+i)=true
 | [],j0,h,j,hj,_,i,hi=>absurd hj zz
 |b::l,j0,h,j,hj,hm,i,hi=>by
  simp only[OE,aMj,Bool.or_eq_true]at h;cases j with
  |zero=>
   rcases h.1 with h1|h1
   ·have:j0<m+n:=by simpa[Nat.blt_eq]using h1
    omega
   ·have h2:(b/2^m)%2^n=2^n-1:=by simpa using h1
    have h3:=congrArg (λz=>Nat.testBit z i) h2;simp only[Nat.testBit_mod_two_pow,Nat.testBit_two_pow_sub_one,hi,decide_true,Bool.true_and,Nat.testBit_div_two_pow]at h3;rw[List.getD_cons_zero,Nat.add_comm];exact h3
  |succ j=>
   rw[List.getD_cons_succ];exact rH l (j0+1) h.2 j (by simpa using hj) z8 i hi
theorem rS(l:List Oper):(cH l).length=l.length:=(lJ l _ l [] rfl zz).1
theorem tO{m:Nat}(n:Nat){bm:List Nat}(hok:kT P ops.toList=true)(hn:decide (m+n<=ops.size)=true)(hbm:cH ops.toList=bm)(hbar:OE m n 0 bm=true)
  (h:mI P N ops (λ_=>iP P N nb ops Q (m+n)) m ((ops.toList.drop m).take n) [] T H):iP P N nb ops Q m T H:=by
 unfold kT at hok;simp only[aMj]at hok;refine MS hok.1.2 hok.2 (of_decide_eq_true hn) ?_ (xD _ _ _ _ _ h);rw[hbm,aNz];intro j hj;have hlen:bm.length=ops.size:=by rw[<-hbm,rS];simp
 rcases aMo j (m+n)with h|h
 ·rw[decide_eq_true h];rfl
 ·rw[decide_eq_false (by omega:¬j<m+n),Bool.false_or,aNz];intro i hi;exact rH bm 0 hbar j (by rw[hlen];exact aN6.1 hj) z8 i (aN6.1 hi)
theorem gJ{k:Nat}{o:Oper}{bm:List Nat}(hok:kT P ops.toList=true)(ho:ops.toList[k]? =some o)(hbm:cH ops.toList=bm)(hbar:OE k 1 0 bm=true)
  (h:bC P N nb ops (bQ (iP P N nb ops Q (k+1)) Q) [o] T H):iP P N nb ops Q k T H:=by
 unfold kT at hok;simp only[aMj]at hok;refine aC9 hok.1.2 ho ?_ h;rw[hbm,aNz];intro j hj;have hlen:bm.length=ops.size:=by rw[<-hbm,rS];simp
 rcases aMo k j with h|h
 ·rw[decide_eq_false (by omega:¬j<=k),Bool.false_or];exact rH bm 0 hbar j (by rw[hlen];exact aN6.1 hj) z8 0 z8
 ·rw[decide_eq_true h];rfl
theorem iP.weak{k:Nat}{T2:aJ}(h:iP P N nb ops Q k T2 H)(hw:∀i,T2 i= .junk\/T2 i=T i):iP P N nb ops Q k T H:=
 λE0 fuel t listed E a hsz hcnt hl hle ho hH ht=>h E0 fuel t listed E a hsz hcnt hl hle ho hH (mL ht hw)
theorem BU.mono{nx nx':aJ->aH->Prop}(hn:∀T H,nx T H->nx' T H):∀(l:List Oper) (k:Nat) (prev:gW) (T:aJ) (H:aH),BU P N ops nx k l prev T H->BU P N ops nx' k l prev T H
 | [],_,_,_,_,h=>hn _ _ h
 |o::l,k,prev,T,H,⟨v,eff,rd,h1,h2,h3,h4⟩=>⟨v,eff,rd,h1,h2,h3,BU.mono hn l _ _ _ _ h4⟩
theorem eZ{m:Nat}(n:Nat){bm:List Nat}(hok:kT P ops.toList=true)(hn:decide (m+n<=ops.size)=true)(hbm:cH ops.toList=bm)(hbar:OE m n 0 bm=true)
  (h:DP P N ops (λ_=>iP P N nb ops Q (m+n)) m ((ops.toList.drop m).take n) (hZ (.tup []) T BX) H):iP P N nb ops Q m T H:=by
 have hok':=hok;unfold kT at hok';simp only[aMj]at hok';refine MS hok'.1.2 hok'.2 (of_decide_eq_true hn) ?_ ?_
 ·rw[hbm,aNz];intro j hj;have hlen:bm.length=ops.size:=by rw[<-hbm,rS];simp
  rcases aMo j (m+n)with h|h
  ·rw[decide_eq_true h];rfl
  ·rw[decide_eq_false (by omega:¬j<m+n),Bool.false_or,aNz];intro i hi;exact rH bm 0 hbar j (by rw[hlen];exact aN6.1 hj) z8 i (aN6.1 hi)
 ·refine BU.mono ?_ _ _ _ _ _ (xD _ _ _ _ _ (h [] (by intro p hp;cases hp)));rintro T1 H1 ⟨T2,h1,h2⟩;exact h2.weak h1
end
set_option linter.unusedSectionVars false
def LX:AObj:=.glob 0 []
def aK.frz1(E:aK)(id:Nat):aK:= {E with κ:=λb=>if b=E.ρ id then .fixed else E.κ b,H:=E.H.set id LX}
section
variable{E:aK}(ho:E.Ok){id:Nat}{cs:List PV}(hid:E.H[id]? =some (.row cs))
include ho hid
theorem aK.frz1_mut:E.κ (E.ρ id)= .mut:=by obtain⟨_,_,_,_,_,h⟩:=ho.rows id cs hid;exact h
theorem aK.frz1_get{x:Nat}(hx:x≠id):(E.frz1 id).H[x]? =E.H[x]? :=by
 show(E.H.set id LX)[x]? =_;rw[aM5 (Ne.symm hx)]
theorem aK.frz1_at:(E.frz1 id).H[id]? =some LX:=by
 show(E.H.set id LX)[id]? =_;rw[aM4 (lG hid)]
theorem aK.frz1_row{x:Nat}{r:List PV}(h:(E.frz1 id).H[x]? =some (.row r)):x≠id/\E.H[x]? =some (.row r):=by
 by_cases e:x=id
 ·subst e;rw[aK.frz1_at ho hid]at h;cases h
 ·exact⟨e,by rw[<-aK.frz1_get ho hid e];exact h⟩
theorem aK.frz1_buf{x n sz:Nat}(h:(E.frz1 id).H[x]? =some (.buf n sz)):E.H[x]? =some (.buf n sz):=by
 by_cases e:x=id
 ·subst e;rw[aK.frz1_at ho hid]at h;cases h
 ·rw[<-aK.frz1_get ho hid e];exact h
theorem aK.frz1_obj{x:Nat}{k:rA}(h:(E.frz1 id).H[x]? =some (.obj k)):x≠id/\E.H[x]? =some (.obj k):=by
 by_cases e:x=id
 ·subst e;rw[aK.frz1_at ho hid]at h;cases h
 ·exact⟨e,by rw[<-aK.frz1_get ho hid e];exact h⟩
theorem aK.frz1_cell(a:Addr)(v:Value)(h:E.view.cell a=some v):(E.frz1 id).view.cell a=some v:=by
 simp only[aK.view]at h⊢
 split at h
 ·rename_i hs;have:((E.frz1 id).κ a.block).stable a.off=true:=by
   simp only[aK.frz1]
   split
   ·rfl
   ·exact hs
  rw[if_pos this];exact h
 ·cases h
theorem aK.frz1_view:E.view.le (E.frz1 id).view:=by
 refine⟨aK.frz1_cell ho hid,λx ⟨o,h1,h2⟩=> ?_,λx _=>rfl,λx t' _ ht=>⟨t', ?_, .inl rfl⟩⟩
 ·by_cases e:x=id
  ·subst e;exact⟨LX,aK.frz1_at ho hid,by simp[LX]⟩
  ·exact⟨o,by rw[aK.frz1_get ho hid e];exact h1,h2⟩
 ·simp only[aK.view]at ht⊢
  by_cases e:x=id
  ·subst e;rw[aK.frz1_at ho hid]at ht;simp[LX]at ht
  ·rw[aK.frz1_get ho hid e]at ht;cases hx:E.H[x]? with
   |none=>rw[hx]at ht;simp at ht
   |some o=>
    rw[hx]at ht;cases o with
    |buf n sz=>
     simp only at ht⊢;rw[<-ht];show some (VH.mk n sz ((E.tb x).bind _))=some (VH.mk n sz ((E.tb x).bind _));cases htb:E.tb x with
     |none=>rfl
     |some b=>
      simp only[aM3];obtain⟨_,_,pos,_,hk⟩:=ho.bufs x n sz b hx htb;have hne:b≠E.ρ id:=λe=>by rw[e,aK.frz1_mut ho hid]at hk;cases hk
      have:(E.frz1 id).κ b=E.κ b:=by simp only[aK.frz1];rw[if_neg hne]
      rw[this]
    |_=>simp at ht
theorem aK.frz1_le:E.le (E.frz1 id):=by
 refine⟨rfl,rfl,rfl,aMq _,λb hb h1=>⟨?_,rfl⟩,aK.frz1_view ho hid,λb hb=> ?_⟩
 ·simp only[aK.frz1];rw[if_neg];rintro rfl;exact h1 (.inl ⟨id,cs,hid,rfl⟩)
 ·rintro(⟨x,r,h1,h2⟩| ⟨x,n,sz,h1,h2⟩| ⟨x,k,h1,h2⟩)
  ·exact .inl ⟨x,r,(aK.frz1_row ho hid h1).2,h2⟩
  ·exact .inr (.inl ⟨x,n,sz,aK.frz1_buf ho hid h1,h2⟩)
  ·exact .inr (.inr ⟨x,k,(aK.frz1_obj ho hid h1).2,h2⟩)
theorem aK.Ok.frz1:(E.frz1 id).Ok:=by
 have hv:=aK.frz1_view ho hid;refine⟨?_, ?_, ?_, ?_, ?_,⟨?_, ?_⟩⟩
 ·intro x r hx;obtain⟨hne,hx⟩:=aK.frz1_row ho hid hx;obtain⟨arr,el,h1,h2,h3,h4⟩:=ho.rows x r hx;refine⟨arr,el,h1,h2,λi hi=>(h3 i hi).mono hv, ?_⟩;show(if E.ρ x=E.ρ id then rN.fixed else E.κ (E.ρ x))= .mut;rw[if_neg λe=>hne (ho.injr x id r cs hx hid e)];exact h4
 ·intro x n sz b hx hb;have hx:=aK.frz1_buf ho hid hx;obtain⟨arr,el,pos,h1,h2⟩:=ho.bufs x n sz b hx hb;refine⟨arr,el,pos,h1, ?_⟩;show(if b=E.ρ id then rN.fixed else E.κ b)=_;rw[if_neg λe=>by rw[e,aK.frz1_mut ho hid]at h2;cases h2];exact h2
 ·intro x x' r r' hx hx' e;exact ho.injr x x' r r' (aK.frz1_row ho hid hx).2 (aK.frz1_row ho hid hx').2 e
 ·intro x x' n sz n' sz' b hx hx' hb hb';exact ho.injb x x' n sz n' sz' b (aK.frz1_buf ho hid hx) (aK.frz1_buf ho hid hx') hb hb'
 ·intro x b vs hx i hi
  by_cases e:x=id
  ·subst e;rw[aK.frz1_at ho hid]at hx;injection hx with hx;injection hx with _ hx;subst hx;exact absurd hi (Nat.not_lt_zero _)
  ·rw[aK.frz1_get ho hid e]at hx;exact hv.cell _ _ (ho.globs x b vs hx i hi)
 ·intro x k hx;obtain⟨hne,hx⟩:=aK.frz1_obj ho hid hx;obtain⟨⟨o,h1,h2⟩,h3⟩:=ho.objs.at_ x k hx;refine⟨⟨o,h1,h2.mono hv⟩, ?_⟩;show(if E.ρ x=E.ρ id then rN.fixed else E.κ (E.ρ x))= .mut;rw[if_neg λe=>by
   obtain⟨arr,el,a1,_⟩:=ho.rows id cs hid;rw[e,a1]at h1;cases h1;exact h2.cells]
  exact h3
 ·intro x x' k k' hx hx' e;exact ho.objs.inj x x' k k' (aK.frz1_obj ho hid hx).2 (aK.frz1_obj ho hid hx').2 e
end
theorem aK.frz1_msl{E:aK}(ho:E.Ok){v:Value}{id k c sz:Nat}{es:List PV}(h:aQ E.view v (.msl id 0 k c))(hrow:E.H[id]? =some (.row (aL es)))(hk:k<=es.length)(hkc:k<=c)
  (hes:∀e∈es,e.cells.length=sz):aQ (E.frz1 id).view v (.slice (es.take k) .none):=by
 obtain⟨arr,elem,h1,h2,h3,h4⟩:=ho.rows id _ hrow;have hv:=aK.frz1_view ho hrow;cases h with
 |msl _ _ _ _ hbn hm=>
  have hlenf:=cE es hes;have hfix:(E.frz1 id).κ (E.ρ id)= .fixed:=by simp[aK.frz1]
  have hadd:∀n,(⟨E.ρ id,0,none⟩:Addr).add n=⟨E.ρ id,n,none⟩:=by
   intro n;rw[dH];simp
  have hbound:∀i j,i<k->j<sz->i*sz+j<es.length*sz:=by
   intro i j hi hj;have:(i+1)*sz<=es.length*sz:=aNp _ z8;rw[aNu]at this;omega
  refine .slice _ k c sz (es.take k) .none (λi j=>arr.getD (i*sz+j) undef) (by rw[aNe];omega) hkc hm (λi hi=> ?_) (λi j hi hj=> ?_) (λi j hi hj=> ?_) trivial
  ·rw[List.getElem_take];exact hes _ (aNq _)
  ·show(E.frz1 id).view.cell ((⟨E.ρ id,0,none⟩:Addr).add (i*sz+j))=_;rw[hadd];simp only[aK.view,hfix,rN.stable,if_true];show E.w.cell? _=_;have:=hbound i j hi hj;rw[kF h1,aMt,aMy z8];rfl
  ·have hi':i<es.length:=by rw[aNe]at hi;omega
   simp only[List.getElem_take]at hj⊢;have hj':j<sz:=by rw[hes _ (aNq hi')]at hj;exact hj
   have hb:=hbound i j (by rw[aNe]at hi;omega) hj';have hf:i*sz+j<(aL es).length:=by rw[hlenf];exact hb
   have hr:=(h3 (i*sz+j) hf).mono hv;have he:(aL es)[i*sz+j]=(es[i].cells)[j]:=by
    have hget:=lN es hes i j hi' hj';rw[aNi hf,aNi (by rw[hes _ (aNq _)];exact hj')]at hget;exact Option.some.inj hget
   rw[he]at hr;exact hr
inductive Fz(id k:Nat)(es:List PV):PV->PV->Prop
 |same (p:PV):Fz id k es p p
 |msl (c:Nat) (h:k<=c):Fz id k es (.msl id 0 k c) (.slice (es.take k) .none)
 |agg (ps qs:List PV) (hl:ps.length=qs.length) (h:∀i (h1:i<ps.length) (h2:i<qs.length),Fz id k es ps[i] qs[i]):Fz id k es (.agg ps) (.agg qs)
theorem Fz.rel{E:aK}(ho:E.Ok){id k sz:Nat}{es:List PV}(hrow:E.H[id]? =some (.row (aL es)))(hk:k<=es.length)(hes:∀e∈es,e.cells.length=sz){p q:PV}(h:Fz id k es p q):∀ {v:Value},aQ E.view v p->aQ (E.frz1 id).view v q:=by
 induction h with
 |same p=>intro v hv;exact hv.mono (aK.frz1_view ho hrow)
 |msl c hc=>intro v hv;exact aK.frz1_msl ho hv hrow hk hc hes
 |agg ps qs hl _ ih=>
  intro v hv;cases hv with
  |agg arr _ ha hr=>exact .agg arr qs z8 λi hi=>ih i z8 hi (hr i z8)
section
variable{P:Program}{N nb:Nat}{Q:cT}
theorem XL{c:Code}{T:aJ}{H:aH}(id k sz t:Nat)(es:List PV){p q:PV}(hrow:H[id]? =some (.row (aL es)))(hk:k<=es.length)(hes:∀e∈es,e.cells.length=sz)(hT:T t=p)(hq:Fz id k es p q)
  (h:fO P N nb c Q (upd T t q) (H.set id LX)):fO P N nb c Q T H:=by
 intro E a ho hH ht;subst hH;have hle:=aK.frz1_le ho hrow;refine wp_mono (h (E.frz1 id) a (aK.Ok.frz1 ho hrow) rfl ⟨ht.size,ht.defers,λi hi=> ?_⟩) λe a w hl=>fH (hle.leN nb) (λ_ _ _ q=>q) hl;unfold upd
 split
 ·rename_i e;subst e;have:=ht.rel i hi;rw[hT]at this;exact hq.rel ho hrow hk hes this
 ·exact(ht.rel i hi).mono hle.view
end
section
variable{P:Program}{N nb:Nat}{ops:Array Oper}{Q:cT}
theorem pY{o:Oper}{l:List Oper}{T:aJ}{H:aH}{t:TypeId}{x y:Operand}{ei:TypeId×TI}{id n c:Nat}{kk:IntKind}{k:Nat}(hw:aZ ops.toList T N o=some true)
  (hop:o.op= .slice t x none (some y) none) (okx:aU N x=true) (oky:aU N y=true) (hte:cJ P t=some ei) (hx:bS T x= .msl id 0 n c) (hy:bS T y= .int kk k) (hk:k<=c)
  (h:bC P N nb ops Q l (bT T o.dst (.msl id 0 k c)) H):bC P N nb ops Q (o::l) T H:=by
 refine eB hw (λE a ho hH ht=> ?_) h;obtain⟨e,i⟩:=ei;obtain⟨hu,hti⟩:=cS hte;obtain⟨d,f,h3,h4,rfl⟩:=cC hti;have hvx:=aN ht x okx;have hvy:=aN ht y oky;rw[hx]at hvx;rw[hy]at hvy;have vy:=hvy.int_inv;obtain⟨vx,hcm,hbn⟩:a.eval x= .slice (some ⟨E.ρ id,0,none⟩) n c/\c<=maxLen/\E.view.born id:=by
  generalize a.eval x=w at hvx;cases hvx with
  |msl _ _ _ _ hbn hm=>exact⟨rfl,hm,hbn⟩
 refine⟨E, .slice (some ⟨E.ρ id,0,none⟩) k c, .inl ?_, .refl E,ho,hH, .msl id 0 k c hbn hcm⟩;have hb:(Instr.sliceBound (.int kk (k:Int)) c .sliceAcap).run P E.w= .ok k E.w:=by
  have hb0:(0:Int)<=(k:Int)/\(k:Int)<=c:=⟨z8,z8⟩;simp only[Instr.sliceBound,asIntOf,aM9,aNc,aNa,if_pos hb0,Sem.run_ite,tN]
 unfold execOp;rw[hop];have e1:(if c=0 then(some (⟨E.ρ id,0,none⟩:Addr))else Option.map (λz:Addr=>z.add (0*f.size)) (some ⟨E.ρ id,0,none⟩))=some ⟨E.ρ id,0,none⟩:=by
  split
  ·rfl
  ·simp[Nat.zero_mul,yR]
 simp only[aM9,Instr.sliceAt,aP hu,aNa,Instr.slice,Instr.sliceBounds,aNr,aM6,Option.isSome_none,aNh,if_false,vx,vy,if_true,hb,aNc,cQ h4,Nat.sub_zero];rw[show(if c=0 then(some (⟨E.ρ id,0,none⟩:Addr))else some ((⟨E.ρ id,0,none⟩:Addr).add (0*f.size)))=some ⟨E.ρ id,0,none⟩from e1]
theorem fF{c:Code}{T:aJ}{H:aH}{σ:Type}(rep:σ->List (Nat×PV))(I:σ->aH->Prop)(m:σ->Nat)(s0:σ)(hT:oH T (rep s0))(hI:I s0 H)
  (round:∀s H,I s H->fO P N nb c (bQ (λT' H'=>∃s',m s'<m s/\oH T' (rep s')/\I s' H') Q) (gM (rep s)) H):fO P N nb (.loop c) Q T H:=by
 intro E a ho hE ht
 let J:Nat->Act->World->Prop:=λn a w=>∃E' s,E'.w=w/\E.leN nb E'/\E'.Ok/\n=m s/\eR E'.view N a (gM (rep s))/\I s E'.H
 refine wp_loop (λa w=>∃n,J n a w) (λa w=>zQ (λn=>J n a w)) ⟨m s0,E,s0,rfl, .refl nb E,ho,rfl,mL ht (cO hT),hE▸hI⟩ ?_;intro a1 w1 hJ;obtain⟨E1,s,hw1,hle,ho1,hms,ht1,hI1⟩:=rV hJ;have hr:=round s E1.H hI1 E1 a1 ho1 rfl ht1;rw[hw1]at hr;refine wp_mono hr ?_;intro e a' w' hl;obtain⟨E',T',rfl,h2,h3,h4,h5⟩:=hl;cases e with
 |normal=>
  obtain⟨s',hlt,hf,hI'⟩:=h5;have hJ':J (m s') a' E'.w:=⟨E',s',rfl,hle.trans h2,h3,rfl,mL h4 (cO hf),hI'⟩;exact⟨⟨m s',hJ'⟩,Nat.lt_of_le_of_lt (xE hJ') (by rw[hms];exact hlt)⟩
 |_=>exact⟨E',T',rfl,hle.trans h2,h3,h4,h5⟩
end
section
variable{P:Program}{N nb:Nat}{ops:Array Oper}{Q:cT}
end
def pB(i:TI)(T:Nat->PV):List PV->List (Nat×Operand)->Option (List PV)
 |es,[]=>some es
 |es,(k,x)::rest=>if(bS T x).fits i=true/\k<es.length then pB i T (es.set k (bS T x)) rest else none
section
variable{P:Program}{N nb:Nat}{ops:Array Oper}{Q:cT}{E:aK}{a:Act}{T:aJ}
section
variable(ht:eR E.view N a T)
include ht
theorem wI(i:TI):∀(ps:List (Nat×Operand)) (arr:Array Value) (es es':List PV),RL E.view arr (aL es)->(∀e∈es,e.cells.length=i.sz)->ps.all (λx=>aU N x.2)=true->pB i T es ps=some es'->
  ∃arr',Instr.fill (λk=>some (k*i.sz,i.sz)) arr (ps.map λ(i,x)=>(i,a.eval x))=some arr'/\RL E.view arr' (aL es')/\(∀e∈es',e.cells.length=i.sz)/\es'.length=es.length
 | [],arr,es,es',h,hs,_,hb=>by cases hb;exact⟨arr,rfl,h,hs,rfl⟩
 | (k,x)::rest,arr,es,es',h,hs,hok,hb=>by
  simp only[aMi,aMj]at hok;unfold pB at hb
  split at hb
  ·rename_i hc;obtain⟨hc1,hk⟩:=hc;obtain⟨hc2,hc3⟩:=PV.fits_spec hc1;have hr:=aN ht x hok.1;obtain⟨c1,c2⟩:=hr.not_junk_cells hc3;have c3:(a.eval x).cells.size=i.sz:=by rw[c1,hc2]
   have hdl:(bS T x).cells.length=i.sz:=by rw[hc2]
   have h':=oS (V:=E.view) (a.eval x).cells.toList (bS T x).cells (k*i.sz) 0 arr (aL es) h (by simp[c1]) (λj hj=>by
    have:=c2 j hj;rw[aMt]at this;rw[aNj,aNk];exact this)
   rw[aNm,wY es hs k hk _ hdl]at h';have hs':∀e∈es.set k (bS T x),e.cells.length=i.sz:=by
    intro e he;rcases List.mem_or_eq_of_mem_set he with he|rfl
    ·exact hs e he
    ·exact hdl
   obtain⟨arr',e1,e2,e3,e4⟩:=wI i rest _ _ es' h' hs' hok.2 hb;refine⟨arr', ?_,e2,e3,by rw[e4];simp⟩;simp only[aNl,Instr.fill];have hfl:=cE es hs;have hks:(k+1)*i.sz<=es.length*i.sz:=aNp _ hk;rw[Nat.succ_mul]at hks;rw[if_neg]
   ·rw[<-e1];congr 1;rw[<-Array.foldl_toList,Array.toList_zipIdx]
   ·rw[c3,h.1,hfl];simp;omega
  ·cases hb
end
end
section
variable{P:Program}{N nb:Nat}{ops:Array Oper}{Q:cT}
theorem CM{E:aK}{a:Act}{T:aJ}(ht:eR E.view N a T)(ho:E.Ok){t:TypeId}{n:Nat}{ps:Array (Nat×Operand)}(hok:ps.toList.all (λx=>aU N x.2)=true){ei:TypeId×TI}(hf:cJ P t=some ei){z:PV}(hz:cA P ei.1=some z)
  (hfit:z.fits ei.2=true) (hs0:0<ei.2.sz) (hn:0<n) (hsz:n*ei.2.sz<=2^24) {es:List PV} (hb:pB ei.2 T (aNb n z) ps.toList=some es) {id:Nat} (hid:E.H[id]? =some .unborn):
  ∃E' val,(Instr.buildSlice t n (ps.map λ(i,x)=>(i,a.eval x))).run P E.w= .ok val E'.w/\E.le E'/\E'.Ok/\E'.H=E.H.set id (.row (aL es))/\aQ E'.view val (.msl id 0 n n):=by
 obtain⟨e,i⟩:=ei;obtain⟨h1,h2⟩:=cS hf;obtain⟨d,f,h3,h4,rfl⟩:=cC h2;obtain⟨f',v,h5,h6,rfl⟩:=eU hz;simp only at hfit hs0 hsz hb h5;rw[h4]at h5;cases h5;obtain⟨hc1,hc2⟩:=PV.fits_spec hfit;simp only at hc1;obtain⟨c1,c2⟩:=(dP E.view v).not_junk_cells hc2;have hvs:v.cells.size=f.size:=c1.trans hc1;have hrl:=oL (V:=E.view) v hc2 n;have hes:∀e∈aNb n (aW v),e.cells.length=f.size:=by
  intro e he;rw[(List.mem_replicate.1 he).2,hc1]
 obtain⟨arr',e1,e2,e3,e4⟩:=wI ht ⟨DO d,f.size,f.bytes⟩ ps.toList _ _ es hrl hes hok hb;rw[List.length_replicate]at e4;have hle:=aK.newRow_le ho hid arr' e (aL es);have hlen:=lG hid;refine⟨E.newRow id arr' e (aL es), .slice (some ⟨E.w.heap.size,0,none⟩) n n, ?_,hle,aK.Ok.newRow ho hid arr' e (aL es) e2.1 e2.2,rfl, ?_⟩
 ·simp only[Instr.buildSlice,aM9,aP h1,cQ h4,aNa];have hlt:¬n*f.size>2^24:=z8
  simp only[hlt,if_false,aNc,aNa,Sem.run_ite,aM9];have hn0:¬n*f.size=0:=by have:=Nat.mul_pos hn hs0;omega
  simp only[if_neg hn0,jF h4 h6,aNa,aM9,aNc];rw[Array.toList_map];rw[hvs]at e1;simp only[hvs,e1,newRow,aM9,run_newObj,aNa,aNc];rfl
 ·have hm:n<=maxLen:=by
   have:n<=n*f.size:=Nat.le_mul_of_pos_right _ hs0;unfold maxLen;omega
  have:=aQ.msl (V:=(E.newRow id arr' e (aL es)).view) id 0 n n ⟨.row _,by simp only[aK.newRow];exact aM4 hlen,zz⟩ hm;simpa[aK.view,aK.newRow]using this
end
section
variable{P:Program}{N nb:Nat}{ops:Array Oper}{Q:cT}
end
section
variable{E:aK}(ho:E.Ok){j:Nat}{cs cs':List PV}(hj:E.H[j]? =some (.row cs))
include ho hj
end
section
variable{P:Program}{N nb:Nat}{Q:cT}
end
section
variable{P:Program}{N nb:Nat}{ops:Array Oper}{Q:cT}
theorem MZ{o:Oper}{l:List Oper}{T:aJ}{H:aH}{t:TypeId}{n:Nat}{ps:Array (Nat×Operand)}{ei:TypeId×TI}{z:PV}{es:List PV}(hw:aZ ops.toList T N o=some true)
  (hop:o.op= .buildSlice t n ps) (hok:ps.toList.all (λx=>aU N x.2)=true) (hf:cJ P t=some ei) (hz:cA P ei.1=some z)
  (hfit:z.fits ei.2=true) (hs0:0<ei.2.sz) (hn:0<n) (hsz:n*ei.2.sz<=2^24) (hb:pB ei.2 T (aNb n z) ps.toList=some es)
  (h:bC P N nb ops Q l (bT T o.dst (.msl H.length 0 n n)) (H++ [.row (aL es)])):bC P N nb ops Q (o::l) T H:=by
 refine eB hw (λE a ho hH ht=> ?_) h;have hun:E.ext.H[E.H.length]? =some .unborn:=by simp[aK.ext]
 obtain⟨E',val,e1,e2,e3,e4,e5⟩:=CM (ht.mono E.ext_view_le) ho.ext hok hf hz hfit hs0 hn hsz hb hun;refine⟨E',val, .inl ?_,E.ext_le.trans e2,e3, ?_,by rw[<-hH];exact e5⟩
 ·have e1':(Instr.buildSlice t n (ps.map λ(i,x)=>(i,a.eval x))).run P E.w= .ok val E'.w:=e1;unfold execOp;rw[hop];simp only[aM9,e1',aNa,aNc]
 ·rw[e4];simp only[aK.ext];rw[aN4 _ _ (aMq _)];simp[hH]
end
set_option maxRecDepth 8000
section
variable{P:Program}{N nb:Nat}{ops:Array Oper}{Q:cT}
theorem fE{o:Oper}{l:List Oper}{T:aJ}{H:aH}{v:PV}(hw:aZ ops.toList T N o=some true)
  (hv:∀(E:aK) (a:Act),E.Ok->(∀x∈o.op.operands.toList,aU N x=true->aQ E.view (a.eval x) (bS T x))->∃val,(execOp a.eval o).run P E.w= .ok (.value val) E.w/\aQ E.view val v)
  (h:bC P N nb ops Q l (bT T o.dst v) H):bC P N nb ops Q (o::l) T H:=by
 refine eB hw (λE a ho hE ht=> ?_) h;obtain⟨val,h1,h2⟩:=hv E a ho λx hx hok=>aN ht x hok;exact⟨E,val, .inl h1, .refl E,ho,hE,h2⟩
end
inductive fV{α:Type}(enc:α->PV)(sz:Nat)(H:aH):PV->List α->List Nat->Prop
 |nil:fV enc sz H (.slice [] .full) [] []
 |msl {ic c:Nat} {xs:List α} {rest:List PV} (hH:H[ic]? =some (.row (aL (xs.map enc)++rest))) (hc:xs.length*sz+rest.length=c*sz) (hm:c<=maxLen):fV enc sz H (.msl ic 0 xs.length c) xs [ic]
section
variable{α:Type}{enc:α->PV}{sz:Nat}
theorem fV.of{H:aH}{ic c n:Nat}{xs:List α}{rest:List PV}(hn:xs.length=n)(hH:H[ic]? =some (.row (aL (xs.map enc)++rest)))(hc:n*sz+rest.length=c*sz)(hm:c<=maxLen):fV enc sz H (.msl ic 0 n c) xs [ic]:=by
 subst hn;exact .msl hH hc hm
theorem fV.fr{H H':aH}{cv:PV}{xs:List α}{cid:List Nat}(h:fV enc sz H cv xs cid)(he:∀i∈cid,H'[i]? =H[i]?):fV enc sz H' cv xs cid:=by
 cases h with
 |nil=>exact .nil
 |msl hH hc hm=>exact .msl (by rw[he _ zz];exact hH) hc hm
theorem fV.lt{H:aH}{cv:PV}{xs:List α}{cid:List Nat}(h:fV enc sz H cv xs cid):∀i∈cid,i<H.length:=by
 cases h with
 |nil=>intro i hi;cases hi
 |msl hH hc hm=>intro i hi;rw[aN8]at hi;subst hi;exact lG hH
theorem fV.app{H:aH}{cv:PV}{xs:List α}{cid:List Nat}(h:fV enc sz H cv xs cid)(L:aH):fV enc sz (H++L) cv xs cid:=h.fr λi hi=>aM0 (h.lt i hi)
theorem fV.cases2{H:aH}{cv:PV}{xs:List α}{cid:List Nat}(h:fV enc sz H cv xs cid):(xs= []/\cv= .slice [] .full/\cid= [])\/
  ∃ic c rest,cv= .msl ic 0 xs.length c/\cid= [ic]/\H[ic]? =some (.row (aL (xs.map enc)++rest))/\xs.length*sz+rest.length=c*sz/\c<=maxLen:=by
 cases h with
 |nil=>exact .inl ⟨rfl,rfl,rfl⟩
 |msl hH hc hm=>exact .inr ⟨_,_,_,rfl,rfl,hH,hc,hm⟩
theorem jU:∀(vs A B:List PV),vs.length<=B.length->dR (A++B) A.length vs=A++vs++B.drop vs.length
 | [],A,B,_=>by simp[dR]
 |v::vs,A,[],h=>by simp at h
 |v::vs,A,b::B,h=>by
  have h1:=jU vs (A++ [v]) B (by simpa using h);simp only[dR];rw[aN4 _ _ (aMq _),aNt,List.set_cons_zero];simp only[aNo,List.length_singleton,aOe,List.singleton_append]at h1;rw[h1];simp
theorem fD(henc:∀a,(enc a).cells.length=sz)(xs:List α):(aL (xs.map enc)).length=xs.length*sz:=by
 rw[cE (sz:=sz) _ (λe he=>by obtain⟨v,_,rfl⟩:=aNy.1 he;exact henc v),aMw]
variable{P:Program}{N nb:Nat}{ops:Array Oper}{Q:cT}
theorem MJ{E:aK}{v:Value}{es:List PV}{n:Nat}(hn:es.length=n)(hes:∀e∈es,e.cells.length=sz)(hv:aQ E.view v (.slice es .full)):∃ad,v= .slice ad n n/\∃arrs,(Builtin.firstCells sz n (.slice ad n n)).run P E.w= .ok arrs E.w/\RL E.view arrs (aL es):=by
 obtain⟨arrs,r1,r2,ad,cap,rfl,hc1,hc2,hc3⟩:=mP (P:=P) hv hes;subst hn;have:cap=es.length:=hc3;subst this;exact⟨ad,rfl,arrs,r1,r2⟩
theorem dX(henc:∀a,(enc a).cells.length=sz)(hcell:∀a,(enc a).cells.all PV.isCell=true)(hs0:0<sz){o:Oper}{l:List Oper}{T:aJ}{H:aH}{x y:Operand}{t u:TypeId}{ei:TypeId×TI}{z:PV}{tl:bE}{cv:PV}{xs:List α}{cid:List Nat}{a:α}
  (hw:aZ ops.toList T N o=some true) (hop:o.op= .call ⟨.builtin .append, #[x,y], #[t,u]⟩) (okx:aU N x=true) (oky:aU N y=true) (hx:bS T x=cv) (hy:bS T y= .slice [enc a] tl) (hk:fV enc sz H cv xs cid)
  (hte:cJ P t=some ei) (hei:ei.2.sz=sz) (hb:(xs.length+1)*ei.2.bytes<=2^47) (hm:xs.length+1<=maxLen) (htu:(cJ P u).isSome=true) (hz:cA P ei.1=some z) (hzf:z.fits ei.2=true)
  (h:∀(cv':PV) (cid':List Nat) (H':aH),fV enc sz H' cv' (xs++ [a]) cid'->(∀i∈cid',i∈cid\/H.length<=i)->H.length<=H'.length->(∀j,j<H.length->j∉cid->H'[j]? =H[j]?)->bC P N nb ops Q l (bT T o.dst cv') H'):
  bC P N nb ops Q (o::l) T H:=by
 have hzs:z.cells.length=sz:=by rw[(PV.fits_spec hzf).1,hei]
 have hnew:∀oc,oc=aL (xs.map enc)->(∀(E:aK) (v:Value),E.Ok->E.H=H->aQ E.view v (bS T x)->∃ad,v= .slice ad xs.length xs.length/\∃arrs,(Builtin.firstCells ei.2.sz xs.length (.slice ad xs.length xs.length)).run P E.w= .ok arrs E.w/\RL E.view arrs oc)->bC P N nb ops Q (o::l) T H:=by
  intro oc hoc hold;refine zM (n:=xs.length) (oc:=oc) (e1:=enc a) (tl:=tl) hw hop okx oky hy hb hm (by rw[henc,hei]) hte htu hz hzf hold λc rest hc1 hc2 hrest=> ?_;refine h _ [H.length] _ (.of (rest:=rest) zz ?_ ?_ hc2) (λi hi=>by rw[aN8]at hi;exact .inr z8) zz (λj hj _=>aM0 hj)
  ·rw[aM1 (aMq _),aNt,hoc,aN3,eH];simp[aL]
  ·rw[hrest];have:(aNb (c- (xs.length+1)) z.cells).flatten.length=(c- (xs.length+1))*sz:=by simp[hzs]
   rw[this,<-aNu];congr 1;omega
 rcases hk.cases2 with⟨rfl,rfl,rfl⟩| ⟨ic,c,rest,rfl,rfl,hH,hc,hmx⟩
 ·exact hnew _ rfl λE v ho hE hv=>by
   rw[hx]at hv;exact MJ (es:= []) rfl zz hv
 ·have hfl:=fD (enc:=enc) henc xs;rcases aMo xs.length c with hlt|hge
  ·have hr:sz<=rest.length:=by
    have:(xs.length+1)*sz<=c*sz:=aNp _ hlt;rw[Nat.succ_mul]at this;omega
   refine PD (id:=ic) (n:=xs.length) (c:=c) (cs:=aL (xs.map enc)++rest) (e1:=enc a) (tl:=tl) hH hw hop okx oky hx hy hlt (by rw[aNo,hfl,hei];exact hc) (by rw[henc,hei]) (hcell a) hte htu ?_;have hil:=lG hH;refine h _ [ic] _ (.of (rest:=rest.drop sz) zz ?_ ?_ hmx) (λi hi=>.inl hi) zz (λj hj hn=>by rw[aM5 (by rintro rfl;exact hn zz)])
   ·rw[aM4 hil,hei,<-hfl,jU _ _ _ (by rw[henc];exact hr),henc,aN3,eH];simp[aL]
   ·rw[aNd,Nat.succ_mul];omega
  ·have hr:rest= []:=by
    have:c*sz<=xs.length*sz:=aNp _ hge;exact List.length_eq_zero_iff.1 z8
   subst hr;have hcl:c=xs.length:=by
    simp only[aOa,aNm]at hc;exact(Nat.eq_of_mul_eq_mul_right hs0 hc).symm
   subst hcl;rw[aN9]at hH;exact hnew _ rfl λE v ho hE hv=>by
    rw[hx]at hv;exact UB ho (cs:=aL (xs.map enc)) (by rw[hE];exact hH) (by rw[hfl,hei]) hv
theorem ZA(sz:Nat):∀(n:Nat) (l:List PV),l.length=n*sz->∃es:List PV,es.length=n/\aL es=l/\∀e∈es,e.cells.length=sz
 |0,l,h=>⟨[],rfl,by simp at h;subst h;rfl,zz⟩
 |n+1,l,h=>by
  rw[Nat.succ_mul]at h;obtain⟨es,h1,h2,h3⟩:=ZA sz n (l.drop sz) (by rw[aNd];omega);refine⟨.agg (l.take sz)::es,by simp[h1], ?_,λe he=> ?_⟩
  ·have:aL (.agg (l.take sz)::es)=l.take sz++aL es:=by simp[aL,PV.cells]
   rw[this,h2,List.take_append_drop]
  ·rcases aN2.1 he with rfl|he
   ·show(l.take sz).length=sz;rw[aNe];omega
   ·exact h3 e he
theorem iN(henc:∀a,(enc a).cells.length=sz)(hs0:0<sz){c:Code}{T:aJ}{H:aH}(t:Nat){cv:PV}{xs:List α}{cid:List Nat}(hk:fV enc sz H cv xs cid)(hT:T t=cv)
  (h:∀H':aH,H'.length=H.length->(∀j,j∉cid->H'[j]? =H[j]?)->fO P N nb c Q (upd T t (.slice (xs.map enc) .none)) H'):fO P N nb c Q T H:=by
 rcases hk.cases2 with⟨rfl,rfl,rfl⟩| ⟨ic,c',rest,rfl,rfl,hH,hc,hmx⟩
 ·intro E a ho hH ht;refine h H rfl (λ_ _=>rfl) E a ho hH ⟨ht.size,ht.defers,λi hi=> ?_⟩;unfold upd
  split
  ·rename_i e;subst e;have:=ht.rel i hi;rw[hT]at this;exact this.drop0
  ·exact ht.rel i hi
 ·have hle:xs.length*sz<=c'*sz:=z8
  have hlc:xs.length<=c':=Nat.le_of_mul_le_mul_right hle hs0;obtain⟨es,_,e1,e2⟩:=ZA sz (c'-xs.length) rest (by rw[Nat.sub_mul];omega);have hrow:H[ic]? =some (.row (aL (xs.map enc++es))):=by rw[hH,eH,e1]
  ·have hz:=Fz.msl (id:=ic) (k:=xs.length) (es:=xs.map enc++es) c' hlc;have:(xs.map enc++es).take xs.length=xs.map enc:=by rw[List.take_append_of_le_length zz,List.take_of_length_le zz]
   rw[this]at hz;refine XL ic xs.length sz t (xs.map enc++es) hrow zz (λe he=> ?_) hT hz ?_
   ·rcases aN0.1 he with he|he
    ·obtain⟨v,_,rfl⟩:=aNy.1 he;exact henc v
    ·exact e2 e he
   ·exact h _ zz (λj hj=>by rw[aM5 (by rintro rfl;exact hj zz)])
end
section
variable{P:Program}{N nb:Nat}{ops:Array Oper}{Q:cT}{T:aJ}{H:aH}
theorem dK{o:Oper}{t:TypeId}{x y:Operand}{ei:TypeId×TI}{id n c k:Nat}{kk:IntKind}
  (hop:o.op= .slice t x (some y) none none) (okx:aU N x=true) (oky:aU N y=true) (hte:cJ P t=some ei) (hx:bS T x= .msl id 0 n c) (hy:bS T y= .int kk k) (hk:k<=n) (hc:k<c):
  ∀(E:aK) (a:Act),E.Ok->(∀x∈o.op.operands.toList,aU N x=true->aQ E.view (a.eval x) (bS T x))->∃val,(execOp a.eval o).run P E.w= .ok (.value val) E.w/\aQ E.view val (.msl id (k*ei.2.sz) (n-k) (c-k)):=by
 intro E a ho hvs;obtain⟨e,i⟩:=ei;obtain⟨hu,hti⟩:=cS hte;obtain⟨d,f,h3,h4,rfl⟩:=cC hti;have hvx:=hvs x (by rw[hop];simp[Op.operands]) okx;have hvy:=hvs y (by rw[hop];simp[Op.operands]) oky;rw[hx]at hvx;rw[hy]at hvy;have vy:=hvy.int_inv;obtain⟨vx,hcm,hbn⟩:a.eval x= .slice (some ⟨E.ρ id,0,none⟩) n c/\c<=maxLen/\E.view.born id:=by
  generalize a.eval x=w at hvx;cases hvx with
  |msl _ _ _ _ hbn hm=>exact⟨rfl,hm,hbn⟩
 refine⟨.slice (some ⟨E.ρ id,k*f.size,none⟩) (n-k) (c-k), ?_, .msl id _ _ _ hbn z8⟩;have hb:(Instr.sliceBound (.int kk (k:Int)) n .sliceB).run P E.w= .ok k E.w:=by
  have hb0:(0:Int)<=(k:Int)/\(k:Int)<=n:=⟨z8,z8⟩;simp only[Instr.sliceBound,asIntOf,aM9,aNc,aNa,if_pos hb0,Sem.run_ite,tN]
 have hck:¬c=k:=z8
 unfold execOp;rw[hop];simp only[aM9,Instr.sliceAt,aP hu,aNa,Instr.slice,Instr.sliceBounds,aNr,aM6,Option.isSome_none,aNh,if_false,vx,vy,if_true,hb,aNc,cQ h4,hck,dH,aNn]
theorem kL{E:aK}{v:Value}{id off n c k sz:Nat}{cs:List PV}(ho:E.Ok)(hid:E.H[id]? =some (.row cs))(hcs:off+k*sz<=cs.length)(hv:aQ E.view v (.msl id off n c)):
  ∃ad,v= .slice ad n c/\∃arrs,(Builtin.firstCells sz k v).run P E.w= .ok arrs E.w/\RL E.view arrs ((cs.drop off).take (k*sz)):=by
 cases hv with
 |msl _ _ _ _ hbn hm=>
  obtain⟨arr,elem,h1,h2,h3,h4⟩:=ho.rows id cs hid;refine⟨_,rfl,_,run_loadCells E.w ⟨E.ρ id,off,none⟩ (k*sz) (λj=>arr.getD (off+j) undef) (λj hj=> ?_),⟨by simp;omega,λi hi=> ?_⟩⟩
  ·rw[dH,kF h1,aMt,aMy z8];rfl
  ·have hi':i<k*sz:=by simp at hi;omega
   rw[aMt];simp only[aNf,aNg,List.getElem?_range hi',aM6,aMz,List.getElem_take,List.getElem_drop];exact h3 (off+i) z8
theorem uK{o:Oper}{l:List Oper}{x:Operand}{t:TypeId}{id off n c:Nat}(hop:o.op= .call ⟨.builtin .cap, #[x], #[t]⟩)(hx:bS T x= .msl id off n c)(hw:aZ ops.toList T N o=some true)(hok:aU N x=true)
  (hte:(cJ P t).isSome=true) (h:bC P N nb ops Q l (bT T o.dst (.int .i64 (c:Int))) H):bC P N nb ops Q (o::l) T H:=by
 refine eB hw (λE a ho hH ht=> ?_) h;have hr:=aN ht x hok;rw[hx]at hr;obtain⟨e,hu⟩:=eS hte;have hval:a.eval x= .slice (some ⟨E.ρ id,off,none⟩) n c:=by generalize a.eval x=y at hr;cases hr;rfl
 refine⟨E, .int .i64 c, .inl ?_, .refl E,ho,hH, .int _ _⟩;unfold execOp;rw[hop];simp only;refine(dM (c:=⟨.builtin .cap, #[x], #[t]⟩) (a:=a) (E:=E) (P:=P) (xs:= [x]) (ts:= [t]) (ty:=o.type) rfl rfl rfl (s:=Builtin.cap_ #[t] o.type #[a.eval x]) rfl).trans ?_;simp only[Builtin.cap_,aNf,aNw,aM9,aP hu,aNa,hval,aNc,goInt]
theorem kX{o:Oper}{l:List Oper}{x y:Operand}{t u:TypeId}{ei:TypeId×TI}{id off n c:Nat}{cs src:List PV}(hid:H[id]? =some (.row cs))(hw:aZ ops.toList T N o=some true)
  (hop:o.op= .call ⟨.builtin .copy, #[x,y], #[t,u]⟩) (okx:aU N x=true) (oky:aU N y=true) (hx:bS T x= .msl id off n c) (hte:cJ P t=some ei)
  (hsrc:∀(E:aK) (v:Value),E.Ok->E.H=H->aQ E.view v (bS T y)->∃m ad cp,v= .slice ad m cp/\∃arrs,(Builtin.firstCells ei.2.sz (Nat.min m n) v).run P E.w= .ok arrs E.w/\RL E.view arrs src)
  (hcell:src.all PV.isCell=true) (hfit:off+src.length<=cs.length)
  (h:bC P N nb ops Q l (bT T o.dst .junk) (H.set id (.row (dR cs off src)))):bC P N nb ops Q (o::l) T H:=by
 refine eB hw (λE a ho hH ht=> ?_) h;subst hH;obtain⟨e,i⟩:=ei;obtain⟨h1,h2⟩:=cS hte;obtain⟨dd,f,h3,h4,rfl⟩:=cC h2;have hvx:=aN ht x okx;have hvy:=aN ht y oky;rw[hx]at hvx;obtain⟨m,ad,cp,vy,arrs,r1,r2⟩:=hsrc E _ ho rfl hvy;have vx:a.eval x= .slice (some ⟨E.ρ id,off,none⟩) n c:=by
  generalize a.eval x=w at hvx;cases hvx with
  |msl _ _ _ _ hbn hm=>rfl
 obtain⟨E',e1',e2,e3,e4⟩:=rF (P:=P) (id:=id) (off:=off) arrs.toList src 0 E cs ho hid (by rw[aMx];exact r2.1) (λj hj=>by
  have:=r2.2 j hj;rw[aMt]at this;rw[aNj,aNk];exact this) hcell (by rw[aMx,r2.1];omega)
 refine⟨E',goInt (Nat.min m n), .inl ?_,e2,e3,by rw[e4,aNm], .junk _⟩;unfold execOp;rw[hop];simp only;refine(dM (c:=⟨.builtin .copy, #[x,y], #[t,u]⟩) (a:=a) (E:=E) (P:=P) (xs:= [x,y]) (ts:= [t,u]) (ty:=o.type) rfl rfl rfl (s:=Builtin.copy_ #[t,u] o.type #[a.eval x,a.eval y]) rfl).trans ?_;rw[vy]at r1;simp only[Builtin.copy_,aNf,aNw,aM8,aM9,aP h1,cQ h4,aNa,aNc,vx,vy,Builtin.lenOf,r1,e1']
theorem GH{o:Oper}{l:List Oper}{x y:Operand}{t u:TypeId}{ki kk:IntKind}{ei:TypeId×TI}{z:PV}{id n c k:Nat}{cs:List PV}(hid:H[id]? =some (.row cs))(hw:aZ ops.toList T N o=some true)
  (hop:o.op= .call ⟨.builtin .append, #[x,y], #[t,u]⟩) (okx:aU N x=true) (oky:aU N y=true) (hx:bS T x= .msl id 0 n c) (hy:bS T y= .int kk k) (hk0:0<k) (hnk:c<n+k) (hcs:n*ei.2.sz<=cs.length) (hs0:0<ei.2.sz)
  (hb:(n+k)*ei.2.bytes<=2^47) (hm:n+k<=maxLen) (hte:cJ P t=some ei) (hu:P.underlying u=some (.int ki)) (hz:cA P ei.1=some z) (hzf:z.fits ei.2=true)
  (h:∀(c':Nat) (rest:List PV),n+k<=c'->c'<=maxLen->rest.length=(c'-n)*ei.2.sz->bC P N nb ops Q l (bT T o.dst (.msl H.length 0 (n+k) c')) (H++ [.row (cs.take (n*ei.2.sz)++rest)])):bC P N nb ops Q (o::l) T H:=by
 intro E a ho hH ht;subst hH;obtain⟨e,i⟩:=ei;obtain⟨h1,h2⟩:=cS hte;obtain⟨dd,f,h3,h4,rfl⟩:=cC h2;obtain⟨f',zv,h5,h6,rfl⟩:=eU hz;simp only at h5 hzf hb hcs hs0;rw[h4]at h5;cases h5;obtain⟨hzs,hzj⟩:=PV.fits_spec hzf;simp only at hzs;have hvx:=aN ht x okx;have hvy:=aN ht y oky;rw[hx]at hvx;rw[hy]at hvy;have vy:=hvy.int_inv;have vx:a.eval x= .slice (some ⟨E.ρ id,0,none⟩) n c:=by
  generalize a.eval x=w at hvx;cases hvx with
  |msl _ _ _ _ hbn hm=>rfl
 have hd:=ho.drew;obtain⟨adx,vx',arrs,s1,s2⟩:=kL (P:=P) (E:=E.drew) (sz:=f.size) (k:=n) hd hid z8 hvx;rw[vx]at vx' s1;simp only[aOh]at s2;have em:maxLen=9223372036854775807:=z7
 obtain⟨c',hc6,hc7,hc8⟩:=kU (P:=P) (w:=E.w) (n+k) c e;have hcm:c'<=maxLen:=by
  have:=hc8 (by have e2:maxLen=2^63-1:=rfl;omega);have e2:maxLen=2^63-1:=rfl;omega
 have hzl:∀m,RL E.drew.view (Builtin.zeroCells zv.cells m) ((aNb m (aW zv).cells).flatten):=λm=>by
  have:=oL (V:=E.drew.view) zv hzj m;rw[gY]at this;exact this
 let rest:List PV:=(aNb k (aW zv).cells).flatten++(aNb (c'- (n+k)) (aW zv).cells).flatten
 let arr:Array Value:=arrs++Builtin.zeroCells zv.cells k++Builtin.zeroCells zv.cells (c'- (n+k))
 have hrl:RL E.drew.view arr (cs.take (n*f.size)++rest):=by
  have:=mN (mN s2 (hzl k)) (hzl (c'- (n+k)));rw[aOe]at this;exact this
 have hun:E.drew.ext.H[E.H.length]? =some .unborn:=by simp[aK.ext,aK.drew]
 have hle':=E.drew.ext_le.trans (aK.newRow_le (E:=E.drew.ext) hd.ext (id:=E.H.length) hun arr e (cs.take (n*f.size)++rest));have hok':=aK.Ok.newRow (E:=E.drew.ext) hd.ext (id:=E.H.length) hun arr e (cs.take (n*f.size)++rest) hrl.1 (λi hl=>(hrl.2 i hl).mono E.drew.ext_view_le);have hH':(E.drew.ext.newRow E.H.length arr e (cs.take (n*f.size)++rest)).H=E.H++ [.row (cs.take (n*f.size)++rest)]:=by
  simp only[aK.newRow,aK.ext,aK.drew];rw[aN4 _ _ (aMq _)];simp
 have run1:(execOp a.eval o).run P E.w= .ok (.value (.slice (some ⟨E.w.heap.size,0,none⟩) (n+k) c')) (E.drew.ext.newRow E.H.length arr e (cs.take (n*f.size)++rest)).w:=by
  unfold execOp;rw[hop];simp only;refine(dM (c:=⟨.builtin .append, #[x,y], #[t,u]⟩) (a:=a) (E:=E) (P:=P) (xs:= [x,y]) (ts:= [t,u]) (ty:=o.type) rfl rfl rfl (s:=Builtin.append_ #[t,u] o.type #[a.eval x,a.eval y]) rfl).trans ?_;have hc6':(choose (.appendCap (n+k) c e)).run P E.w= .ok c' E.drew.w:=hc6;have n2:¬n+k<=c:=z8
  have e1:IntKind.i64.max=9223372036854775807:=z7
  have n3:¬((n+k:Nat):Int)>IntKind.i64.max:=by rw[e1];omega
  have hw1:IntKind.i64.wrap (k:Int)=k:=by rw[IntKind.wrap_i64];omega
  have n5:¬((k:Int)<0):=z8
  have n6:¬((k:Int)*(f.bytes:Int)>2^48):=by
   have:k*f.bytes<=(n+k)*f.bytes:=aNp _ z8;have h7:k*f.bytes<=2^47:=aMr this hb;rw[<-Int.natCast_mul];omega
  have n7:¬(k*f.size=0):=Nat.mul_ne_zero z8 z8;have n4:¬Builtin.nextslicecap (n+k) c*f.bytes>2^48:=by
   have:=kB (n+k) c z8;have:=aNp f.bytes this;rw[Nat.mul_assoc]at this;omega
  simp only[Builtin.append_,aNf,aNw,aM8,aM9,aP h1,cQ h4,aP hu,aNa,aNc,vx,vy,Builtin.lenOf,n2,n3,n4,n5,n6,n7,hw1,if_true,if_false,mQ h4,asInt,asIntOf,tN,
   Bool.not_true,aNh,jF h4 h6,hc6',uI,s1,Go.newRow,run_newObj,false_and]
  rfl
 have hv:aQ (E.drew.ext.newRow E.H.length arr e (cs.take (n*f.size)++rest)).view (.slice (some ⟨E.w.heap.size,0,none⟩) (n+k) c') (.msl E.H.length 0 (n+k) c'):=by
  have:=aQ.msl (V:=(E.drew.ext.newRow E.H.length arr e (cs.take (n*f.size)++rest)).view) E.H.length 0 (n+k) c'
   ⟨.row _,by rw[hH',aM1 (aMq _),aNt];rfl,zz⟩ hcm
  simpa[aK.view,aK.newRow,aK.drew,aK.ext]using this
 refine dS (bY ht hw) ?_;unfold Oper.wp;rw[run1];show wpList P ops _ _ (a.put o.dst _) _;have hle:=E.drew_le.trans hle';have hn:=h c' rest hc7 hcm (by
  show((aNb k (aW zv).cells).flatten++(aNb (c'- (n+k)) (aW zv).cells).flatten).length=_;simp only[aNo,List.length_flatten,List.map_replicate,List.sum_replicate_nat,hzs];rw[<-aNu];congr 1;omega) _ _ hok' hH' ((ht.mono hle.view).put o.dst hv)
 exact dL (λe a w hl=>fH (hle.leN nb) (λ_ _ _ q=>q) hl) l _ _ hn
theorem uZ{o:Oper}{l:List Oper}{fo x y:Operand}{ts:Array TypeId}{f:FuncId}{fn:Func}{tS tR e:TypeId}{ti:TI}{ia oa na ca ib ob n2 cb:Nat}{ra rb:List PV}(hw:aZ ops.toList T N o=some true)(hop:o.op= .call ⟨.value fo, #[x,y],ts⟩)
  (okf:aU N fo=true) (okx:aU N x=true) (oky:aU N y=true) (hf:bS T fo= .fn (.func f) [] []) (hx:bS T x= .msl ia oa na ca) (hy:bS T y= .msl ib ob n2 cb) (hne:ia≠ib) (hra:H[ia]? =some (.row ra)) (hrb:H[ib]? =some (.row rb)) (hb0:rb≠ [])
  (hfn:P.funcs[f]? =some fn) (hname:(fn.name== "runtime.NumGoroutine")=false) (hb:fn.body.isNone=true) (hn:Extern.findNext fn=none) (he:Extern.find fn=some (Extern.SlicesOverlaps.overlaps #[tS,tS] #[tR])) (ht':P.underlying tS=some (.slice e)) (hti:bZ P e=some ti)
  (h:bC P N nb ops Q l (bT T o.dst (.bool false)) H):bC P N nb ops Q (o::l) T H:=by
 refine eB hw (λE a ho hH ht=> ?_) h;subst hH;have hvf:=aN ht fo okf;have hvx:=aN ht x okx;have hvy:=aN ht y oky;rw[hf]at hvf;rw[hx]at hvx;rw[hy]at hvy;obtain⟨aa,ea,h1,h2,h3,h4⟩:=ho.rows ia ra hra;obtain⟨ab,eb,k1,k2,k3,k4⟩:=ho.rows ib rb hrb;have hρ:E.ρ ia≠E.ρ ib:=λq=>hne (ho.injr ia ib ra rb hra hrb q);have vx:a.eval x= .slice (some ⟨E.ρ ia,oa,none⟩) na ca:=by generalize a.eval x=w at hvx;cases hvx;rfl
 have vy:a.eval y= .slice (some ⟨E.ρ ib,ob,none⟩) n2 cb:=by generalize a.eval y=w at hvy;cases hvy;rfl
 have vf:a.eval fo= .func (.func f) #[] #[]:=by
  generalize a.eval fo=w at hvf;cases hvf with
  |fn _ first caps _ _ hf hc _ _=>
   have e1:first= #[]:=Array.eq_empty_of_size_eq_zero hf
   have e2:caps= #[]:=Array.eq_empty_of_size_eq_zero hc;rw[e1,e2]
 obtain⟨d0,f0,hi3,hi4,_⟩:=cC hti;have hrun:=Lib.run_overlaps_apart (P:=P) E.w tS tR e ht' f0.size (λw=>cQ hi4) ⟨E.ρ ia,oa,none⟩ ⟨E.ρ ib,ob,none⟩ na ca n2 cb hρ ea eb aa.size ab.size (by simp[World.shape?,h1]) (by simp[World.shape?,k1]) (by rw[k2];cases rb with|nil=>exact absurd rfl hb0|cons _ _=>simp)
  (by simp[World.frozen?,h1]) (by simp[World.frozen?,h1])
 refine⟨E, .bool false, .inl ?_, .refl E,ho,rfl, .bool false⟩;unfold execOp;rw[hop];simp only[resolve,vf,Deferred.ofValue,aM9,aNc,aNa,invoke];rw[run_callFunc_extern hfn hname hb hn he];have:(#[]++ #[x,y].map a.eval++ #[]:Array Value)= #[a.eval x,a.eval y]:=zz
 rw[this,vx,vy,hrun];rfl
end
inductive FT where
 |int|str|bool
def FT.ty(P:Program):FT->TypeId->Prop
 | .int,t=>P.underlying t=some (.int .i64)
 | .str,t=>P.underlying t=some .string
 | .bool,t=>P.underlying t=some .bool
def FT.fit:FT->PV->Bool
 | .int, .int .i64 _=>true
 | .str, .str _=>true
 | .bool, .bool _=>true
 |_,_=>false
def yZ:PV->PV->Bool
 | .int _ a, .int _ b=>decide (a=b)
 | .str a, .str b=>decide (a=b)
 | .bool a, .bool b=>decide (a=b)
 |_,_=>false
def kM:List PV->List PV->Bool
 | [],[]=>true
 |x::xs,y::ys=>yZ x y&&kM xs ys
 |_,_=>false
structure xT(P:Program)(t:TypeId)(ks:List FT):Prop where
 ex:∃fs:List Field,P.underlying t=some (.struct fs.toArray)/\fs.length=ks.length/\∀(i:Nat) (h:i<fs.length) (h2:i<ks.length),fs[i].name≠ "_" /\fs[i].offset=i/\(ks[i]).ty P fs[i].type
 held:P.stoodInHeld t=false
 gu:P.eqGuardType P.depth t=false
section
variable{P:Program}{V:cG}
theorem NV{k:FT}{t:TypeId}(h:k.ty P t)(w:World):(isAgg t).run P w= .ok false w:=by
 cases k<;>(unfold FT.ty at h;unfold isAgg;simp only[aM9,run_underlying h,aNa];rfl)
theorem FP{k:FT}{t:TypeId}(h:k.ty P t){xs:Array Value}{i:Nat}(hi:i<xs.size)(w:World):(part t xs i).run P w= .ok (xs.getD i undef) w:=by
 unfold part;simp only[aM9,NV h,aNa,aNh,if_false,aMt,aMy hi];rfl
theorem aBc{k:FT}{t:TypeId}(h:k.ty P t){v v':Value}{p p':PV}(hv:aQ V v p)(hv':aQ V v' p')(hf:k.fit p=true)(hf':k.fit p'=true)(d:Nat)(w:World):
  (Op.equalIn (d+1) t v v').run P w= .ok (yZ p p') w:=by
 cases k with
 |int=>
  cases hv with
  |int k n=>
   cases hv' with
   |int k' n'=>
    have e:k= .i64:=by cases k<;>first|rfl|simp[FT.fit]at hf
    have e':k'= .i64:=by cases k'<;>first|rfl|simp[FT.fit]at hf'
    subst e;subst e';rw[run_equalIn_int w d t _ _ _ _ h];have e:(n==n')=decide (n=n'):=by rw[aN1];simp
    rw[e];rfl
   |_=>simp[FT.fit]at hf'
  |_=>simp[FT.fit]at hf
 |str=>
  cases hv with
  |str s=>
   cases hv' with
   |str s'=>
    rw[run_equalIn_string w d t _ _ h];congr 1;show(s.toList==s'.toList)=decide (s.data.toList=s'.data.toList);rw[ByteArray.toList_eq,ByteArray.toList_eq,aN1];simp
   |_=>simp[FT.fit]at hf'
  |_=>simp[FT.fit]at hf
 |bool=>
  cases hv with
  |bool b=>
   cases hv' with
   |bool b'=>
    rw[run_equalIn_bool w d t _ _ h];have e:(b==b')=decide (b=b'):=by rw[aN1];simp
    rw[e];rfl
   |_=>simp[FT.fit]at hf'
  |_=>simp[FT.fit]at hf
theorem EX{xs ys:Array Value}{ps qs:List PV}(hx:aQ V (.agg xs) (.agg ps))(hy:aQ V (.agg ys) (.agg qs))(d:Nat)(w:World):∀(fs:List Field) (ks:List FT) (off:Nat),fs.length=ks.length->
  (∀(i:Nat) (h:i<fs.length) (h2:i<ks.length),fs[i].name≠ "_" /\fs[i].offset=off+i/\(ks[i]).ty P fs[i].type)->ps.length=off+fs.length->qs.length=off+fs.length->
  (∀(i:Nat) (h:i<ks.length) (h1:off+i<ps.length) (h2:off+i<qs.length),(ks[i]).fit ps[off+i]=true/\(ks[i]).fit qs[off+i]=true)->
  (Op.eqFields (d+1) xs ys fs).run P w= .ok (kM (ps.drop off) (qs.drop off)) w
 | [],ks,off,hl,_,hp,hq,_=>by
  rw[List.drop_eq_nil_of_le (by simp at hp;omega),List.drop_eq_nil_of_le (by simp at hq;omega)];rfl
 |f::fs,[],off,hl,_,_,_,_=>by simp at hl
 |f::fs,k::ks,off,hl,hF,hp,hq,hfit=>by
  have h0:=hF 0 zz zz;simp only[aMn,aNm]at h0;obtain⟨n0,o0,t0⟩:=h0;have lp:off<ps.length:=by simp at hp;omega
  have lq:off<qs.length:=by simp at hq;omega
  have ff:=hfit 0 zz lp lq;simp only[aMn,aNm]at ff;obtain⟨sx,rx⟩:xs.size=ps.length/\aQ V (xs.getD off undef) ps[off]:=by cases hx with|agg _ _ a b=>exact⟨a,b off lp⟩
  obtain⟨sy,ry⟩:ys.size=qs.length/\aQ V (ys.getD off undef) qs[off]:=by cases hy with|agg _ _ a b=>exact⟨a,b off lq⟩
  have ih:=EX hx hy d w fs ks (off+1) (by simpa using hl) (λi h h2=>by
   have:=hF (i+1) (by simp;omega) (by simp;omega);simp only[List.getElem_cons_succ]at this;rw[show off+1+i=off+(i+1)by omega];exact this) (by simp at hp;omega) (by simp at hq;omega) (λi h h1 h2=>by
   have:=hfit (i+1) (by simp;omega) z8 z8;simp only[List.getElem_cons_succ]at this;have e:off+1+i=off+(i+1):=z8
   simp only[e];exact this)
  rw[aOi lp,aOi lq];simp only[Op.eqFields,if_pos n0,aM9,o0,FP t0 (show off<xs.size by omega),FP t0 (show off<ys.size by omega),aNa,aBc t0 rx ry ff.1 ff.2,Sem.run_ite,aNc,ih,kM];cases yZ ps[off] qs[off]<;>simp
theorem LY{t:TypeId}{ks:List FT}(F:xT P t ks){xs ys:Array Value}{ps qs:List PV}(hx:aQ V (.agg xs) (.agg ps))(hy:aQ V (.agg ys) (.agg qs))(hp:ps.length=ks.length)(hq:qs.length=ks.length)
  (fp:∀(i:Nat) (h:i<ks.length) (h1:i<ps.length) (h2:i<qs.length),(ks[i]).fit ps[i]=true/\(ks[i]).fit qs[i]=true) (w:World):(Op.equal t (.agg xs) (.agg ys)).run P w= .ok (kM ps qs) w:=by
 obtain⟨fs,ut,hl,hF⟩:=F.ex;have hf:P.fieldsOf t=fs.toArray:=by unfold Program.fieldsOf;rw[ut]
 show(Op.equalIn (9999+1) t _ _).run P w=_;rw[run_equalIn_struct w 9999 t _ _ (by rw[hf];exact ut) F.held,hf];have:=EX (P:=P) hx hy 9998 w fs ks 0 hl (λi h h2=>by rw[aNn];exact hF i h h2) z8 z8 (λi h h1 h2=>by simp only[aNn];exact fp i h z8 z8);simpa using this
def xP:List FT->List PV->Bool
 | [],[]=>true
 |k::ks,p::ps=>k.fit p&&xP ks ps
 |_,_=>false
theorem rG:∀ {ks:List FT} {ps:List PV},xP ks ps=true->ps.length=ks.length
 | [],[],_=>rfl
 | [],_::_,h=>by cases h
 |_::_,[],h=>by cases h
 |k::ks,p::ps,h=>by simp only[xP,aMj]at h;simp[rG h.2]
theorem tD:∀ {ks:List FT} {ps:List PV},xP ks ps=true->∀(i:Nat) (h:i<ks.length) (h1:i<ps.length),(ks[i]).fit ps[i]=true
 | [],_,_=>λi h=>by simp at h
 |_::_,[],h=>by cases h
 |k::ks,p::ps,h=>λi h1 h2=>by
  simp only[xP,aMj]at h;cases i with
  |zero=>exact h.1
  |succ i=>exact tD h.2 i (by simpa using h1) (by simpa using h2)
end
section
variable{P:Program}{N nb:Nat}{ops:Array Oper}{Q:cT}
theorem sW{o:Oper}{l:List Oper}{T:aJ}{H:aH}{x:Operand}{t:TypeId}{ei:TypeId×TI}{id off n c:Nat}{cs:List PV}{z:PV}(hid:H[id]? =some (.row cs))(hw:aZ ops.toList T N o=some true)
  (hop:o.op= .call ⟨.builtin .clear, #[x], #[t]⟩) (okx:aU N x=true) (hx:bS T x= .msl id off n c) (hte:cJ P t=some ei) (hz:cA P ei.1=some z) (hzf:z.fits ei.2=true) (hzc:z.cells.all PV.isCell=true) (hfit:off+n*ei.2.sz<=cs.length)
  (h:bC P N nb ops Q l (bT T o.dst .junk) (H.set id (.row (dR cs off (aNb n z.cells).flatten)))):bC P N nb ops Q (o::l) T H:=by
 obtain⟨e,i⟩:=ei;obtain⟨h1,h2⟩:=cS hte;obtain⟨dd,f,h3,h4,rfl⟩:=cC h2;obtain⟨f',zv,h5,h6,rfl⟩:=eU hz;simp only at h5 hzf hfit;rw[h4]at h5;cases h5;obtain⟨hzs,hzj⟩:=PV.fits_spec hzf;simp only at hzs;have hsrc:((aNb n (aW zv).cells).flatten).length=n*f.size:=by simp[hzs]
 refine eB hw (λE a ho hH ht=> ?_) h;subst hH;have hvx:=aN ht x okx;rw[hx]at hvx;have vx:a.eval x= .slice (some ⟨E.ρ id,off,none⟩) n c:=by
  generalize a.eval x=w at hvx;cases hvx with
  |msl _ _ _ _ hbn hm=>rfl
 have hzl:RL E.view (Builtin.zeroCells zv.cells n) ((aNb n (aW zv).cells).flatten):=by
  have:=oL (V:=E.view) zv hzj n;rw[gY]at this;exact this
 have hall:((aNb n (aW zv).cells).flatten).all PV.isCell=true:=by
  rw[aNz]at hzc⊢;intro v hv;obtain⟨l,hl,hv⟩:=List.mem_flatten.1 hv;rw[List.mem_replicate]at hl;rw[hl.2]at hv;exact hzc v hv
 obtain⟨E',e1',e2,e3,e4⟩:=rF (P:=P) (id:=id) (off:=off) (Builtin.zeroCells zv.cells n).toList ((aNb n (aW zv).cells).flatten) 0 E cs ho hid (by rw[aMx];exact hzl.1) (λj hj=>by
  have:=hzl.2 j hj;rw[aMt]at this;rw[aNj,aNk];exact this) hall (by rw[aMx,hzl.1,hsrc];omega)
 refine⟨E', .tuple #[], .inl ?_,e2,e3,by rw[e4,aNm], .junk _⟩;unfold execOp;rw[hop];simp only;refine(dM (c:=⟨.builtin .clear, #[x], #[t]⟩) (a:=a) (E:=E) (P:=P) (xs:= [x]) (ts:= [t]) (ty:=o.type) rfl rfl rfl (s:=Builtin.clear_ #[t] o.type #[a.eval x]) rfl).trans ?_
 by_cases hn:n=0
 ·subst hn;have hE:E'.w=E.w:=by
   have:(Builtin.zeroCells zv.cells 0).toList= []:=by simp[Builtin.zeroCells]
   rw[this]at e1';injection e1' with _ e1';exact e1'.symm
  simp only[Builtin.clear_,aNf,aNw,aM9,aP h1,aNa,aNc,vx,hE]
 ·obtain⟨n',rfl⟩:∃n',n=n'+1:=⟨n-1,z8⟩;simp only[Builtin.clear_,aNf,aNw,aM9,aP h1,jF h4 h6,aNa,aNc,vx,e1']
end
section
variable{P:Program}{N nb:Nat}{ops:Array Oper}{Q:cT}{T:aJ}{H:aH}
def nJ(off sz l m:Nat):Nat:=if m=l then off else off+l*sz
def aBt(N:Nat)(T:aJ)(lo:Option Operand)(k d:Nat):Prop:=match lo with
 |none=>k=d
 |some y=>aU N y=true/\bS T y= .int .i64 (k:Int)
theorem jW{o:Oper}{t:TypeId}{x:Operand}{lo hi mx:Option Operand}{ei:TypeId×TI}{id off n c l h m:Nat}
  (hop:o.op= .slice t x lo hi mx) (okx:aU N x=true) (hte:cJ P t=some ei) (hx:bS T x= .msl id off n c) (hlo:aBt N T lo l 0) (hhi:aBt N T hi h n) (hmx:aBt N T mx m c) (hmh:mx.isSome=true->hi.isSome=true) (h1:l<=h) (h2:h<=m) (h3:m<=c):
  ∀(E:aK) (a:Act),E.Ok->(∀x∈o.op.operands.toList,aU N x=true->aQ E.view (a.eval x) (bS T x))->∃val,(execOp a.eval o).run P E.w= .ok (.value val) E.w/\aQ E.view val (.msl id (nJ off ei.2.sz l m) (h-l) (m-l)):=by
 intro E a ho hvs;obtain⟨e,i⟩:=ei;obtain⟨hu,hti⟩:=cS hte;obtain⟨d,f,h3',h4,rfl⟩:=cC hti;have hvx:=hvs x (by rw[hop];simp[Op.operands]) okx;rw[hx]at hvx;obtain⟨vx,hcm,hbn⟩:a.eval x= .slice (some ⟨E.ρ id,off,none⟩) n c/\c<=maxLen/\E.view.born id:=by
  generalize a.eval x=w at hvx;cases hvx with
  |msl _ _ _ _ hbn hm=>exact⟨rfl,hm,hbn⟩
 have hb:∀(k b:Nat) (w:BoundsCode),k<=b->(Instr.sliceBound (.int .i64 (k:Int)) b w).run P E.w= .ok k E.w:=λk b w hk=>by
  have hb0:(0:Int)<=(k:Int)/\(k:Int)<=b:=⟨z8,z8⟩;simp only[Instr.sliceBound,asIntOf,aM9,aNc,aNa,if_pos hb0,Sem.run_ite,tN]
 have vl:∀y,lo=some y->a.eval y= .int .i64 (l:Int):=λy e=>by
  subst e;have:=hvs y (by rw[hop];simp[Op.operands]) hlo.1;rw[hlo.2]at this;exact this.int_inv
 have vh:∀y,hi=some y->a.eval y= .int .i64 (h:Int):=λy e=>by
  subst e;have:=hvs y (by rw[hop];simp[Op.operands]) hhi.1;rw[hhi.2]at this;exact this.int_inv
 have vm:∀y,mx=some y->a.eval y= .int .i64 (m:Int):=λy e=>by
  subst e;have:=hvs y (by rw[hop];simp[Op.operands]) hmx.1;rw[hmx.2]at this;exact this.int_inv
 refine⟨.slice (if m=l then some ⟨E.ρ id,off,none⟩else some ((⟨E.ρ id,off,none⟩:Addr).add (l*f.size))) (h-l) (m-l), ?_, ?_⟩
 ·unfold execOp;rw[hop];rcases lo with _|y1<;>rcases hi with _|y2<;>rcases mx with _|y3<;>
   simp only[aBt]at hlo hhi hmx<;>(try subst hlo)<;>(try subst hhi)<;>(try subst hmx)<;>
   first
    | (simp at hmh;done)
    | (simp only[aM9,Instr.sliceAt,aP hu,aNa,Instr.slice,Instr.sliceBounds,aNr,aM6,Option.isSome_none,aNv,aNh,if_false,vx,if_true,aNc,cQ h4,vl _ rfl,vh _ rfl,vm _ rfl,hb _ _ _ h1,hb _ _ _ h2,hb _ _ _ h3,Nat.sub_zero])
    | (simp only[aM9,Instr.sliceAt,aP hu,aNa,Instr.slice,Instr.sliceBounds,aNr,aM6,Option.isSome_none,aNv,aNh,if_false,vx,if_true,aNc,cQ h4,vh _ rfl,vm _ rfl,hb _ _ _ h2,hb _ _ _ h3,Nat.sub_zero])
    | (simp only[aM9,Instr.sliceAt,aP hu,aNa,Instr.slice,Instr.sliceBounds,aNr,aM6,Option.isSome_none,aNv,aNh,if_false,vx,if_true,aNc,cQ h4,vl _ rfl,vh _ rfl,hb _ _ _ h1,hb _ _ _ h2,Nat.sub_zero])
    | (simp only[aM9,Instr.sliceAt,aP hu,aNa,Instr.slice,Instr.sliceBounds,aNr,aM6,Option.isSome_none,aNv,aNh,if_false,vx,if_true,aNc,cQ h4,vl _ rfl,hb _ _ _ h1,Nat.sub_zero])
    | (simp only[aM9,Instr.sliceAt,aP hu,aNa,Instr.slice,Instr.sliceBounds,aNr,aM6,Option.isSome_none,aNv,aNh,if_false,vx,if_true,aNc,cQ h4,vh _ rfl,hb _ _ _ h2,Nat.sub_zero])
    | (simp only[aM9,Instr.sliceAt,aP hu,aNa,Instr.slice,Instr.sliceBounds,aNr,aM6,Option.isSome_none,aNv,aNh,if_false,vx,if_true,aNc,cQ h4,Nat.sub_zero])
 ·have e:(if m=l then some (⟨E.ρ id,off,none⟩:Addr)else some ((⟨E.ρ id,off,none⟩:Addr).add (l*f.size)))=some ⟨E.ρ id,nJ off f.size l m,none⟩:=by
   unfold nJ
   split
   ·rfl
   ·rw[dH]
  rw[e];exact .msl id _ _ _ hbn z8
theorem uD{o:Oper}{l:List Oper}{x y:Operand}{t u:TypeId}{ei:TypeId×TI}{id off n c m:Nat}{cs src:List PV}(hid:H[id]? =some (.row cs))(hw:aZ ops.toList T N o=some true)
  (hop:o.op= .call ⟨.builtin .append, #[x,y], #[t,u]⟩) (okx:aU N x=true) (oky:aU N y=true) (hx:bS T x= .msl id off n c) (hn:n+m<=c)
  (hsrc:∀(E:aK) (v:Value),E.Ok->E.H=H->aQ E.view v (bS T y)->∃ad cp,v= .slice ad m cp/\∃arrs,(Builtin.firstCells ei.2.sz m v).run P E.w= .ok arrs E.w/\RL E.view arrs src)
  (hcell:src.all PV.isCell=true) (hfit:off+n*ei.2.sz+src.length<=cs.length)
  (hte:cJ P t=some ei) (htu:(cJ P u).isSome=true)
  (h:bC P N nb ops Q l (bT T o.dst (.msl id off (n+m) c)) (H.set id (.row (dR cs (off+n*ei.2.sz) src)))):bC P N nb ops Q (o::l) T H:=by
 refine eB hw (λE a ho hH ht=> ?_) h;subst hH;obtain⟨e,i⟩:=ei;obtain⟨h1,h2⟩:=cS hte;obtain⟨dd,f,h3,h4,rfl⟩:=cC h2;simp only at hfit hsrc⊢;obtain⟨eu,hue⟩:=eS htu;have hvx:=aN ht x okx;have hvy:=aN ht y oky;rw[hx]at hvx;obtain⟨ady,capy,vy,arrx,r1,r2⟩:=hsrc E _ ho rfl hvy;have vx:a.eval x= .slice (some ⟨E.ρ id,off,none⟩) n c/\c<=maxLen/\E.view.born id:=by
  generalize a.eval x=w at hvx;cases hvx with
  |msl _ _ _ _ hbn hm=>exact⟨rfl,hm,hbn⟩
 obtain⟨vx,hcm,hbn⟩:=vx;obtain⟨E',e1',e2,e3,e4⟩:=rF (P:=P) (id:=id) (off:=off+n*f.size) arrx.toList src 0 E cs ho hid (by rw[aMx];exact r2.1) (λj hj=>by
  have:=r2.2 j hj;rw[aMt]at this;rw[aNj,aNk];exact this) hcell (by
   rw[aMx,r2.1];omega)
 refine⟨E', .slice (some ⟨E.ρ id,off,none⟩) (n+m) c, .inl ?_,e2,e3,by rw[e4,aNm], ?_⟩
 ·unfold execOp;rw[hop];simp only;refine(dM (c:=⟨.builtin .append, #[x,y], #[t,u]⟩) (a:=a) (E:=E) (P:=P) (xs:= [x,y]) (ts:= [t,u]) (ty:=o.type) rfl rfl rfl (s:=Builtin.append_ #[t,u] o.type #[a.eval x,a.eval y]) rfl).trans ?_;have r1':(Builtin.firstCells f.size m (.slice ady m capy)).run P E.w= .ok arrx E.w:=by have:=r1;rw[vy]at this;exact this
  have hadd:(⟨E.ρ id,off,none⟩:Addr).add (n*f.size)=⟨E.ρ id,off+n*f.size,none⟩:=by rw[dH]
  simp only[Builtin.append_,aNf,aNw,aM8,aM9,aP h1,cQ h4,aP hue,aNa,aNc,vx,vy,Builtin.lenOf,hn,if_true,if_false,
   aNx,aNh,r1',hadd,e1']
 ·have:=aQ.msl (V:=E'.view) id off (n+m) c (e2.view.born id hbn) hcm;rw[e2.view.rho id hbn]at this;exact this
end
inductive vK{α:Type}(enc:α->PV)(sz:Nat)(H:aH):PV->List α->List Nat->Prop
 |nil:vK enc sz H (.slice [] .full) [] []
 |msl {ic c:Nat} {pre rest:List PV} {xs:List α} (hH:H[ic]? =some (.row (pre++(aL (xs.map enc)++rest)))) (hc:c*sz<=xs.length*sz+rest.length) (hn:xs.length<=c) (hm:c<=maxLen):vK enc sz H (.msl ic pre.length xs.length c) xs [ic]
section
variable{α:Type}{enc:α->PV}{sz:Nat}
theorem vK.of{H:aH}{ic c n off:Nat}{pre rest:List PV}{xs:List α}(hp:pre.length=off)(hx:xs.length=n)(hH:H[ic]? =some (.row (pre++(aL (xs.map enc)++rest))))(hc:c*sz<=n*sz+rest.length)(hn:n<=c)(hm:c<=maxLen):vK enc sz H (.msl ic off n c) xs [ic]:=by
 subst hp;subst hx;exact .msl hH hc hn hm
theorem vK.fr{H H':aH}{cv:PV}{xs:List α}{cid:List Nat}(h:vK enc sz H cv xs cid)(he:∀i∈cid,H'[i]? =H[i]?):vK enc sz H' cv xs cid:=by
 cases h with
 |nil=>exact .nil
 |msl hH hc hn hm=>exact .msl (by rw[he _ zz];exact hH) hc hn hm
theorem vK.lt{H:aH}{cv:PV}{xs:List α}{cid:List Nat}(h:vK enc sz H cv xs cid):∀i∈cid,i<H.length:=by
 cases h with
 |nil=>intro i hi;cases hi
 |msl hH hc hn hm=>intro i hi;rw[aN8]at hi;subst hi;exact lG hH
theorem vK.app{H:aH}{cv:PV}{xs:List α}{cid:List Nat}(h:vK enc sz H cv xs cid)(L:aH):vK enc sz (H++L) cv xs cid:=h.fr λi hi=>aM0 (h.lt i hi)
theorem vK.cases2{H:aH}{cv:PV}{xs:List α}{cid:List Nat}(h:vK enc sz H cv xs cid):(xs= []/\cv= .slice [] .full/\cid= [])\/
  ∃ic c pre rest,cv= .msl ic pre.length xs.length c/\cid= [ic]/\H[ic]? =some (.row (pre++(aL (xs.map enc)++rest)))/\c*sz<=xs.length*sz+rest.length/\xs.length<=c/\c<=maxLen:=by
 cases h with
 |nil=>exact .inl ⟨rfl,rfl,rfl⟩
 |msl hH hc hn hm=>exact .inr ⟨_,_,_,_,rfl,rfl,hH,hc,hn,hm⟩
theorem vK.one{H:aH}{cv:PV}{xs:List α}{cid:List Nat}(h:vK enc sz H cv xs cid):cv.isCell=true/\cv.cells= [cv]/\cv.isJunk=false:=by
 cases h<;>exact⟨rfl,rfl,rfl⟩
theorem mG(xs:List α)(j:Nat):aL (xs.map enc)=aL ((xs.take j).map enc)++aL ((xs.drop j).map enc):=by
 rw[<-eH,<-aN3,List.take_append_drop]
theorem xV(henc:∀a,(enc a).cells.length=sz){pre rest:List PV}{xs:List α}{i:Nat}(hi:i<xs.length):((pre++(aL (xs.map enc)++rest)).drop (pre.length+i*sz)).take sz=(enc xs[i]).cells/\pre.length+i*sz+sz<=(pre++(aL (xs.map enc)++rest)).length:=by
 have hl:(aL ((xs.take i).map enc)).length=i*sz:=by rw[fD henc,aNe,Nat.min_eq_left z8]
 have hd:aL ((xs.drop i).map enc)=(enc xs[i]).cells++aL ((xs.drop (i+1)).map enc):=by rw[aOi hi];rfl
 rw[mG xs i,hd];constructor
 ·have e:pre++(aL ((xs.take i).map enc)++((enc xs[i]).cells++aL ((xs.drop (i+1)).map enc))++rest)=(pre++aL ((xs.take i).map enc))++((enc xs[i]).cells++(aL ((xs.drop (i+1)).map enc)++rest)):=zz
  have e2:pre.length+i*sz=(pre++aL ((xs.take i).map enc)).length:=by rw[aNo,hl]
  rw[e,e2,List.drop_left,<-henc xs[i],List.take_left]
 ·simp only[aNo,hl,henc];omega
theorem UI{P:Program}{N nb:Nat}{ops:Array Oper}{Q:cT}(henc:∀a,(enc a).cells.length=sz)(hcell:∀a,(enc a).cells.all PV.isCell=true){o:Oper}{l:List Oper}{T:aJ}{H:aH}{x y:Operand}{t u:TypeId}{ei:TypeId×TI}{z:PV}{tl:bE}{cv:PV}{xs:List α}{cid:List Nat}{a:α}
  (hw:aZ ops.toList T N o=some true) (hop:o.op= .call ⟨.builtin .append, #[x,y], #[t,u]⟩) (okx:aU N x=true) (oky:aU N y=true) (hx:bS T x=cv) (hy:bS T y= .slice [enc a] tl) (hk:vK enc sz H cv xs cid)
  (hte:cJ P t=some ei) (hei:ei.2.sz=sz) (hb:(xs.length+1)*ei.2.bytes<=2^47) (hm:xs.length+1<=maxLen) (htu:(cJ P u).isSome=true) (hz:cA P ei.1=some z) (hzf:z.fits ei.2=true)
  (h:∀(cv':PV) (cid':List Nat) (H':aH),vK enc sz H' cv' (xs++ [a]) cid'->(∀i∈cid',i∈cid\/H.length<=i)->H.length<=H'.length->(∀j,j<H.length->j∉cid->H'[j]? =H[j]?)->bC P N nb ops Q l (bT T o.dst cv') H'):
  bC P N nb ops Q (o::l) T H:=by
 have hzs:z.cells.length=sz:=by rw[(PV.fits_spec hzf).1,hei]
 have hnew:∀oc,oc=aL (xs.map enc)->(∀(E:aK) (v:Value),E.Ok->E.H=H->aQ E.view v (bS T x)->∃ad,v= .slice ad xs.length xs.length/\∃arrs,(Builtin.firstCells ei.2.sz xs.length (.slice ad xs.length xs.length)).run P E.w= .ok arrs E.w/\RL E.view arrs oc)->bC P N nb ops Q (o::l) T H:=by
  intro oc hoc hold;refine zM (n:=xs.length) (oc:=oc) (e1:=enc a) (tl:=tl) hw hop okx oky hy hb hm (by rw[henc,hei]) hte htu hz hzf hold λc rest hc1 hc2 hrest=> ?_;have hrl:rest.length=(c- (xs.length+1))*sz:=by rw[hrest];simp[hzs]
  refine h _ [H.length] _ (.of (pre:= []) (rest:=rest) rfl zz ?_ ?_ hc1 hc2) (λi hi=>by rw[aN8]at hi;exact .inr z8) zz (λj hj _=>aM0 hj)
  ·rw[aM1 (aMq _),aNt,hoc,aN3,eH];simp[aL]
  ·rw[hrl,<-aNu];exact aNp _ z8
 rcases hk.cases2 with⟨h1,h2,h3⟩| ⟨ic,c,pre,rest,rfl,rfl,hH,hc,hn,hmx⟩
 ·subst h1;subst h2;exact hnew [] rfl λE v ho hE hv=>by rw[hx]at hv;exact SP hv
 ·by_cases hroom:xs.length+1<=c
  ·have hr:sz<=rest.length:=by
    have:=aNp sz hroom;rw[aNu]at this;omega
   have hl:(aL (xs.map enc)).length=xs.length*sz:=fD henc xs;refine uD (id:=ic) (off:=pre.length) (n:=xs.length) (c:=c) (m:=1) (src:=(enc a).cells) hH hw hop okx oky hx hroom (λE v ho hE hv=> ?_) (hcell a) (by rw[hei,henc];simp only[aNo,hl];omega) hte htu ?_
   ·rw[hy]at hv;obtain⟨arrx,r1,r2,ady,capy,vy,_⟩:=mP (P:=P) (E:=E) (sz:=ei.2.sz) hv λq hq=>by rw[aN8.1 hq,henc,hei]
    exact⟨ady,capy,vy,arrx,r1,by simpa[aL]using r2⟩
   ·have e:dR (pre++(aL (xs.map enc)++rest)) (pre.length+xs.length*ei.2.sz) (enc a).cells=pre++(aL ((xs++ [a]).map enc)++rest.drop sz):=by
     rw[hei,<-hl,<-aOe,<-aNo,jU _ _ _ (by rw[henc];exact hr),henc,aN3,eH];simp[aL]
    rw[e];refine h _ [ic] _ (.of (pre:=pre) (rest:=rest.drop sz) rfl zz (aM4 (lG hH)) ?_ hroom hmx) (λi hi=>.inl hi) zz (λj hj hn=>aM5 (by rintro rfl;simp at hn));rw[aNd,aNu];omega
  ·obtain rfl:c=xs.length:=z8
   refine hnew _ rfl λE v ho hE hv=> ?_;rw[hx]at hv;have hl:(aL (xs.map enc)).length=xs.length*sz:=fD henc xs;obtain⟨ad,rfl,arrs,r1,r2⟩:=kL (P:=P) (k:=xs.length) (sz:=sz) ho (by rw[hE];exact hH) (by simp only[aNo,hl];omega) hv;refine⟨ad,rfl,arrs,by rw[hei];exact r1, ?_⟩;rw[List.drop_left,<-hl,List.take_left]at r2;exact r2
end
section
variable{α:Type}{enc:α->PV}{sz:Nat}(henc:∀a,(enc a).cells.length=sz)
theorem yE(off sz m:Nat):nJ off sz 0 m=off:=by unfold nJ;split<;>simp
theorem xQ{off sz l m:Nat}(h:l<m):nJ off sz l m=off+l*sz:=by unfold nJ;rw[if_neg z8]
theorem mO(hcell:∀a,(enc a).cells.all PV.isCell=true):∀xs:List α,(aL (xs.map enc)).all PV.isCell=true
 | []=>rfl
 |a::xs=>by
  have:=mO hcell xs;show((enc a).cells++aL (xs.map enc)).all PV.isCell=true;rw[List.all_append,hcell a,this];rfl
include henc
theorem pD{xs:List α}{i:Nat}(hi:i<=xs.length):(aL ((xs.take i).map enc)).length=i*sz:=by rw[fD henc,aNe,Nat.min_eq_left hi]
theorem wZ(xs:List α)(i:Nat):(aL ((xs.drop i).map enc)).length=(xs.length-i)*sz:=by rw[fD henc,aNd]
theorem NS{pre rest:List PV}{xs:List α}:(pre++(aL (xs.map enc)++rest)).length=pre.length+(xs.length*sz+rest.length):=by simp[fD henc]
theorem DJ{pre rest:List PV}{xs:List α}{j c:Nat}(hj:j<=xs.length)(hn:xs.length<=c):((pre++(aL (xs.map enc)++rest)).drop (nJ pre.length sz j c)).take ((xs.length-j)*sz)=aL ((xs.drop j).map enc)/\nJ pre.length sz j c+(xs.length-j)*sz<=(pre++(aL (xs.map enc)++rest)).length:=by
 have lB:=wZ henc xs j
 by_cases h:c=j
 ·have h0:xs.length-j=0:=z8
  rw[h0,Nat.zero_mul]at lB⊢;refine⟨by rw[List.length_eq_zero_iff.1 lB];simp, ?_⟩;rw[NS henc];unfold nJ;rw[if_pos h];omega
 ·have lA:=pD henc hj;have e:pre++(aL (xs.map enc)++rest)=(pre++aL ((xs.take j).map enc))++(aL ((xs.drop j).map enc)++rest):=by rw[mG xs j];simp
  have e2:nJ pre.length sz j c=(pre++aL ((xs.take j).map enc)).length:=by unfold nJ;rw[if_neg h,aNo,lA]
  refine⟨by rw[e,e2,List.drop_left,<-lB,List.take_left], ?_⟩;rw[e2,e];simp only[aNo,lB];omega
theorem yM{pre rest:List PV}{xs:List α}{i:Nat}(hi:i<xs.length):∃mid,mid.length=sz/\dR (pre++(aL (xs.map enc)++rest)) (pre.length+i*sz) (aL ((xs.drop (i+1)).map enc))=pre++(aL ((xs.eraseIdx i).map enc)++(mid++rest)):=by
 obtain⟨A,hA⟩:∃A,A=aL ((xs.take i).map enc):=⟨_,rfl⟩;obtain⟨B,hB⟩:∃B,B=aL ((xs.drop (i+1)).map enc):=⟨_,rfl⟩;have lA:A.length=i*sz:=by rw[hA];exact pD henc z8
 have hfl:aL (xs.map enc)=A++((enc xs[i]).cells++B):=by rw[mG xs i,<-hA,aOi hi,hB];rfl
 have hfe:aL ((xs.eraseIdx i).map enc)=A++B:=by rw[List.eraseIdx_eq_take_drop_succ,aN3,eH,<-hA,<-hB]
 refine⟨((enc xs[i]).cells++B).drop B.length,by simp[henc], ?_⟩;rw[hfl,hfe,<-hB,<-lA,<-aNo,show pre++(A++((enc xs[i]).cells++B)++rest)=(pre++A)++((enc xs[i]).cells++B++rest)from by simp,jU _ _ _ (by simp;omega),List.drop_append_of_le_length zz];simp
theorem yN{pre rest mid Z:List PV}{ys:List α}{n:Nat}(hn:ys.length=n)(h1:mid.length=sz)(h2:Z.length=sz):dR (pre++(aL (ys.map enc)++(mid++rest))) (pre.length+n*sz) Z=pre++(aL (ys.map enc)++(Z++rest)):=by
 have l:=fD henc ys;subst hn;rw[<-l,<-aNo,show pre++(aL (ys.map enc)++(mid++rest))=(pre++aL (ys.map enc))++(mid++rest)from by simp,jU _ _ _ (by simp;omega),List.drop_append_of_le_length z8,h2,<-h1,List.drop_length];simp
theorem IQ{pre rest:List PV}{xs:List α}{i:Nat}(hi:i<xs.length):pre.length+i*sz+(aL ((xs.drop (i+1)).map enc)).length<=(pre++(aL (xs.map enc)++rest)).length:=by
 rw[NS henc,wZ henc];have:i*sz+(xs.length- (i+1))*sz<=xs.length*sz:=by rw[<-aNu];exact aNp _ z8
 omega
theorem IG{pre rest mid:List PV}{ys:List α}{n:Nat}(hn:ys.length=n)(h1:mid.length=sz):pre.length+n*sz+1*sz<=(pre++(aL (ys.map enc)++(mid++rest))).length:=by
 subst hn;rw[NS henc,aNo,h1];omega
theorem NG{xs:List α}{i:Nat}(hi:i<=xs.length){rest:List PV}(a:α){c:Nat}(hr:rest.length=(c-i)*sz)(hc:xs.length+1<=c):
  ∃R1 R2,dR (aL ((xs.take i).map enc)++rest) (i*sz) (enc a).cells=R1/\dR R1 ((i+1)*sz) (aL ((xs.drop i).map enc))=aL ((xs.take i++a::xs.drop i).map enc)++R2/\(xs.length+1)*sz+R2.length=c*sz/\i*sz+(enc a).cells.length<=(aL ((xs.take i).map enc)++rest).length/\(i+1)*sz+(aL ((xs.drop i).map enc)).length<=R1.length/\R1.length=c*sz:=by
 have lA:=pD henc hi;have lB:=wZ henc xs i;have la:=henc a;have e1:(c-i)*sz=sz+((xs.length-i)*sz+(c- (xs.length+1))*sz):=by
  rw[<-aNu,show c-i=1+((xs.length-i)+(c- (xs.length+1)))from by omega,aNu];omega
 have e2:c*sz=i*sz+(c-i)*sz:=by rw[<-aNu];congr 1;omega
 have e3:(xs.length+1)*sz=i*sz+(sz+(xs.length-i)*sz):=by
  rw[show xs.length+1=i+(1+(xs.length-i))from by omega,aNu,aNu];omega
 refine⟨aL ((xs.take i).map enc)++(enc a).cells++rest.drop sz,(rest.drop sz).drop ((xs.length-i)*sz), ?_, ?_, ?_, ?_, ?_, ?_⟩
 ·rw[<-lA,jU _ _ _ (by rw[la,hr];omega),la]
 ·rw[show(i+1)*sz=(aL ((xs.take i).map enc)++(enc a).cells).length from by rw[aNo,lA,la,aNu];omega,jU _ _ _ (by rw[aNd,hr,lB];omega),lB,aN3,eH];simp[aL]
 ·rw[aNd,aNd,hr];omega
 ·rw[aNo,lA,la,hr];omega
 ·simp only[aNo,aNd,lA,la,lB,hr,aNu];omega
 ·simp only[aNo,aNd,lA,la,hr];omega
theorem MO{xs:List α}{i:Nat}(hi:i<xs.length){rest:List PV}(a:α){c:Nat}(hc:xs.length*sz+rest.length=c*sz)(hroom:xs.length+1<=c):
  ∃R2,dR (aL (xs.map enc)++rest) ((i+1)*sz) (aL ((xs.drop i).map enc))=R2/\dR R2 (i*sz) (enc a).cells=aL ((xs.take i++a::xs.drop i).map enc)++rest.drop sz/\(i+1)*sz+(aL ((xs.drop i).map enc)).length<=(aL (xs.map enc)++rest).length/\i*sz+(enc a).cells.length<=R2.length/\(xs.length+1)*sz+(rest.drop sz).length=c*sz/\sz<=rest.length:=by
 have lA:=pD henc (Nat.le_of_lt hi);have lB:=wZ henc xs i;have la:=henc a;obtain⟨A,hA⟩:∃A,A=aL ((xs.take i).map enc):=⟨_,rfl⟩;obtain⟨B,hB⟩:∃B,B=aL ((xs.drop i).map enc):=⟨_,rfl⟩;rw[<-hA]at lA;rw[<-hB]at lB;have hfl:aL (xs.map enc)=A++B:=by rw[mG xs i,hA,hB]
 have hr:sz<=rest.length:=by
  have:=aNp sz hroom;rw[aNu]at this;omega
 have hBs:sz<=B.length:=by
  rw[lB];have:1*sz<=(xs.length-i)*sz:=aNp _ z8;omega
 have e0:xs.length*sz=i*sz+(xs.length-i)*sz:=by rw[<-aNu];congr 1;omega
 refine⟨A++(B.take sz++(B++rest.drop sz)), ?_, ?_, ?_, ?_, ?_,hr⟩
 ·rw[hfl,<-hB,show A++B++rest=(A++B.take sz)++(B.drop sz++rest)from by rw[aOe,aOe,<-aOe (B.take sz),List.take_append_drop],
   show(i+1)*sz=(A++B.take sz).length from by rw[aNo,lA,aNe,Nat.min_eq_left hBs,aNu];omega,jU _ _ _ (by simp;omega),List.drop_append,aNd]
  rw[List.drop_eq_nil_of_le (by rw[aNd];omega),show B.length- (B.length-sz)=sz from by omega];simp
 ·rw[<-lA,jU _ _ _ (by rw[la];simp;omega),la,aN3,eH,<-hA];rw[List.drop_append_of_le_length (by rw[aNe];omega),List.drop_eq_nil_of_le (by rw[aNe];omega)];simp[aL,hB]
 ·rw[hfl,<-hB];simp only[aNo,lA,aNu];omega
 ·simp only[aNo,aNe,lA,la];omega
 ·rw[aNd,aNu];omega
end
theorem xH{α:Type}{enc:α->PV}{sz:Nat}(henc:∀a,(enc a).cells.length=sz){xs:List α}{i j:Nat}(hi:i<xs.length)(hj:j<sz){a:α}{v:PV}(hea:(enc a).cells=(enc xs[i]).cells.set j v)(rest:List PV):
  (aL (xs.map enc)++rest).set (i*sz+j) v=aL ((xs.set i a).map enc)++rest/\i*sz+j<(aL (xs.map enc)++rest).length:=by
 have lA:(aL ((xs.take i).map enc)).length=i*sz:=pD henc (Nat.le_of_lt hi);have le:=henc xs[i];have hfl:aL (xs.map enc)=aL ((xs.take i).map enc)++((enc xs[i]).cells++aL ((xs.drop (i+1)).map enc)):=by rw[mG xs i,aOi hi];rfl
 have hfs:aL ((xs.set i a).map enc)=aL ((xs.take i).map enc)++((enc a).cells++aL ((xs.drop (i+1)).map enc)):=by
  rw[List.set_eq_take_append_cons_drop,if_pos hi,aN3,eH];rfl
 rw[hfl,hfs,hea];refine⟨?_,by simp only[aNo,lA,le];omega⟩;rw[aOe,aN4 _ _ (by rw[lA];omega),lA,Nat.add_sub_cancel_left,aOe,List.set_append_left _ _ (by rw[le];exact hj),aOe,aOe]
theorem kY{α:Type}(p:α->Bool)(xs:List α):(cN p xs= -1/\xs.any p=false)\/∃i,∃h:i<xs.length,cN p xs=(i:Int)/\p xs[i]=true/\(xs.take i).any p=false:=by
 unfold cN;cases h:xs.findIdx? p with
 |none=>exact .inl ⟨rfl,by rw[List.findIdx?_eq_none_iff]at h;rw[Bool.eq_false_iff];intro ha;obtain⟨x,hx,hp⟩:=List.any_eq_true.1 ha;rw[h x hx]at hp;cases hp⟩
 |some i=>
  rw[List.findIdx?_eq_some_iff_getElem]at h;obtain⟨hlt,h1,h2⟩:=h;refine .inr ⟨i,hlt,rfl,h1, ?_⟩;rw[Bool.eq_false_iff];intro ha;obtain⟨x,hx,hp⟩:=List.any_eq_true.1 ha;obtain⟨j,hj,e⟩:=List.mem_take_iff_getElem.1 hx;have:=h2 j z8;rw[e]at this;exact this hp
theorem zI{P:Program}{f:FuncId}{xs ys:List PV}{z:PV}{H:aH}{R:PV->aH->Prop}(h:aR P f (xs++z.drop1::ys) H R):aR P f (xs++z::ys) H R:=λE vargs ho hH hl=>by
 refine h E vargs ho hH ⟨by rw[hl.1];simp,λi hi=> ?_⟩;have hi2:i<(xs++z::ys).length:=by simpa using hi
 have:=hl.2 i hi2;rcases Nat.lt_trichotomy i xs.length with h1|h1|h1
 ·rw[List.getElem_append_left h1]at this⊢;exact this
 ·subst h1;rw[List.getElem_append_right (aMq _)]at this⊢;simp only[aNt,aMn]at this⊢;exact this.drop1
 ·rw[List.getElem_append_right z8]at this⊢;obtain⟨k,hk⟩:∃k,i-xs.length=k+1:=⟨i-xs.length-1,z8⟩;simp only[hk,List.getElem_cons_succ]at this⊢;exact this
theorem aD5{m:Nat->Bool}{i:Nat}{l:List (Nat×Nat)}{vs vs':List PV}(h:IT m i none .junk l vs vs'):∀x,pL l vs' (vC m i) x= .junk\/pL l vs' (vC m i) x=pL l vs m x:=zV h
def aEt:PV->Option Nat
 | .slice es _=>some es.length
 | .msl _ _ n _=>some n
 |_=>none
theorem vK.len{α:Type}{enc:α->PV}{sz:Nat}{H:aH}{cv:PV}{xs:List α}{cid:List Nat}(h:vK enc sz H cv xs cid):aEt cv=some xs.length:=by
 cases h<;>rfl
theorem LZ{P:Program}{N nb:Nat}{ops:Array Oper}{Q:cT}{o:Oper}{l:List Oper}{T:aJ}{H:aH}{x:Operand}{t:TypeId}{n:Nat}(hw:aZ ops.toList T N o=some true)(hop:o.op= .call ⟨.builtin .len, #[x], #[t]⟩)(okx:aU N x=true)(hx:aEt (bS T x)=some n)(hte:(cJ P t).isSome=true)
  (h:bC P N nb ops Q l (bT T o.dst (.int .i64 n)) H):bC P N nb ops Q (o::l) T H:=by
 refine eT 1 (T':=bT T o.dst (.int .i64 n)) (H':=H) ?_ ?_ h
 ·show zO P N ops.toList [o] (some (T,H))=_;simp only[zO,as0,hw,YK];rw[hop];have:fN P false H.length T H (.call ⟨.builtin .len, #[x], #[t]⟩)=some (.int .i64 n,none):=by
   show dA P H.length T H .len [x] [t]=_;simp only[dA];revert hx;cases bS T x<;>intro hx<;>simp only[aEt]at hx<;>first| (cases hx;done)| (cases hx;exact if_pos hte)
  rw[this];rfl
 ·show([o].all λo=>dC N o.op)=true;simp[dC,hop,Op.operands,Call.operands,okx]
open Go.RowKit
def xN{α:Type}(xs:List α)(n:Nat):bE:=if xs.isEmpty then .full else .tok n
def pN{α:Type}(xs:List α)(sz:Nat)(H:aH):aH:=if xs.isEmpty then H else H++ [.buf xs.length sz]
theorem lO{α:Type}{xs:List α}{sz j:Nat}{H:aH}(h:j<H.length):(pN xs sz H)[j]? =H[j]? :=by
 unfold pN;split
 ·rfl
 ·exact aM0 h
theorem mC{α:Type}(xs:List α)(sz:Nat)(H:aH):H.length<=(pN xs sz H).length:=by
 unfold pN;split
 ·exact aMq _
 ·simp
theorem kV{α:Type}{enc:α->PV}{sz:Nat}(henc:∀a,(enc a).cells.length=sz)(hcell:∀a,(enc a).cells.all PV.isCell=true){P:Program}{N nb:Nat}{ops:Array Oper}{Q:cT}{o:Oper}{l:List Oper}{T:aJ}{H0:aH}{x y:Operand}{t u:TypeId}{ei:TypeId×TI}{z:PV}{xs ys:List α}{tl:bE}
  (hw:aZ ops.toList T N o=some true) (hop:o.op= .call ⟨.builtin .append, #[x,y], #[t,u]⟩) (okx:aU N x=true) (oky:aU N y=true) (hx:bS T x= .slice (xs.map enc) (xN xs H0.length)) (hy:bS T y= .slice (ys.map enc) tl)
  (hte:cJ P t=some ei) (hsz:ei.2.sz=sz) (hpos:0<sz) (hb:(xs.length+ys.length)*ei.2.bytes<=2^47) (hm:xs.length+ys.length<=maxLen) (hue:(cJ P u).isSome=true) (hz:cA P ei.1=some z) (hfit:z.fits ei.2=true)
  (h:bC P N nb ops Q l (bT T o.dst (.slice ((xs++ys).map enc) (xN (xs++ys) H0.length))) (pN (xs++ys) sz H0)):bC P N nb ops Q (o::l) T (pN xs sz H0):=by
 refine eT 1 (T':=bT T o.dst (.slice ((xs++ys).map enc) (xN (xs++ys) H0.length))) (H':=pN (xs++ys) sz H0) ?_ ?_ h
 ·show zO P N ops.toList [o] (some (T,pN xs sz H0))=_;simp only[zO,as0,hw,YK];rw[hop];have:∃e,fN P false (pN xs sz H0).length T (pN xs sz H0) (.call ⟨.builtin .append, #[x,y], #[t,u]⟩)=some (.slice ((xs++ys).map enc) (xN (xs++ys) H0.length),e)/\appS (pN xs sz H0) e=pN (xs++ys) sz H0:=by
   show ∃e,dA P (pN xs sz H0).length T (pN xs sz H0) .append [x,y] [t,u]=_/\_;simp only[dA,hte,hz,hue,hfit,aM3,and_self,if_true,hx,hy,cK];have h1:∀(vs:List α),∀e∈vs.map enc,e.cells.length=ei.2.sz:=λvs e he=>by
    obtain⟨v,_,rfl⟩:=aNy.1 he;rw[hsz];exact henc v
   have h2:∀(vs:List α),∀e∈vs.map enc,e.cells.length=ei.2.sz/\e.cells.all PV.isCell=true:=λvs e he=>by
    obtain⟨v,_,rfl⟩:=aNy.1 he;rw[hsz];exact⟨henc v,hcell v⟩
   cases ys with
   |nil=>exact⟨none,zz,by simp[appS]⟩
   |cons b ys=>
    rw[if_neg zz,if_pos ⟨by simp only[aMw];exact hb,by simp only[aMw];exact hm,h1 xs,h2 (b::ys),by rw[hsz];exact hpos⟩];cases xs with
    |nil=>exact⟨_,by simp[xN,pN];rfl,by simp[pN,appS,hsz]⟩
    |cons a xs=>
     have hg:(pN (a::xs) sz H0)[H0.length]? =some (.buf (a::xs).length sz):=by simp[pN]
     simp only[show xN (a::xs) H0.length= .tok H0.length from rfl,hg];rw[if_pos ⟨zz,hsz.symm⟩];refine⟨_,by simp[xN];rfl, ?_⟩;simp[pN,appS]
     try omega
  obtain⟨e,h1,h2⟩:=this;rw[h1];simp only[as2,h2]
 ·show([o].all λo=>dC N o.op)=true;simp[dC,hop,Op.operands,Call.operands,okx,oky]
theorem JC{P:Program}{N nb:Nat}{ops:Array Oper}{Q:cT}{o:Oper}{l:List Oper}{T:aJ}{H:aH}{t y:TypeId}{x:Operand}{id off n c:Nat}
  (hop:o.op= .binOp .eql t x (.const (.slice none 0 0)) y) (hx:bS T x= .msl id off n c) (hw:aZ ops.toList T N o=some true) (hok:aU N x=true) (hte:(cJ P t).isSome=true)
  (h:bC P N nb ops Q l (bT T o.dst (.bool false)) H):bC P N nb ops Q (o::l) T H:=by
 intro E a ho hH ht;have hr:=aN ht x hok;rw[hx]at hr;obtain⟨e,hu⟩:=eS hte;have hres:(execOp a.eval o).run P E.w= .ok (.value (.bool false)) E.w:=by
  have hc:a.eval (.const (.slice none 0 0))= .slice none 0 0:=rfl;generalize hvx:a.eval x=vx at hr;cases hr with
  |msl _ _ _ _ hbn hm=>
   have he:∀a' len cap,(Op.equal t (.slice (some a') len cap) (.slice none 0 0)).run P E.w= .ok false E.w:=by
    intro a' len cap;have key:∀d,(Op.equalIn (d+1) t (.slice (some a') len cap) (.slice none 0 0)).run P E.w= .ok false E.w:=by
     intro d;simp only[Op.equalIn,aM9,aP hu,aNa,aNc]
    exact key 9999
   unfold execOp;rw[hop];simp only[aM9,hc,hvx,BL,aNa,binOp,he,aNc]
 have hn:=h E (a.put o.dst (.bool false)) ho hH (ht.put o.dst (.bool false));refine dS (bY ht hw) ?_;unfold Oper.wp;rw[hres];exact hn
section
variable{P:Program}{N nb:Nat}{ops:Array Oper}{Q:cT}
theorem EF{o:Oper}{l:List Oper}{T:aJ}{H:aH}{x y:Operand}{t u:TypeId}{ei:TypeId×TI}{z:PV}{n:Nat}{src:List PV}(id:Nat)(hid:H[id]? =some .unborn)(hw:aZ ops.toList T N o=some true)
  (hop:o.op= .call ⟨.builtin .append, #[x,y], #[t,u]⟩) (okx:aU N x=true) (oky:aU N y=true) (hx:bS T x= .slice [] .full) (hsrc:∀(E:aK) (v:Value),E.Ok->E.H=H->aQ E.view v (bS T y)->∃ad cap arrs,v= .slice ad n cap/\(Builtin.firstCells ei.2.sz n v).run P E.w= .ok arrs E.w/\RL E.view arrs src) (hne:0<n)
  (hb:n*ei.2.bytes<=2^47) (hm:n<=maxLen) (hxs:src.length=n*ei.2.sz) (hsz:0<ei.2.sz)
  (hte:cJ P t=some ei) (htu:(cJ P u).isSome=true) (hz:cA P ei.1=some z) (hzf:z.fits ei.2=true)
  (h:∀(c:Nat) (rest:List PV),n<=c->c<=maxLen->rest=(aNb (c-n) z.cells).flatten->bC P N nb ops Q l (bT T o.dst (.msl id 0 n c)) (H.set id (.row (src++rest)))):bC P N nb ops Q (o::l) T H:=by
 intro E a ho hH ht;subst hH;obtain⟨e,i⟩:=ei;obtain⟨h1,h2⟩:=cS hte;obtain⟨dd,f,h3,h4,rfl⟩:=cC h2;obtain⟨f',zv,h5,h6,rfl⟩:=eU hz;simp only at h5 hzf hb hxs hsz hsrc;rw[h4]at h5;cases h5;obtain⟨hzs,hzj⟩:=PV.fits_spec hzf;simp only at hzs;obtain⟨zc1,zc2⟩:=(dP E.view zv).not_junk_cells hzj;have hzv:zv.cells.size=f.size:=zc1.trans hzs;obtain⟨eu,hue⟩:=eS htu;have hvx:=aN ht x okx;have hvy:=aN ht y oky;rw[hx]at hvx;obtain⟨adx,vx⟩:∃ad,a.eval x= .slice ad 0 0:=by
  generalize a.eval x=w at hvx;cases hvx with
  |nils _ _=>exact⟨none,rfl⟩
  |slice ad len cap sz _ _ vs hlen hcap hmax hsz' hc hr ht=>
   have:cap=len:=ht;subst this;simp at hlen;subst hlen;exact⟨some ad,rfl⟩
 have em:maxLen=9223372036854775807:=z7
 have hxl:0<n:=hne;obtain⟨c,hc6,hc7,hc8⟩:=kU (P:=P) (w:=E.w) n 0 e;have hcm:c<=maxLen:=by
  have:=hc8 (by have e2:maxLen=2^63-1:=rfl;omega);have e2:maxLen=2^63-1:=rfl;omega
 have hd:=ho.drew;obtain⟨ady,capy,arrx,vy,r1,r2⟩:=hsrc E.drew (a.eval y) hd rfl hvy;have hxsz:arrx.size=n*f.size:=by rw[r2.1,hxs]
 have hzl:=oL (V:=E.view) zv hzj (c-n);have hzl2:RL E.view (Builtin.zeroCells zv.cells (c-n)) ((aNb (c-n) (aW zv).cells).flatten):=by
  have:=hzl;rw[gY]at this;exact this
 let arr:Array Value:= #[]++arrx++Builtin.zeroCells zv.cells (c-n)
 have hrl:RL E.drew.view arr (src++(aNb (c-n) (aW zv).cells).flatten):=by
  have:=mN (V:=E.drew.view) (a1:=arrx) (c1:=src) r2 hzl2;simpa[arr]using this
 have hle':=aK.newRow_le (E:=E.drew) hd (id:=id) hid arr e (src++(aNb (c-n) (aW zv).cells).flatten);have hok':=aK.Ok.newRow (E:=E.drew) hd (id:=id) hid arr e (src++(aNb (c-n) (aW zv).cells).flatten) hrl.1 hrl.2;have hlen:=lG hid;have run1:(execOp a.eval o).run P E.w= .ok (.value (.slice (some ⟨E.w.heap.size,0,none⟩) n c)) (E.drew.newRow id arr e (src++(aNb (c-n) (aW zv).cells).flatten)).w:=by
  unfold execOp;rw[hop];simp only;refine(dM (c:=⟨.builtin .append, #[x,y], #[t,u]⟩) (a:=a) (E:=E) (P:=P) (xs:= [x,y]) (ts:= [t,u]) (ty:=o.type) rfl rfl rfl (s:=Builtin.append_ #[t,u] o.type #[a.eval x,a.eval y]) rfl).trans ?_;have hc6':(choose (.appendCap n 0 e)).run P E.w= .ok c E.drew.w:=hc6;have n2:¬n<=0:=z8
  have n3:¬((n:Nat):Int)>IntKind.i64.max:=by
   have e1:IntKind.i64.max=9223372036854775807:=z7
   rw[e1];omega
  have n4:¬Builtin.nextslicecap n 0*f.bytes>2^48:=by
   have:=kB n 0 z8;have:=aNp f.bytes this;rw[Nat.mul_assoc]at this;omega
  have hfirst:(Builtin.firstCells f.size 0 (.slice adx 0 0)).run P E.drew.w= .ok #[] E.drew.w:=by
   cases adx<;>simp only[Builtin.firstCells,Nat.zero_mul,loadCells,loadCellsFrom,aNc]
  have r1':(Builtin.firstCells f.size n (.slice ady n capy)).run P E.drew.w= .ok arrx E.drew.w:=by rw[<-vy];exact r1
  simp only[Builtin.append_,aNf,aNw,aM8,aM9,aP h1,cQ h4,aP hue,aNa,aNc,vx,vy,Builtin.lenOf,n2,n3,n4,if_true,if_false,mQ h4,
   aNn,aNx,aNh,jF h4 h6,hc6',uI,hfirst,r1',Go.newRow,run_newObj,false_and]
  rfl
 have hv:aQ (E.drew.newRow id arr e (src++(aNb (c-n) (aW zv).cells).flatten)).view (.slice (some ⟨E.w.heap.size,0,none⟩) n c) (.msl id 0 n c):=by
  have:=aQ.msl (V:=(E.drew.newRow id arr e (src++(aNb (c-n) (aW zv).cells).flatten)).view) id 0 n c
   ⟨.row _,by simp only[aK.newRow];exact aM4 (lG hid),zz⟩ hcm
  simpa[aK.view,aK.newRow,aK.drew]using this
 refine dS (bY ht hw) ?_;unfold Oper.wp;rw[run1];show wpList P ops _ _ (a.put o.dst _) _;have hn:=h c _ hc7 hcm rfl _ _ hok' rfl ((ht.mono (E.drew_le.trans hle').view).put o.dst hv);exact dL (λe a w hl=>fH ((E.drew_le.trans hle').leN nb) (λ_ _ _ q=>q) hl) l _ _ hn
theorem VL{o:Oper}{l:List Oper}{T:aJ}{H:aH}{x y:Operand}{t u:TypeId}{ei:TypeId×TI}{id off c:Nat}(hw:aZ ops.toList T N o=some true)
  (hop:o.op= .call ⟨.builtin .append, #[x,y], #[t,u]⟩) (okx:aU N x=true) (oky:aU N y=true) (hx:bS T x= .slice [] .full) (hy:bS T y= .msl id off 0 c)
  (hte:cJ P t=some ei) (htu:(cJ P u).isSome=true) (h:bC P N nb ops Q l (bT T o.dst (.slice [] .full)) H):bC P N nb ops Q (o::l) T H:=by
 intro E a ho hH ht;subst hH;obtain⟨e,i⟩:=ei;obtain⟨h1,h2⟩:=cS hte;obtain⟨dd,f,h3,h4,rfl⟩:=cC h2;obtain⟨eu,hue⟩:=eS htu;have hvx:=aN ht x okx;have hvy:=aN ht y oky;rw[hx]at hvx;rw[hy]at hvy;obtain⟨adx,vx⟩:∃ad,a.eval x= .slice ad 0 0:=by
  generalize a.eval x=w at hvx;cases hvx with
  |nils _ _=>exact⟨none,rfl⟩
  |slice ad len cap sz _ _ vs hlen hcap hmax hsz' hc hr ht=>
   have:cap=len:=ht;subst this;simp at hlen;subst hlen;exact⟨some ad,rfl⟩
 obtain⟨ady,vy⟩:∃ad,a.eval y= .slice ad 0 c:=by
  generalize a.eval y=w at hvy;cases hvy with
  |msl _ _ _ _ hbn hm=>exact⟨_,rfl⟩
 have run1:(execOp a.eval o).run P E.w= .ok (.value (a.eval x)) E.w:=by
  unfold execOp;rw[hop];simp only;refine(dM (c:=⟨.builtin .append, #[x,y], #[t,u]⟩) (a:=a) (E:=E) (P:=P) (xs:= [x,y]) (ts:= [t,u]) (ty:=o.type) rfl rfl rfl (s:=Builtin.append_ #[t,u] o.type #[a.eval x,a.eval y]) rfl).trans ?_;have hfirst:(Builtin.firstCells f.size 0 (.slice ady 0 c)).run P E.w= .ok #[] E.w:=by
   cases ady<;>simp only[Builtin.firstCells,Nat.zero_mul,loadCells,loadCellsFrom,aNc]
  simp only[Builtin.append_,aNf,aNw,aM8,aM9,aP h1,cQ h4,aP hue,aNa,aNc,vx,vy,Builtin.lenOf,if_true,if_false,aNn,aMq,
   aNx,aNh,hfirst]
  cases adx<;>simp[storeCells,aNc,aM9,aNa]
 refine dS (bY ht hw) ?_;unfold Oper.wp;rw[run1];show wpList P ops _ _ (a.put o.dst _) _;exact h E _ ho rfl (ht.put o.dst hvx)
end
theorem GQ{m m':Nat->Bool}:∀ {l:List (Nat×Nat)} {vs:List PV},(∀p∈l,m p.1=m' p.1)->pL l vs m=pL l vs m'
 | [],_,_=>rfl
 | (i,s)::l,[],_=>rfl
 | (i,s)::l,v::vs,h=>by
  have e1:=h (i,s) zz;have e2:=GQ (l:=l) (vs:=vs) (m:=m) (m':=m') λp hp=>h p (by simp[hp]);funext x;rw[kZ,kZ,e2];simp only at e1;rw[e1]
theorem aI7{m:Nat->Bool}{i:Nat}(j:Nat){d:Option Nat}{r:PV}{l:List (Nat×Nat)}{vs vs':List PV}(hj:m j=true)(hi:l.all (λp=> !(p.1==i))=true)(h:IT m j d r l vs vs'):∀x,pL l vs' (vC m i) x= .junk\/pL l vs' (vC m i) x=bT (pL l vs m) d r x:=by
 have e:pL l vs' (vC m i)=pL l vs' (vC m j):=GQ λp hp=>by
  have h1:p.1≠i:=by simpa using aNz.1 hi p hp
  rw[tH h1];rcases Classical.em (p.1=j)with e|e
  ·rw[e,xB,hj]
  ·rw[tH e]
 rw[e];exact zV h
def KS(a b:List UInt8):Bool:= !(Op.bytesLess a b||a==b)
theorem YJ{P:Program}{N:Nat}{o:Oper}{T:aJ}{t t':TypeId}{x y:Operand}{a b:List UInt8}(hop:o.op= .binOp .gtr t x y t')(okx:aU N x=true)(oky:aU N y=true)(hx:bS T x= .str a)(hy:bS T y= .str b)
  (E:aK) (A:Act) (ho:E.Ok) (hvs:∀x∈o.op.operands.toList,aU N x=true->aQ E.view (A.eval x) (bS T x)):∃val,(execOp A.eval o).run P E.w= .ok (.value val) E.w/\aQ E.view val (.bool (KS a b)):=by
 have rx:=hvs x (by rw[hop];simp[Op.operands]) okx;have ry:=hvs y (by rw[hop];simp[Op.operands]) oky;rw[hx]at rx;rw[hy]at ry;refine⟨.bool (KS a b), ?_, .bool _⟩;generalize hvx:A.eval x=vx at rx;generalize hvy:A.eval y=vy at ry;cases rx with
 |str z=>cases ry with
  |str u=>
   unfold execOp;rw[hop];simp only[aM9,hvx,hvy,FF,aNa,binOp,Op.stringOp,aNc,ByteArray.toList_eq];rfl
theorem rW{P:Program}{N nb:Nat}{ops:Array Oper}{Q:cT}{l:List Oper}{T:aJ}{H:aH}{d:Nat}{es:List PV}{tl:bE}(h:bC P N nb ops Q l (bT T (some d) (.slice es .none)) H):bC P N nb ops Q l (bT T (some d) (.slice es tl)) H:=λE a ho hH ht=>
 h E a ho hH ⟨ht.size,ht.defers,λi hi=>by
  have:=ht.rel i hi;simp only[bT,upd]at this⊢
  split
  ·rename_i e;rw[if_pos e]at this;exact this.drop1
  ·rename_i e;rw[if_neg e]at this;exact this⟩
def uX(sz n:Nat)(tl:bE)(H:aH):Prop:=(n=0/\tl= .full)\/∃id,tl= .tok id/\H[id]? =some (.buf n sz)
theorem uX.fr{sz n:Nat}{tl:bE}{H H':aH}(h:uX sz n tl H)(hs:∀j,tl= .tok j->H'[j]? =H[j]?):uX sz n tl H':=by
 rcases h with h| ⟨id,rfl,h⟩
 ·exact .inl h
 ·exact .inr ⟨id,rfl,(hs id rfl).trans h⟩
theorem uX.lt{sz n:Nat}{tl:bE}{H:aH}(h:uX sz n tl H):∀j,tl= .tok j->j<H.length:=by
 rcases h with⟨_,rfl⟩| ⟨id,rfl,h⟩
 ·intro j e;cases e
 ·intro j e;cases e;exact lG h
theorem MD{α:Type}{enc:α->PV}{sz:Nat}(henc:∀a,(enc a).cells.length=sz)(hcell:∀a,(enc a).cells.all PV.isCell=true){P:Program}{N nb:Nat}{ops:Array Oper}{Q:cT}{o:Oper}{l:List Oper}{T:aJ}{H:aH}{x y:Operand}{t u:TypeId}{ei:TypeId×TI}{z:PV}{xs ys:List α}{tl tl2:bE}
  (hw:aZ ops.toList T N o=some true) (hop:o.op= .call ⟨.builtin .append, #[x,y], #[t,u]⟩) (okx:aU N x=true) (oky:aU N y=true) (hx:bS T x= .slice (xs.map enc) tl) (hy:bS T y= .slice (ys.map enc) tl2) (hk:uX sz xs.length tl H)
  (hte:cJ P t=some ei) (hsz:ei.2.sz=sz) (hpos:0<sz) (hb:(xs.length+ys.length)*ei.2.bytes<=2^47) (hm:xs.length+ys.length<=maxLen) (hue:(cJ P u).isSome=true) (hz:cA P ei.1=some z) (hfit:z.fits ei.2=true)
  (h:∀tl' H',uX sz (xs++ys).length tl' H'->H.length<=H'.length->(∀j,j<H.length->tl≠ .tok j->H'[j]? =H[j]?)->(∀j,tl'= .tok j->tl= .tok j\/H.length<=j)->bC P N nb ops Q l (bT T o.dst (.slice ((xs++ys).map enc) tl')) H'):bC P N nb ops Q (o::l) T H:=by
 have key:∃e tl',fN P false H.length T H (.call ⟨.builtin .append, #[x,y], #[t,u]⟩)=some (.slice ((xs++ys).map enc) tl',e)/\uX sz (xs++ys).length tl' (appS H e)/\H.length<=(appS H e).length/\(∀j,j<H.length->tl≠ .tok j->(appS H e)[j]? =H[j]?)/\(∀j,tl'= .tok j->tl= .tok j\/H.length<=j):=by
  show ∃e tl',dA P H.length T H .append [x,y] [t,u]=_/\_;simp only[dA,hte,hz,hue,hfit,aM3,and_self,if_true,hx,hy,cK];have h1:∀(vs:List α),∀e∈vs.map enc,e.cells.length=ei.2.sz:=λvs e he=>by
   obtain⟨v,_,rfl⟩:=aNy.1 he;rw[hsz];exact henc v
  have h2:∀(vs:List α),∀e∈vs.map enc,e.cells.length=ei.2.sz/\e.cells.all PV.isCell=true:=λvs e he=>by
   obtain⟨v,_,rfl⟩:=aNy.1 he;rw[hsz];exact⟨henc v,hcell v⟩
  cases ys with
  |nil=>exact⟨none,tl,zz,by simpa[appS]using hk,aMq _,λ_ _ _=>rfl,λj e=>.inl e⟩
  |cons b ys=>
   rw[if_neg zz,if_pos ⟨by simp only[aMw];exact hb,by simp only[aMw];exact hm,h1 xs,h2 (b::ys),by rw[hsz];exact hpos⟩];rcases hk with⟨h0,rfl⟩| ⟨id,rfl,hid⟩
   ·obtain rfl:=List.length_eq_zero_iff.1 h0;refine⟨some (H.length, .buf ((([]:List α).map enc).length+((b::ys).map enc).length) ei.2.sz), .tok H.length,zz, ?_,by simp[appS],λj hj _=>by simp only[appS,if_pos];exact aM0 hj,λj e=>by cases e;exact .inr (aMq _)⟩;exact .inr ⟨H.length,rfl,by simp[appS,hsz]⟩
   ·have hil:=lG hid;simp only[hid];rw[if_pos ⟨zz,hsz.symm⟩];have hne:¬id=H.length:=z8
    refine⟨_, .tok id,by simp;rfl, ?_,by simp[appS,hne],λj hj hn=> ?_,λj e=>.inl e⟩
    ·refine .inr ⟨id,rfl, ?_⟩;simp only[appS,if_neg hne];rw[aM4 hil];simp
    ·simp only[appS,if_neg hne];exact aM5 (λe=>hn (by rw[e]))
 obtain⟨e,tl',k1,k2,k3,k4,k5⟩:=key;refine eT 1 (T':=bT T o.dst (.slice ((xs++ys).map enc) tl')) (H':=appS H e) ?_ ?_ (h tl' _ k2 k3 k4 k5)
 ·show zO P N ops.toList [o] (some (T,H))=_;simp only[zO,as0,hw,YK];rw[hop,k1];rfl
 ·show([o].all λo=>dC N o.op)=true;simp[dC,hop,Op.operands,Call.operands,okx,oky]
end Go.Abs
namespace Go.Abs
section
variable{m:Nat->Bool}{r:PV}{l:List (Nat×Nat)}{vs vs':List PV}
theorem TH(i d:Nat)(h:IT m i (some d) r l vs vs':=by repeat' (first|exact trivial|exact λ_=>rfl|exact rfl|refine aI ?_ ?_)):∀x,pL l vs' (vC m i) x= .junk\/pL l vs' (vC m i) x=bT (pL l vs m) (some d) r x:=zV h
theorem ZtE(i d:Nat){k:Nat}(x:m k=false)(h:m k=false->IT m i (some d) r l vs vs':=by intro x;repeat' (first|exact trivial|exact λ_=>rfl|exact rfl|exact λh=>absurd (h.symm.trans x) z7|refine aI ?_ ?_)):∀x,pL l vs' (vC m i) x= .junk\/pL l vs' (vC m i) x=bT (pL l vs m) (some d) r x:=zV (h x)
theorem ZtF(i d:Nat){k k':Nat}(x:m k=false)(y:m k'=false)(h:m k=false->m k'=false->IT m i (some d) r l vs vs':=by intro x y;repeat' (first|exact trivial|exact λ_=>rfl|exact rfl|exact λh=>absurd (h.symm.trans x) z7|exact λh=>absurd (h.symm.trans y) z7|refine aI ?_ ?_)):∀x,pL l vs' (vC m i) x= .junk\/pL l vs' (vC m i) x=bT (pL l vs m) (some d) r x:=zV (h x y)
theorem Zt0(i:Nat)(h:IT m i none .junk l vs vs':=by repeat' (first|exact trivial|exact λ_=>rfl|exact rfl|refine aI ?_ ?_)):∀x,pL l vs' (vC m i) x= .junk\/pL l vs' (vC m i) x=pL l vs m x:=aD5 h
theorem ZtA{p:Prop}(h:p:=by repeat' (first|exact trivial|exact λ_=>rfl|exact rfl|refine aI ?_ ?_)):p:=h
theorem oU{a b c:Bool}{p:Prop}(x:a=b)(hd:b≠c:=by decide):a=c->p:=λh=>absurd (h.symm.trans x) hd.symm
end
end Go.Abs
namespace Go.Memo
abbrev QK:=Int×Int×Int
structure QV where
 nums:List Int
 text:List UInt8
 deriving DecidableEq
structure qH where
 val:QV
 c:Nat
 d:Nat
def qH.zero:qH:=⟨⟨[],[]⟩,0,0⟩
structure gU where
 val:QV
 v:Nat
 c:Nat
 D:Nat
 deps:List QK
structure St where
 now:Nat
 lc:Nat->Nat
 cell:QK->qH
 res:QK->Option gU
 comps:Int
 clk:Nat
inductive cR where
 |ret (v:QV)
 |get (k:QK) (c:QV->cR)
 |bad
def cR.den(e:QK->QV):cR->QV
 | .ret v=>v
 | .get k c=>(c (e k)).den e
 | .bad=>⟨[],[]⟩
def cR.reads(e:QK->QV):cR->List QK
 | .ret _=> []
 | .get k c=>k::(c (e k)).reads e
 | .bad=> []
def cR.bel(p:QK->Prop):cR->Prop
 | .ret _=>True
 | .get k c=>p k/\∀v,(c v).bel p
 | .bad=>True
def cR.safe(e:QK->QV):cR->Prop
 | .ret _=>True
 | .get k c=>(c (e k)).safe e
 | .bad=>False
theorem cR.congr{e e':QK->QV}:∀(p:cR),(∀d∈p.reads e,e' d=e d)->p.den e'=p.den e/\p.reads e'=p.reads e
 | .ret v,_=>⟨rfl,rfl⟩
 | .bad,_=>⟨rfl,rfl⟩
 | .get k c,h=>by
  have h1:e' k=e k:=h k (by simp[reads]);have h2:=cR.congr (c (e k)) λd hd=>h d (by simp[reads,hd]);simp only[den,reads,h1];exact⟨h2.1,by rw[h2.2]⟩
theorem cR.bel_reads{q:QK->Prop}{e:QK->QV}:∀(p:cR),p.bel q->∀d∈p.reads e,q d
 | .ret v,_,d,hd=>by cases hd
 | .bad,_,d,hd=>by cases hd
 | .get k c,h,d,hd=>by
  rcases aN2.1 hd with rfl|hd
  ·exact h.1
  ·exact cR.bel_reads (c (e k)) (h.2 _) d hd
abbrev qS(α:Type):=Option (Option α×St)
def lL{σ:Type}(step:QK->σ->Option (Option QV×σ)):cR->σ->Option (Option QV×σ)
 | .ret v,s=>some (some v,s)
 | .get k c,s=>match step k s with
  |none=>none
  |some (none,s')=>some (none,s')
  |some (some v,s')=>lL step (c v) s'
 | .bad,s=>none
structure xY where
 deps:List QK
 D:Nat
def xY.add(a:xY)(k:QK)(d:Nat):xY:=⟨if k∈a.deps then a.deps else a.deps++ [k],min a.D d⟩
def rD:Nat:=1099511627776
def FI(v:QV):Bool:=decide (v.nums.length<=rD)
def NX(a:xY):Bool:=decide (a.deps.length<rD)
def mB(u:QK->St->qS gU)(k:QK)(s:xY×St):Option (Option QV×(xY×St)):=
 if k.1=0 then(if(FI (s.2.cell k).val&&NX s.1)=true then some (some (s.2.cell k).val,(s.1.add k (s.2.cell k).d,s.2))else none)
 else match u k s.2 with
  |none=>none
  |some (none,st')=>some (none,(s.1,st'))
  |some (some r,st')=>if(FI r.val&&NX s.1)=true then some (some r.val,(s.1.add k r.D,st'))else none
def eQ(f:QK->Option gU)(k:QK)(r:Option gU):QK->Option gU:=λq=>if q=k then r else f q
def wrap64(n:Int):Int:=(n+9223372036854775808)%18446744073709551616-9223372036854775808
def tP(o:Option gU)(now:Nat)(D:Nat)(v:QV):Nat:=match o with
 |some o=>if o.D<=D/\o.val=v then o.c else now
 |none=>now
def oI(u:QK->St->qS gU)(stp:Int->Bool)(cp:QK->cR)(k:QK)(st:St):qS gU:=
 if stp st.comps=true then some (none,st)else
 match lL (mB u) (cp k) (⟨[],2⟩,st)with
 |none=>none
 |some (none,s)=>some (none,s.2)
 |some (some v,s)=>if FI v=true then
   some (some ⟨v,st.now,tP (s.2.res k) st.now s.1.D v,s.1.D,s.1.deps⟩,{s.2 with res:=eQ s.2.res k (some ⟨v,st.now,tP (s.2.res k) st.now s.1.D v,s.1.D,s.1.deps⟩),comps:=wrap64 (s.2.comps+1)})
  else none
def FY(u:QK->St->qS gU)(v:Nat):List QK->St->qS Bool
 | [],st=>some (some false,st)
 |d::ds,st=>if d.1=0 then(if v<(st.cell d).c then some (some true,st)else FY u v ds st)
  else match u d st with
   |none=>none
   |some (none,st')=>some (none,st')
   |some (some r,st')=>if v<r.c then some (some true,st')else FY u v ds st'
def keep(k:QK)(r:gU)(st:St):qS gU:=some (some {r with v:=st.now},{st with res:=eQ st.res k (some {r with v:=st.now})})
def LV(u:QK->St->qS gU)(stp:Int->Bool)(cp:QK->cR)(k:QK)(st:St):qS gU:=
 match st.res k with
 |none=>oI u stp cp k st
 |some r=>if r.v=st.now\/st.lc r.D<=r.v then keep k r st
  else match FY u r.v r.deps st with
   |none=>none
   |some (none,st')=>some (none,st')
   |some (some true,st')=>oI u stp cp k st'
   |some (some false,st')=>keep k r st'
def aFi(o:Option gU)(st:St):St:=match o with
 |some _=> {st with clk:=st.clk+1}
 |none=>st
def upd(stp:Int->Bool)(cp:QK->cR):Nat->List QK->QK->St->qS gU
 |0,_,_,_=>none
 |n+1,act,k,st=>if k∈act then none else(LV (upd stp cp n (k::act)) stp cp k st).map λx=>(x.1,aFi x.1 x.2)
def iZ(k:QK)(v:QV)(d:Nat)(st:St):St:=
 if(st.cell k).d=d/\(st.cell k).val=v then st else
 {st with now:=st.now+1,lc:=λi=>if i<=max (st.cell k).d d then st.now+1 else st.lc i,cell:=λq=>if q=k then⟨v,st.now+1,d⟩else st.cell q}
section
variable(cp:QK->cR)(rk:QK->Nat)
def yT(inp:QK->QV):Nat->QK->QV
 |0,k=>if k.1=0 then inp k else⟨[],[]⟩
 |n+1,k=>if k.1=0 then inp k else(cp k).den (yT inp n)
def DR(inp:QK->QV)(k:QK):QV:=yT cp inp (rk k+1) k
structure yJ:Prop where
 below:∀k:QK,k.1≠0->(cp k).bel λd=>d.1=0\/rk d<rk k
variable{cp rk}
theorem RZ(h:yJ cp rk)(inp:QK->QV):∀(n m:Nat) (k:QK),rk k<n->rk k<m->yT cp inp n k=yT cp inp m k
 |0,_,k,h1,_=>absurd h1 (Nat.not_lt_zero _)
 |_,0,k,_,h2=>absurd h2 (Nat.not_lt_zero _)
 |n+1,m+1,k,h1,h2=>by
  unfold yT
  split
  ·rfl
  ·rename_i hk;refine((cR.congr (e:=yT cp inp m) (e':=yT cp inp n) (cp k) λd hd=> ?_).1);rcases cR.bel_reads _ (h.below k hk) d hd with h0|h0
   ·cases n<;>cases m<;>simp[yT,h0]
   ·exact RZ h inp n m d z8 z8
theorem vR(inp:QK->QV){k:QK}(hk:k.1=0):DR cp rk inp k=inp k:=by simp[DR,yT,hk]
theorem BH(h:yJ cp rk)(inp:QK->QV){k:QK}(hk:k.1≠0):DR cp rk inp k=(cp k).den (DR cp rk inp):=by
 unfold DR;rw[yT,if_neg hk];refine((cR.congr (e:=λk=>yT cp inp (rk k+1) k) (e':=yT cp inp (rk k)) (cp k) λd hd=> ?_).1);rcases cR.bel_reads _ (h.below k hk) d hd with h0|h0
 ·cases rk k<;>simp[yT,h0]
 ·exact RZ h inp _ _ d h0 z8
inductive sX(cp:QK->cR)(e:QK->QV):QK->QK->Prop
 |dir {k d:QK} (hk:k.1≠0) (hd:d∈(cp k).reads e):sX cp e k d
 |step {k d y:QK} (hk:k.1≠0) (hd:d∈(cp k).reads e) (h:sX cp e d y):sX cp e k y
theorem sX.src{e:QK->QV}{k y:QK}(h:sX cp e k y):k.1≠0:=by cases h<;>assumption
theorem sX.cases'{e:QK->QV}{k y:QK}(h:sX cp e k y):∃d,d∈(cp k).reads e/\(d=y\/sX cp e d y):=by
 cases h with
 |dir hk hd=>exact⟨y,hd, .inl rfl⟩
 |step hk hd h=>exact⟨_,hd, .inr h⟩
theorem sX.trans{e:QK->QV}{k y z:QK}(h:sX cp e k y)(h2:sX cp e y z):sX cp e k z:=by
 induction h with
 |dir hk hd=>exact .step hk hd h2
 |step hk hd _ ih=>exact .step hk hd (ih h2)
theorem aEa(h:yJ cp rk){i1 i2:QK->QV}:∀(n:Nat) (k:QK),rk k<n->k.1≠0->(∀x:QK,sX cp (DR cp rk i1) k x->x.1=0->i2 x=i1 x)->
  DR cp rk i2 k=DR cp rk i1 k/\(cp k).reads (DR cp rk i2)=(cp k).reads (DR cp rk i1)/\∀y,sX cp (DR cp rk i2) k y↔sX cp (DR cp rk i1) k y
 |0,k,hn,_,_=>absurd hn (Nat.not_lt_zero _)
 |n+1,k,hn,hk,hs=>by
  have hd:∀d∈(cp k).reads (DR cp rk i1),DR cp rk i2 d=DR cp rk i1 d/\∀y,d.1≠0->(sX cp (DR cp rk i2) d y↔sX cp (DR cp rk i1) d y):=by
   intro d hd
   by_cases h0:d.1=0
   ·exact⟨by rw[vR _ h0,vR _ h0];exact hs d (.dir hk hd) h0,λy h1=>absurd h0 h1⟩
   ·have hr:rk d<rk k:=(cR.bel_reads _ (h.below k hk) d hd).resolve_left h0;have:=aEa h n d z8 h0 λx hx=>hs x (.step hk hd hx);exact⟨this.1,λy _=>this.2.2 y⟩
  have hc:=cR.congr (e:=DR cp rk i1) (e':=DR cp rk i2) (cp k) λd h1=>(hd d h1).1;refine⟨by rw[BH h i2 hk,BH h i1 hk];exact hc.1,hc.2,λy=>⟨λhy=> ?_,λhy=> ?_⟩⟩
  ·obtain⟨d,h1,h2⟩:=hy.cases';rw[hc.2]at h1;rcases h2 with rfl|h2
   ·exact .dir hk h1
   ·exact .step hk h1 (((hd d h1).2 y h2.src).1 h2)
  ·obtain⟨d,h1,h2⟩:=hy.cases';rcases h2 with rfl|h2
   ·exact .dir hk (by rw[hc.2];exact h1)
   ·exact .step hk (by rw[hc.2];exact h1) (((hd d h1).2 y h2.src).2 h2)
end
end Go.Memo
