/- Part 3 of a proof of the law ServerReference: Go data as trees, the walks of the functions that the law reaches, the plain laws. -/
import Derived.Test.YtndpndmhoheloaaGreatDoorGAServerReference
import Derived.Lib.Join
import Derived.Below
import Derived.Laws.StructEq
import Derived.Laws.RangeString
import Derived.Lib.OthersKept
import Derived.Lib.DecodeN
import Derived.Laws.IdiomStrings
import Derived.Maps.RangeRun
open List renaming all_cons->aMi,all_eq_true->aNz,append_assoc->aOe,append_nil->aN9,cons_append->aMl,drop_zero->aOh,getD_eq_getElem?_getD->aNj,getElem?_append_left->aM0,getElem?_append_right->aM1,getElem?_cons_succ->aM8,getElem?_cons_zero->aNw,getElem?_eq_getElem->aNi,getElem?_eq_none->aM2,getElem?_map->aNg,getElem?_set_self->aM4,getElem?_toArray->aNf,getElem_cons_zero->aMn,getElem_map->aMm,getElem_mem->aNq,length_cons->aM7,length_map->aMw,length_nil->aOa,map_cons->aNl,map_nil->aOb,mem_append->aN0,mem_cons->aN2,mem_cons_of_mem->aOg,mem_filter->aN5,mem_map->aNy,mem_range->aN6,mem_singleton->aN8,nil_append->aN7,not_mem_nil->aOc,replicate->aNb,replicate_zero->aOd,set_append_right->aN4
open Nat renaming add_mul->aNu,add_zero->aNm,le_refl->aMq,le_trans->aMr,lt_of_lt_of_le->aMs,lt_or_ge->aMo,mul_le_mul_right->aNp,sub_self->aNt,succ_ne_self->aOf,zero_add->aNn,zero_le->aNs
open Go.Sem renaming run_bind->aM9,run_pure->aNc
open Array renaming getD_eq_getD_getElem?->aMt,getElem?_eq_getElem->aMy,getElem?_eq_none->aMp,getElem?_setIfInBounds_ne->aMv,getElem?_setIfInBounds_self_of_lt->aMu,getElem?_toList->aNk,length_toList->aMx
open Bool renaming and_eq_true->aMj,eq_iff_iff->aN1,false_eq_true->aNh,not_eq_true'->aMk,not_false->aNx
open Option renaming bind_some->aM3,getD_some->aMz,isSome_some->aNv,map_some->aM6
open Go.Result renaming andThen_ok->aNa
set_option linter.unusedSectionVars false
set_option linter.unnecessarySimpa false
set_option linter.unusedVariables false
set_option linter.unusedSimpArgs false
namespace Go.Abs
theorem Bf.closed{l:List Oper}{listed:Nat->Bool}(h:∀j o,l[j]? =some o->listed j=true->∀e∈o.after.toList,Region.binds .any e=true->listed e.on=true){i j:Nat}(hb:Bf l i j)(hj:listed j=true):listed i=true:=by
 induction hb with
 |edge ho he hbd=>exact h _ _ ho hj _ he hbd
 |trans _ _ ih1 ih2=>exact ih1 (ih2 hj)
theorem Bf.pre{l:List Oper}{listed:Nat->Bool}{i:Nat}(h:∀j o,l[j]? =some o->(listed j=true\/j=i)->∀e∈o.after.toList,Region.binds .any e=true->listed e.on=true){k:Nat}(hb:Bf l k i):listed k=true:=by
 have hcl:∀j o,l[j]? =some o->listed j=true->∀e∈o.after.toList,Region.binds .any e=true->listed e.on=true:=λj o ho hj=>h j o ho (.inl hj);have key:∀ {k j:Nat},Bf l k j->j=i->listed k=true:=by
  intro k j hb
  induction hb with
  |edge ho he hbd=>rintro rfl;exact h _ _ ho (.inr rfl) _ he hbd
  |trans h1 _ ih1 ih2=>intro e;exact h1.closed hcl (ih2 e)
 exact key hb rfl
structure aD6(P:Program)(N:Nat)(ops:Array Oper)(S:List qP)(x:aJ×aH):Prop where
 ops_eq:S.map (·.o)=ops.toList
 rob:∀i s,S[i]? =some s->Rob P N ops s.o (cY (λj=>decide (j<i)) 0 S x).1 (cY (λj=>decide (j<i)) 0 S x).2 s.v s.eff s.rd
 own:∀s∈S,∀e∈s.eff,e.1∈s.rd
 apart:∀i j s s',i<j->S[i]? =some s->S[j]? =some s'->((cH ops.toList).getD j 0).testBit i=true\/((∀e∈s.eff,e.1∉s'.rd)/\∀e∈s'.eff,e.1∉s.rd)
section
variable{P:Program}{N nb:Nat}{ops:Array Oper}{S:List qP}{x:aJ×aH}{Q:cT}
theorem DC{P:Program}{Q:Exit->Act->World->Prop}{a:Act}{w:World}{rest:List Nat}{i:Nat}{o:Oper}(ho:ops[i]? =some o)
  (h:if Region.wanted o (yielded ops a.tmps)then o.wp P a w (wpOps P ops Q rest) Q else wpOps P ops Q rest (a.put o.dst undef) w):wpOps P ops Q (i::rest) a w:=by
 unfold wpOps;simp only[ho]
 split
 ·rename_i hw;rw[if_pos hw]at h;exact .inl h
 ·rename_i hw;rw[if_neg hw]at h;exact h
theorem VB(hb:iR ops.toList=true)(hs:mH ops.toList (cH ops.toList)=true)(tr:aD6 P N ops S x)(hQ:Q .normal (cY (λ_=>true) 0 S x).1 (cY (λ_=>true) 0 S x).2)(E0:aK):
  ∀(fuel t:Nat) (listed:Array Bool) (E:aK) (a:Act),listed.size=ops.size->((List.range ops.size).filter λi=> !listed.getD i true).length<=fuel->
   (∀j o,ops.toList[j]? =some o->listed.getD j false=true->∀e∈o.after.toList,Region.binds .any e=true->listed.getD e.on false=true)->
   E0.leN nb E->E.Ok->E.H=(cY (λj=>listed.getD j false) 0 S x).2->eR E.view N a (cY (λj=>listed.getD j false) 0 S x).1->wpOps P ops (qG N nb E0 Q) (lH ops fuel t listed) a E.w:=by
 have hlen:S.length=ops.size:=by rw[<-aMx,<-tr.ops_eq];simp
 have hop:∀(i:Nat) (s:qP),S[i]? =some s->ops.toList[i]? =some s.o:=by
  intro i s h;rw[<-tr.ops_eq,aNg,h];rfl
 intro fuel
 induction fuel with
 |zero=>
  intro t listed E a hsz hcnt hcl hle ho hH ht;have hall:∀j,j<S.length->listed.getD j false=true:=by
   intro j hj;cases hq:listed.getD j false with
   |true=>rfl
   |false=>
    have hm:j∈(List.range ops.size).filter λi=> !listed.getD i true:=by
     rw[aN5];refine⟨aN6.2 z8, ?_⟩;rw[aMt,aMy z8]at hq⊢;simpa using hq
    have:=List.length_pos_of_mem hm;omega
  rw[iF (D':=λ_=>true) S 0 x (λj hj=>by simpa using hall j hj)]at hH ht;exact⟨E,_,rfl,hle,ho,ht,hH▸hQ⟩
 |succ fuel ih=>
  intro t listed E a hsz hcnt hcl hle ho hH ht;unfold lH
  by_cases hdone:∀j,j<ops.size->listed.getD j false=true
  ·have hrs:(List.range ops.size).filter (cZ ops listed)= []:=by
    rw[List.filter_eq_nil_iff];intro j hj;rw[aN6]at hj;have:=hdone j hj;unfold cZ;rw[aMt,aMy z8]at this⊢;simp only[aMz]at this⊢;simp[this]
   rw[hrs];rw[iF (D':=λ_=>true) S 0 x (λj hj=>by simpa using hdone j z8)]at hH ht;exact⟨E,_,rfl,hle,ho,ht,hH▸hQ⟩
  ·
   have hex:∃j,j<ops.size/\listed.getD j false=false:=by
    apply Classical.byContradiction;intro hno;apply hdone;intro j hj;cases hq:listed.getD j false with
    |true=>rfl
    |false=>exact(hno ⟨j,hj,hq⟩).elim
   obtain⟨j0,⟨hj0,hl0⟩,hmin⟩:=oZ hex;have hdT:∀(j:Nat),j<ops.size->∀b c:Bool,listed.getD j b=listed.getD j c:=by
    intro j hj b c;rw[aMt,aMt,aMy z8];rfl
   have hready:cZ ops listed j0=true:=by
    unfold cZ;rw[hdT j0 hj0 true false,hl0,aMy hj0];simp only[aNx,Bool.true_and,aM6,aMz];rw[Array.all_eq_true'];intro e he;cases hbd:Region.binds .any e with
    |false=>rfl
    |true=>
     have hon:=iL hb (i:=j0) (o:=ops[j0]) (by simp[hj0]) (e:=e) (by simpa using he) hbd;simp only[Bool.not_true,Bool.false_or];cases hq:listed.getD e.on false with
     |true=>rfl
     |false=>have:=hmin e.on ⟨z8,hq⟩;omega
   have hne:(List.range ops.size).filter (cZ ops listed)≠ []:=by
    intro hnil;have:j0∈(List.range ops.size).filter (cZ ops listed):=aN5.2 ⟨aN6.2 hj0,hready⟩;rw[hnil]at this;cases this
   have hpos:0<((List.range ops.size).filter (cZ ops listed)).length:=List.length_pos_iff.2 hne;have hlt:=Nat.mod_lt t hpos;rw[aNi hlt];simp only;generalize hi:((List.range ops.size).filter (cZ ops listed))[t%((List.range ops.size).filter (cZ ops listed)).length]=i;have him:i∈(List.range ops.size).filter (cZ ops listed):=by rw[<-hi];exact aNq hlt
   obtain⟨him1,him2⟩:=aN5.1 him;rw[aN6]at him1;unfold cZ at him2;rw[hdT i him1 true false,aMy him1]at him2;simp only[aMj,aMk,aM6,aMz]at him2;obtain⟨hnl,hpre⟩:=him2;rw[Array.all_eq_true']at hpre;obtain⟨s,hs_i⟩:∃s,S[i]? =some s:=⟨S[i]'z8,aNi _⟩;have hso:=hop i s hs_i;have hop_i:ops[i]? =some s.o:=by rw[aNk]at hso;exact hso
   have hso':ops[i]=s.o:=by rw[aMy him1]at hop_i;simpa using hop_i
   have hprei:∀e∈s.o.after.toList,Region.binds .any e=true->listed.getD e.on false=true:=by
    intro e he hbd;have:=hpre e (by rw[hso'];simpa using he);rw[hbd]at this;simpa using this
   have hBfD:∀ {k j:Nat},Bf ops.toList k j->listed.getD j false=true->listed.getD k false=true:=λhbf hj=>hbf.closed (listed:=λj=>listed.getD j false) hcl hj;have hBfI:∀ {k:Nat},Bf ops.toList k i->listed.getD k false=true:=λhbf=>Bf.pre (listed:=λj=>listed.getD j false) (i:=i) (λj o hoo hj e he hbd=>by
    rcases hj with hj|rfl
    ·exact hcl j o hoo hj e he hbd
    ·rw[hso]at hoo;cases hoo;exact hprei e he hbd) hbf
   have hbmB:∀ {k j:Nat},((cH ops.toList).getD j 0).testBit k=true->Bf ops.toList k j:=λh=>(lJ ops.toList _ ops.toList [] rfl zz).2 _ _ h;have hun1:∀j,i<j->listed.getD j false=true->((cH ops.toList).getD j 0).testBit i=false:=by
    intro j hij hj;cases hq:((cH ops.toList).getD j 0).testBit i with
    |false=>rfl
    |true=>have:=hBfD (hbmB hq) hj;rw[hnl]at this;cases this
   have hun2:∀k,k<i->listed.getD k false=false->((cH ops.toList).getD i 0).testBit k=false:=by
    intro k hki hk;cases hq:((cH ops.toList).getD i 0).testBit k with
    |false=>rfl
    |true=>have:=hBfI (hbmB hq);rw[hk]at this;cases this
   let D:Nat->Bool:=λj=>listed.getD j false
   have hslot:∀t∈pX ops.toList s.o,(cY D 0 S x).1 t=(cY (λj=>decide (j<i)) 0 S x).1 t:=by
    intro t htm;refine yW S 0 x x rfl (λj s' hj hD=> ?_);rw[aNn]at hD;have hoj:=hop j s' hj
    by_cases hji:j<i
    ·have hDj:D j=false:=by
      cases hq:D j with
      |false=>rfl
      |true=>rw[hq]at hD;simp[hji]at hD
     exact(hP hs hji hoj hso (hun2 j hji hDj)).2.1 t htm
    ·have hDj:D j=true:=by
      cases hq:D j with
      |true=>rfl
      |false=>rw[hq]at hD;simp[hji]at hD
     have hne:j≠i:=by rintro rfl;rw[show D j=false from hnl]at hDj;cases hDj
     exact(hP hs (by omega:i<j) hso hoj (hun1 j z8 hDj)).2.2 t htm
   have hheap:∀id∈s.rd,(cY D 0 S x).2[id]? =(cY (λj=>decide (j<i)) 0 S x).2[id]? :=by
    intro id hid;refine yH S 0 x x rfl rfl (λj s' hj hD e he heq=> ?_);rw[aNn]at hD
    by_cases hji:j<i
    ·have hDj:D j=false:=by
      cases hq:D j with
      |false=>rfl
      |true=>rw[hq]at hD;simp[hji]at hD
     rcases tr.apart j i s' s hji hj hs_i with h|h
     ·rw[hun2 j hji hDj]at h;cases h
     ·exact h.1 e he (heq▸hid)
    ·have hDj:D j=true:=by
      cases hq:D j with
      |true=>rfl
      |false=>rw[hq]at hD;simp[hji]at hD
     have hne:j≠i:=by rintro rfl;rw[show D j=false from hnl]at hDj;cases hDj
     rcases tr.apart i j s s' z8 hs_i hj with h|h
     ·rw[hun1 j z8 hDj]at h;cases h
     ·exact h.2 e he (heq▸hid)
   have hlenr:(cY D 0 S x).2.length=(cY (λj=>decide (j<i)) 0 S x).2.length:=by rw[tM,tM]
   have hins:cY (λj=>(listed.setIfInBounds i true).getD j false) 0 S x=s.app (cY D 0 S x):=by
    rw[<-tB D (i:=i) hnl S 0 x s (aNs _) (by simpa using hs_i)]
    ·refine iF S 0 x (λj hj=> ?_);rw[aNn];simp only[D];rw[aMt,aMt]
     by_cases e:j=i
     ·subst e;rw[aMu z8];simp
     ·rw[aMv (λq=>e q.symm)];have:(j==i)=false:=by simp[e]
      rw[this];simp
    ·intro j s' hij hj hDj;rw[aNn]at hij hDj;have hb':=hun1 j hij hDj;refine⟨(hP hs hij hso (hop j s' hj) hb').1,λe he y hy heq=> ?_⟩;rcases tr.apart i j s s' hij hs_i hj with h|h
     ·rw[hb']at h;cases h
     ·exact h.1 e he (heq▸tr.own s' (List.mem_of_getElem? hj) y hy)
   have hcnt':((List.range ops.size).filter λk=> !(listed.setIfInBounds i true).getD k true).length<=fuel:=by
    have hsub:((List.range ops.size).filter λk=> !(listed.setIfInBounds i true).getD k true).length<((List.range ops.size).filter λk=> !listed.getD k true).length:=by
     have e1:(List.range ops.size).filter (λk=> !(listed.setIfInBounds i true).getD k true)=((List.range ops.size).filter λk=> !listed.getD k true).filter λk=>k != i:=by
      rw[List.filter_filter];apply List.filter_congr;intro k hk;rw[aMt,aMt]
      by_cases e:k=i
      ·subst e;rw[aMu z8];simp
      ·rw[aMv (λq=>e q.symm)];simp[e]
     rw[e1];refine List.length_filter_lt_length_iff_exists.2 ⟨i, ?_,zz⟩;rw[aN5];exact⟨aN6.2 him1,by rw[hdT i him1 true false,hnl];rfl⟩
    omega
   have hcl':∀j o,ops.toList[j]? =some o->(listed.setIfInBounds i true).getD j false=true->∀e∈o.after.toList,Region.binds .any e=true->(listed.setIfInBounds i true).getD e.on false=true:=by
    intro j o hoo hj e he hbd;have hup:∀k,listed.getD k false=true->(listed.setIfInBounds i true).getD k false=true:=by
     intro k hk;rw[aMt]at hk⊢
     by_cases q:k=i
     ·subst q;rw[aMu z8];rfl
     ·rw[aMv (λz=>q z.symm)];exact hk
    apply hup
    by_cases q:j=i
    ·subst q;rw[hso]at hoo;cases hoo;exact hprei e he hbd
    ·rw[aMt,aMv (λz=>q z.symm),<-aMt]at hj;exact hcl j o hoo hj e he hbd
   have hrob:=tr.rob i s hs_i (cY D 0 S x).1 (cY D 0 S x).2 hslot hheap hlenr E a ho hH ht;refine DC hop_i ?_;rcases hrob with⟨hw,he0,hv0⟩| ⟨hw,hgo⟩
   ·rw[if_neg (by rw[hw];simp)];refine ih _ _ E _ (by simp[hsz]) hcnt' hcl' hle ho ?_ ?_
    ·rw[hins];simp only[qP.app,he0,mS,List.foldl_nil];exact hH
    ·rw[hins];simp only[qP.app];rcases hv0 with e|e
     ·rw[e];exact ht.put s.o.dst (.junk _)
     ·rw[e];exact ht.put s.o.dst (.tup _ _ rfl (λi h=>absurd h zz))
   ·rw[if_pos hw];refine hgo _ _ (λE' val hle' ho' hH' hv'=> ?_);refine ih _ _ E' _ (by simp[hsz]) hcnt' hcl' (hle.trans (hle'.leN nb)) ho' ?_ ?_
    ·rw[hins];simp only[qP.app];exact hH'
    ·rw[hins];simp only[qP.app];exact(ht.mono hle'.view).put s.o.dst hv'
end
theorem oE(D:Nat->Bool):∀(l1 l2:List qP) (k:Nat) (x:aJ×aH),cY D k (l1++l2) x=cY D (k+l1.length) l2 (cY D k l1 x)
 | [],l2,k,x=>rfl
 |s::l1,l2,k,x=>by
  simp only[aMl,cY];rw[oE D l1 l2 (k+1)];congr 1;simp only[aM7];omega
theorem oY{D:Nat->Bool}:∀(l:List qP) (k:Nat) (x:aJ×aH),(∀j,j<l.length->D (k+j)=false)->cY D k l x=x
 | [],_,_,_=>rfl
 |s::l,k,x,h=>by
  simp only[cY];have h0:D k=false:=by simpa using h 0 zz
  rw[h0];exact oY l (k+1) x λj hj=>by have:=h (j+1) (by simpa using hj);rw[show k+(j+1)=k+1+j by omega]at this;exact this
abbrev gW:=List (Nat×List Nat×List Nat)
def mI(P:Program)(N:Nat)(ops:Array Oper)(Q:cT):Nat->List Oper->gW->aJ->aH->Prop
 |_,[],_,T,H=>Q .normal T H
 |k,o::l,prev,T,H=>∃v eff rd,Rob P N ops o T H v eff rd/\(∀e∈eff,e.1∈rd)/\
   (∀p∈prev,((cH ops.toList).getD k 0).testBit p.1=true\/((∀id∈p.2.2,id∉rd)/\∀e∈eff,e.1∉p.2.1))/\
   mI P N ops Q (k+1) l (prev++ [(k,rd,eff.map (·.1))]) (bT T o.dst v) (mS H eff)
section
variable{P:Program}{N nb:Nat}{ops:Array Oper}{Q:cT}
theorem DB{x:aJ×aH}:∀(l:List Oper) (k:Nat) (prev:gW) (S0:List qP),S0.length=k->S0.map (·.o)++l=ops.toList->
  (∀(i:Nat) (s:qP),S0[i]? =some s->Rob P N ops s.o (cY (λj=>decide (j<i)) 0 S0 x).1 (cY (λj=>decide (j<i)) 0 S0 x).2 s.v s.eff s.rd)->
  (∀s∈S0,∀e∈s.eff,e.1∈s.rd)->
  (∀(i j:Nat) (s s':qP),i<j->S0[i]? =some s->S0[j]? =some s'->((cH ops.toList).getD j 0).testBit i=true\/((∀e∈s.eff,e.1∉s'.rd)/\∀e∈s'.eff,e.1∉s.rd))->
  (∀(i:Nat) (s:qP),S0[i]? =some s->(i,s.rd,s.eff.map (·.1))∈prev)->
  mI P N ops Q k l prev (cY (λ_=>true) 0 S0 x).1 (cY (λ_=>true) 0 S0 x).2->
  ∃S,aD6 P N ops S x/\Q .normal (cY (λ_=>true) 0 S x).1 (cY (λ_=>true) 0 S x).2
 | [],k,prev,S0,hk,ho,h1,h2,h3,h4,hd=>⟨S0,⟨by simpa using ho,h1,h2,h3⟩,hd⟩
 |o::l,k,prev,S0,hk,ho,h1,h2,h3,h4,hd=>by
  obtain⟨v,eff,rd,hr,how,hap,hd'⟩:=hd
  let s:qP:=⟨o,v,eff,rd⟩
  have hpre:∀i,i<=k->cY (λj=>decide (j<i)) 0 (S0++ [s]) x=cY (λj=>decide (j<i)) 0 S0 x:=by
   intro i hi;rw[oE];exact oY _ _ _ (λj hj=>by simp at hj;subst hj;simp;omega)
  have hfull:cY (λj=>decide (j<k)) 0 S0 x=cY (λ_=>true) 0 S0 x:=iF S0 0 x (λj hj=>by simp;omega);have hext:cY (λ_=>true) 0 (S0++ [s]) x=s.app (cY (λ_=>true) 0 S0 x):=by
   rw[oE];rfl
  refine DB l (k+1) (prev++ [(k,rd,eff.map (·.1))]) (S0++ [s]) (by simp[hk]) (by simpa using ho) ?_ ?_ ?_ ?_ ?_
  ·intro i s' hs'
   by_cases hi:i<k
   ·rw[aM0 z8]at hs';rw[hpre i z8];exact h1 i s' hs'
   ·have hik:i=k:=by have:=lG hs';simp[hk]at this;omega
    subst hik;rw[aM1 z8,hk]at hs';simp at hs';subst hs';rw[hpre i (aMq _),hfull];exact hr
  ·intro s' hs';rcases aN0.1 hs' with hs'|hs'
   ·exact h2 s' hs'
   ·simp at hs';subst hs';exact how
  ·intro i j s1 s2 hij hs1 hs2;have hi:i<k:=by have:=lG hs2;simp[hk]at this;omega
   rw[aM0 z8]at hs1
   by_cases hj:j<k
   ·rw[aM0 z8]at hs2;exact h3 i j s1 s2 hij hs1 hs2
   ·have hjk:j=k:=by have:=lG hs2;simp[hk]at this;omega
    subst hjk;rw[aM1 z8,hk]at hs2;simp at hs2;subst hs2;rcases hap _ (h4 i s1 hs1)with h|h
    ·exact .inl h
    ·refine .inr ⟨λe he=>h.1 _ (aNy.2 ⟨e,he,rfl⟩),h.2⟩
  ·intro i s' hs'
   by_cases hi:i<k
   ·rw[aM0 z8]at hs';exact aN0.2 (.inl (h4 i s' hs'))
   ·have hik:i=k:=by have:=lG hs';simp[hk]at this;omega
    subst hik;rw[aM1 z8,hk]at hs';simp at hs';subst hs';exact aN0.2 (.inr (by simp[s]))
  ·rw[hext];exact hd'
theorem wV{c:Code}{T:aJ}{H:aH}(h:fO P N nb c Q T (H++ [.unborn])):fO P N nb c Q T H:=by
 intro E a ho hH ht;have:=h E.ext a ho.ext (by simp[aK.ext,hH]) (ht.mono E.ext_view_le);exact wp_mono this λe a w hl=>fH (E.ext_le.leN nb) (λ_ _ _ q=>q) hl
theorem AX{c:Code}{T:aJ}:∀(m:Nat) {H:aH},fO P N nb c Q T (H++aNb m .unborn)->fO P N nb c Q T H
 |0,H,h=>by simpa using h
 |m+1,H,h=>wV (AX m (by simpa[List.replicate_succ]using h))
def kT(P:Program)(l:List Oper):Bool:=P.follows .mixedOrders&&iR l&&mH l (cH l)
theorem kP{id:Nat}{ops:Array Oper}{T:aJ}{H:aH}(m:Nat)(hok:kT P ops.toList=true)(h:mI P N ops Q 0 ops.toList [] T (H++aNb m .unborn)):fO P N nb (.region id ops true) Q T H:=by
 refine AX m ?_;unfold kT at hok;simp only[aMj]at hok;obtain⟨S,tr,hQ⟩:=DB (x:=(T,H++aNb m .unborn)) ops.toList 0 [] [] rfl zz (λi s h=>by simp at h) (λs h=>by simp at h) (λi j s s' _ h=>by simp at h) (λi s h=>by simp at h) h;intro E a ho hH ht;refine wp_region_draw λt=> ?_;rw[hok.1.1];simp only[Region.schedule,Bool.true_or,if_true,Region.linearise,NH,List.reverse_nil,aN7];have hrun:cY (λj=>(Array.replicate ops.size false).getD j false) 0 S (T,H++aNb m .unborn)=(T,H++aNb m .unborn):=by
  refine oY S 0 _ (λj hj=> ?_);rw[aMt]
  by_cases h:0+j<ops.size
  ·rw[aMy (by simpa using h)];simp
  ·rw[aMp (by simp;omega)];rfl
 refine VB hok.1.2 hok.2 tr hQ E ops.size t (Array.replicate ops.size false) E.drew a zz ?_ ?_ (E.drew_le.leN nb) ho.drew ?_ ?_
 ·refine aMr (List.length_filter_le _ _) zz
 ·intro j o hj hl;rw[aMt]at hl
  by_cases h:j<ops.size
  ·rw[aMy (by simpa using h)]at hl;simp at hl
  ·rw[aMp (by simp;omega)]at hl;cases hl
 ·rw[hrun];exact hH
 ·rw[hrun];exact ht
theorem wX{fl:List (Nat×TI)}{T T':aJ}:∀(ps:List (Nat×Operand)) (cs:List PV),(∀x∈ps,bS T' x.2=bS T x.2)->oG fl T' cs ps=oG fl T cs ps
 | [],cs,_=>rfl
 | (f,x)::ps,cs,h=>by
  unfold oG;rw[h (f,x) zz]
  split
  ·split
   ·exact wX ps _ (λy hy=>h y (by simp[hy]))
   ·rfl
  ·rfl
theorem vE{i:TI}{T T':aJ}:∀(ps:List (Nat×Operand)) (cs:List PV),(∀x∈ps,bS T' x.2=bS T x.2)->mE i T' cs ps=mE i T cs ps
 | [],cs,_=>rfl
 | (f,x)::ps,cs,h=>by
  unfold mE;rw[h (f,x) zz]
  split
  ·exact vE ps _ (λy hy=>h y (by simp[hy]))
  ·rfl
theorem zR{T T':aJ}{x:Option Operand}(h:∀y,x=some y->bS T' y=bS T y)(n d:Nat):lU T' x n d=lU T x n d:=by
 cases x with
 |none=>rfl
 |some y=>simp only[lU,h y rfl]
theorem II{T T':aJ}{t:TypeId}{x:PV}{lo hi mx:Option Operand}(h1:∀y,lo=some y->bS T' y=bS T y)(h2:∀y,hi=some y->bS T' y=bS T y)(h3:∀y,mx=some y->bS T' y=bS T y):
  lP P T' t x lo hi mx=lP P T t x lo hi mx:=by
 unfold lP;simp only[λn d=>zR h1 n d,λn d=>zR h2 n d]
 split
 ·rfl
 ·split
  ·split
   ·cases mx with
    |none=>rfl
    |some m=>
     cases hi with
     |none=>rfl
     |some h=>simp only[h3 m rfl,h2 h rfl]
   ·rfl
  ·rfl
 ·rfl
theorem CL{fresh:Nat}{T T':aJ}{H:aH}{b:Builtin}{xs:List Operand}{ts:List TypeId}(h:∀x∈xs,bS T' x=bS T x):dA P fresh T' H b xs ts=dA P fresh T H b xs ts:=by
 unfold dA
 split
 ·simp only[h _ (aN8.2 rfl)]
 ·rename_i x y;simp only[h x zz,h y zz]
 ·rename_i x y;simp only[h x zz,h y zz]
 ·rename_i x y t u;simp only[h x zz,h y zz]
 ·rfl
theorem GS{mt:Bool}{fresh:Nat}{T T':aJ}{H:aH}{o:Op}(h:∀x∈o.operands.toList,bS T' x=bS T x):fN P mt fresh T' H o=fN P mt fresh T H o:=by
 cases o with
 |pick c a b=>simp only[fN,h c (by simp[Op.operands]),h a (by simp[Op.operands]),h b (by simp[Op.operands])]
 |build t ps=>
  simp only[fN];congr 1;funext fl;congr 1;funext z
  split
  ·rfl
  ·rw[wX ps.toList z.cells (λx hx=>h x.2 (by simp only[Op.operands];exact aNy.2 ⟨x,hx,rfl⟩))]
 |buildSlice t n ps=>
  simp only[fN];congr 1;funext ei;congr 1;funext z
  split
  ·rw[vE ps.toList _ (λx hx=>h x.2 (by simp only[Op.operands];exact aNy.2 ⟨x,hx,rfl⟩))]
  ·rfl
 |makeFunc f first caps=>
  simp only[fN];have e1:(first.toList.map λx=>(bS T' x).drop1)=first.toList.map λx=>(bS T x).drop1:=List.map_congr_left λx hx=>by rw[h x (by simp only[Op.operands];simp;left;simpa using hx)]
  have e2:(caps.toList.map λx=>(bS T' x).drop1)=caps.toList.map λx=>(bS T x).drop1:=List.map_congr_left λx hx=>by rw[h x (by simp only[Op.operands];simp;right;simpa using hx)]
  rw[e1,e2]
 |slice t x lo hi mx=>
  simp only[fN];rw[h x (by simp[Op.operands]),II (λy e=>h y (by subst e;simp[Op.operands])) (λy e=>h y (by subst e;simp[Op.operands])) (λy e=>h y (by subst e;simp[Op.operands]))]
 |call c=>
  simp only[fN]
  split
  ·rename_i b hb;exact CL (λx hx=>h x (by simp only[Op.operands,Call.operands,hb];simpa using hx))
  ·rfl
 |store t a v=>simp only[fN,h a (by simp[Op.operands]),h v (by simp[Op.operands])]
 |binOp op t a v u=>simp only[fN,h a (by simp[Op.operands]),h v (by simp[Op.operands])]
 |indexAddr t a v=>simp only[fN,h a (by simp[Op.operands]),h v (by simp[Op.operands])]
 |index t a v=>simp only[fN,h a (by simp[Op.operands]),h v (by simp[Op.operands])]
 |makeSlice t a v=>simp only[fN,h a (by simp[Op.operands]),h v (by simp[Op.operands])]
 |lookup t a v ok=>simp only[fN,h a (by simp[Op.operands]),h v (by simp[Op.operands])]
 |mapUpdate t a v y=>simp only[fN,h a (by simp[Op.operands]),h v (by simp[Op.operands]),h y (by simp[Op.operands])]
 |makeMap t r=>cases r<;>rfl
 |move x=>simp only[fN,h x (by simp[Op.operands])]
 |assign x=>simp only[fN,h x (by simp[Op.operands])]
 |box t x=>simp only[fN,h x (by simp[Op.operands])]
 |load t x=>simp only[fN,h x (by simp[Op.operands])]
 |nilCheck x=>simp only[fN,h x (by simp[Op.operands])]
 |unOp t u x=>simp only[fN,h x (by simp[Op.operands])]
 |convert t u x=>simp only[fN,h x (by simp[Op.operands])]
 |fieldAddr t x u=>simp only[fN,h x (by simp[Op.operands])]
 |field t x u=>simp only[fN,h x (by simp[Op.operands])]
 |extract x u=>simp only[fN,h x (by simp[Op.operands])]
 |_=>rfl
def nI(T:aJ):Op->List Nat
 | .load _ x=>match bS T x with| .optr id _=> [id]|_=> []
 | .store _ x _=>match bS T x with| .optr id _=> [id]|_=> []
 | .lookup _ x _ _=>match bS T x with| .mapp id=> [id]|_=> []
 | .mapUpdate _ x _ _=>match bS T x with| .mapp id=> [id]|_=> []
 | .call c=>match c.callee with
  | .builtin .append=>match c.args.toList with
   |x::_=>match bS T x with| .slice _ (.tok id)=> [id]|_=> []
   | []=> []
  |_=> []
 |_=> []
theorem YA{mt:Bool}{fresh:Nat}{T:aJ}{H H':aH}{o:Op}(h:∀id∈nI T o,H'[id]? =H[id]?):fN P mt fresh T H' o=fN P mt fresh T H o:=by
 cases o with
 |load t x=>
  simp only[fN];have:∀i,jK i H' (bS T x)=jK i H (bS T x):=by
   intro i;unfold jK
   split
   ·rename_i id off hq;rw[h id (by simp[nI,hq])]
   ·rfl
   ·rfl
  simp only[this]
 |lookup t x k ok=>
  simp only[fN];have:cD P H' t (bS T x) (bS T k) ok=cD P H t (bS T x) (bS T k) ok:=by
   unfold cD
   split
   ·rename_i id n hq _;rw[h id (by simp[nI,hq])]
   ·rename_i id _ _ _ hq _;rw[h id (by simp[nI,hq])]
   ·rfl
  rw[this]
 |mapUpdate t x k y=>
  simp only[fN];have:dG P H' t (bS T x) (bS T k) (bS T y)=dG P H t (bS T x) (bS T k) (bS T y):=by
   unfold dG
   split
   ·rename_i id n hq _;rw[h id (by simp[nI,hq])]
   ·rename_i id _ _ _ hq _;rw[h id (by simp[nI,hq])]
   ·rfl
  rw[this]
 |makeMap t r=>cases r<;>rfl
 |store t x y=>
  simp only[fN];have:∀i,nS i H' (bS T x) (bS T y)=nS i H (bS T x) (bS T y):=by
   intro i;unfold nS
   split
   ·rename_i id off hq;rw[h id (by simp[nI,hq])]
   ·rfl
  simp only[this]
 |call c=>
  simp only[fN]
  split
  ·rename_i b hb;unfold dA
   split
   ·rfl
   ·rfl
   ·rfl
   ·rename_i x y t u hxs hts;have:∀i,cK i fresh H' (bS T x) (bS T y)=cK i fresh H (bS T x) (bS T y):=by
     intro i;unfold cK
     split
     ·rename_i es tl xs tlx hq1 hq2
      split
      ·rfl
      ·split
       ·split
        ·rfl
        ·rename_i id;rw[h id (by simp[nI,hb,hxs,hq1])]
        ·rfl
       ·rfl
     ·rfl
    simp only[this]
   ·rfl
  ·rfl
 |_=>rfl
def BQ(e:pK):List (Nat×AObj):=e.toList
theorem aDi(e:pK)(H:aH):e.app H=mS H (BQ e):=by cases e<;>rfl
theorem SO{l:List Oper}{o:Oper}{t:Nat}(h:Operand.tmp t∈o.op.operands.toList):t∈pX l o:=by
 unfold pX;refine aN0.2 (.inl ?_);rw[List.mem_filterMap];exact⟨_,h,rfl⟩
theorem xW{l:List Oper}{o:Oper}{T T':aJ}(h:∀t∈pX l o,T' t=T t):∀x∈o.op.operands.toList,bS T' x=bS T x:=by
 intro x hx;cases x with
 |tmp t=>exact h t (SO hx)
 |_=>rfl
theorem oT{o:Oper}{T T':aJ}{b:Bool}(h:∀t∈pX ops.toList o,T' t=T t)(hw:aZ ops.toList T N o=some b):aZ ops.toList T' N o=some b:=by
 unfold aZ at hw⊢
 split
 ·rename_i hg;rw[hg]at hw;exact hw
 ·rename_i j want hg;rw[hg]at hw;simp only at hw
  split
  ·rename_i d hd;rw[hd]at hw;simp only at hw;have:d∈pX ops.toList o:=by unfold pX;rw[hg];simp only[hd];simp
   rw[h d this];exact hw
  ·rename_i hd;rw[hd]at hw;exact hw
theorem wM{k:Nat}{prev:gW}{T:aJ}{H:aH}(h:Q .normal T H):mI P N ops Q k [] prev T H:=h
theorem SB{k:Nat}{o:Oper}{l:List Oper}{prev:gW}{T:aJ}{H:aH}(mt:Bool)(fresh:Nat){v:PV}{e:pK}(hw:aZ ops.toList T N o=some true)(hok:dC N o.op=true)
  (hv:fN P mt fresh T H o.op=some (v,e)) (hfr:∀ob,e=some (fresh,ob)->H[fresh]? =some .unborn) {H':aH} (hH':mS H (BQ e)=H') {rd:List Nat} (hrd:nI T o.op++(BQ e).map (·.1)=rd)
  (hap:∀p∈prev,((cH ops.toList).getD k 0).testBit p.1=true\/((∀id∈p.2.2,id∉rd)/\∀e'∈BQ e,e'.1∉p.2.1))
  (h:mI P N ops Q (k+1) l (prev++ [(k,rd,(BQ e).map (·.1))]) (bT T o.dst v) H'):mI P N ops Q k (o::l) prev T H:=by
 subst hH';refine⟨v,BQ e,rd, ?_, ?_,hap,h⟩
 ·intro T' H' hT hHd hlen E a ho hE ht;refine .inr ⟨bY ht (oT hT hw),λnext Q hn=> ?_⟩;have hv':fN P mt fresh T' H' o.op=some (v,e):=by
   rw[GS (xW hT),YA (H:=H),hv];intro id hid;exact hHd id (by rw[<-hrd];exact aN0.2 (.inl hid))
  subst hE;obtain⟨E',val,h1,h2,h3,h4,h5⟩:=rI ho ht hok hv' (λob he=>by
   rw[hHd fresh (by rw[<-hrd,he];simp[BQ])];exact hfr ob he)
  rw[aDi]at h4;have:=hn E' val h2 h3 h4 h5;unfold Oper.wp;rcases h1 with h1| ⟨h1,rfl⟩
  ·rw[h1];exact this
  ·rw[h1];exact this
 ·intro e' he';rw[<-hrd];exact aN0.2 (.inr (aNy.2 ⟨e',he',rfl⟩))
theorem TJ{k:Nat}{o:Oper}{l:List Oper}{prev:gW}{T:aJ}{H:aH}(hw:aZ ops.toList T N o=some false)
  (h:mI P N ops Q (k+1) l (prev++ [(k,[],[])]) (bT T o.dst .junk) H):mI P N ops Q k (o::l) prev T H:=
 ⟨.junk,[],[],λT' H' hT _ _ E a ho hE ht=>.inl ⟨bY ht (oT hT hw),rfl, .inl rfl⟩,zz,λp _=>.inr ⟨zz,zz⟩,h⟩
theorem xU{k:Nat}{o:Oper}{l:List Oper}{prev:gW}{T:aJ}{H:aH}{fo:Operand}{xs:Array Operand}{ts:Array TypeId}(hop:o.op= .call ⟨.value fo,xs,ts⟩)(hw:aZ ops.toList T N o=some true)(hok:dC N o.op=true)
  {f:FuncId} {pf pc:List PV} (hf:bS T fo= .fn (.func f) pf pc) (hgo:bO P f=true) {args:List PV} (hargs:pf++(xs.toList.map λx=>(bS T x).drop1)++pc=args) {r:PV} {eff:List (Nat×AObj)} {rd:List Nat}
  (hown:∀e∈eff,e.1∈rd) (hc:∀H':aH,(∀id∈rd,H'[id]? =H[id]?)->H'.length=H.length->aR P f args H' λr' H''=>r'=r/\H''=mS H' eff)
  (hap:∀p∈prev,((cH ops.toList).getD k 0).testBit p.1=true\/((∀id∈p.2.2,id∉rd)/\∀e'∈eff,e'.1∉p.2.1))
  (h:mI P N ops Q (k+1) l (prev++ [(k,rd,eff.map (·.1))]) (bT T o.dst r) (mS H eff)):mI P N ops Q k (o::l) prev T H:=by
 refine⟨r,eff,rd, ?_,hown,hap,h⟩;intro T' H' hT hHd hlen E a ho hE ht;refine .inr ⟨bY ht (oT hT hw),λnext Q hn=> ?_⟩;have hag:=xW hT;have hall:∀x∈o.op.operands.toList,aU N x=true:=λx hx=>aNz.1 hok x hx;rw[hop]at hall hag;simp only[Op.operands,Call.operands]at hall hag;have hr:=aN ht fo (hall fo zz);rw[hag fo zz,hf]at hr;obtain⟨first,caps,hval,h1,h2⟩:∃first caps,a.eval fo= .func (.func f) first caps/\RL E.view first pf/\RL E.view caps pc:=by
  generalize a.eval fo=y at hr;cases hr with
  |fn _ first caps _ _ hf hc hrf hrc=>exact⟨first,caps,rfl,⟨hf,hrf⟩,⟨hc,hrc⟩⟩
 have h3:=vP ht xs (aNz.2 λx hx=>hall x (by simp;right;simpa using hx));have e3:(xs.toList.map λx=>(bS T' x).drop1)=xs.toList.map λx=>(bS T x).drop1:=List.map_congr_left λx hx=>by rw[hag x (by simp;right;simpa using hx)]
 rw[e3]at h3;have hrl:=iE (iE h1 h3) h2;rw[hargs]at hrl;have hrun:(execOp a.eval o).run P E.w= .ok (.enter f (first++xs.map a.eval++caps)) E.w:=by
  unfold execOp;rw[hop];simp only[resolve,hval,Deferred.ofValue,aM9,aNc,aNa,invoke,lI hgo]
 unfold Oper.wp;rw[hrun];refine(hc H' hHd hlen E _ ho hE hrl).mono ?_;rintro e w' ⟨E',v,r',rfl,rfl,h5,h6,h7,rfl,h8⟩;exact hn E' v h5 h6 h8 h7
end
def BY(P:Program)(N:Nat)(ops:List Oper):List Oper->aJ->aH->Option (aJ×aH)
 | [],T,H=>some (T,H)
 |o::l,T,H=>match aZ ops T N o with
  |some true=>(fN P false H.length T H o.op).bind λr=>BY P N ops l (bT T o.dst r.1) (appS H r.2)
  |some false=>BY P N ops l (bT T o.dst .junk) H
  |none=>none
section
variable{P:Program}{N nb:Nat}{ops:Array Oper}{Q:cT}
theorem uA:∀(l l2:List Oper) (T:aJ) (H:aH) {T':aJ} {H':aH},l.all (λo=>dC N o.op)=true->BY P N ops.toList l T H=some (T',H')->bC P N nb ops Q l2 T' H'->bC P N nb ops Q (l++l2) T H
 | [],l2,T,H,T',H',_,hs,h=>by cases hs;exact h
 |o::l,l2,T,H,T',H',hok,hs,h=>by
  simp only[aMi,aMj]at hok;unfold BY at hs
  split at hs
  ·rename_i hw;obtain⟨r,hr,hs⟩:=bind_some hs;exact RT false hw hok.1 hr rfl (uA l l2 _ _ hok.2 hs h)
  ·rename_i hw;exact yO hw (uA l l2 _ _ hok.2 hs h)
  ·cases hs
theorem SV(n:Nat){l:List Oper}{T T':aJ}{H H':aH}(hs:BY P N ops.toList (l.take n) T H=some (T',H'))(hok:(l.take n).all (λo=>dC N o.op)=true)(h:bC P N nb ops Q (l.drop n) T' H'):bC P N nb ops Q l T H:=by
 have:=uA (l.take n) (l.drop n) T H hok hs h
 rwa [List.take_append_drop]at this
theorem XY{l:List Oper}{T T':aJ}{H H':aH}(hs:BY P N ops.toList l T H=some (T',H'))(hok:l.all (λo=>dC N o.op)=true)(h:Q .normal T' H'):bC P N nb ops Q l T H:=by
 have:=uA l [] T H hok hs (oN (nb:=nb) (Q:=Q) h)
 rwa [aN9]at this
theorem CG{id:Nat}{T T':aJ}{H H':aH}(hs:BY P N ops.toList ops.toList T H=some (T',H'))(hok:ops.toList.all (λo=>dC N o.op)=true)(h:Q .normal T' H'):fO P N nb (.region id ops false) Q T H:=by
 refine wR ?_;have:=uA (nb:=nb) ops.toList [] T H hok hs (oN (Q:=Q) h)
 rwa [aN9]at this
end
def pM(bmk:Nat)(prev:gW)(rd eids:List Nat):Bool:=
 prev.all λp=>(bmk/2^p.1%2==1)||((p.2.2.all λid=> !rd.contains id)&&eids.all λid=> !p.2.1.contains id)
theorem uE{bmk:Nat}{prev:gW}{rd:List Nat}{eff:List (Nat×AObj)}(h:pM bmk prev rd (eff.map (·.1))=true):
  ∀p∈prev,bmk.testBit p.1=true\/((∀id∈p.2.2,id∉rd)/\∀e∈eff,e.1∉p.2.1):=by
 intro p hp;unfold pM at h;have e2:(bmk/2^p.1%2==1)=bmk.testBit p.1:=by rw[Nat.testBit_eq_decide_div_mod_eq];rfl
 have:=aNz.1 h p hp;rw[e2]at this;simp only[Bool.or_eq_true,aMj,aNz,aMk,List.contains_eq_mem,decide_eq_false_iff_not,aNy]at this;rcases this with h| ⟨h1,h2⟩
 ·exact .inl h
 ·exact .inr ⟨h1,λe he=>h2 e.1 ⟨e,he,rfl⟩⟩
def pH(H:aH)(id:Nat):Bool:=match H[id]? with|some .unborn=>true|_=>false
theorem vD{H:aH}{id:Nat}(h:pH H id=true):H[id]? =some .unborn:=by
 unfold pH at h
 split at h
 ·assumption
 ·cases h
def dY(e:pK):List Nat:=match e with|some (id,_)=> [id]|none=> []
def nC(e:pK)(H:aH):aH:=match e with|some (id,o)=>H.set id o|none=>H
def iV(fresh:Nat)(e:pK):Nat:=match e with|some (id,_)=>if id=fresh then fresh+1 else fresh|none=>fresh
def iK(fresh:Nat)(e:pK)(H:aH):Bool:=match e with|some (id,_)=>if id=fresh then pH H fresh else true|none=>true
def KX(P:Program)(N:Nat)(ops:List Oper)(bm:List Nat):List Oper->Nat->Nat->gW->aJ->aH->Option (Nat×gW×aJ×aH)
 | [],_,fresh,prev,T,H=>some (fresh,prev,T,H)
 |o::l,k,fresh,prev,T,H=>match aZ ops T N o with
  |some true=>(fN P false fresh T H o.op).bind λr=>
   if iK fresh r.2 H=true/\pM (bm.getD k 0) prev (nI T o.op++dY r.2) (dY r.2)=true then
    KX P N ops bm l (k+1) (iV fresh r.2) (prev++ [(k,nI T o.op++dY r.2,dY r.2)]) (bT T o.dst r.1) (nC r.2 H)
   else none
  |some false=>KX P N ops bm l (k+1) fresh (prev++ [(k,[],[])]) (bT T o.dst .junk) H
  |none=>none
section
variable{P:Program}{N nb:Nat}{ops:Array Oper}{Q:cT}
theorem xI:∀(l l2:List Oper) (k fresh:Nat) (prev:gW) (T:aJ) (H:aH) {bm:List Nat} {fresh':Nat} {prev':gW} {T':aJ} {H':aH},cH ops.toList=bm->l.all (λo=>dC N o.op)=true->
  KX P N ops.toList bm l k fresh prev T H=some (fresh',prev',T',H')->mI P N ops Q (k+l.length) l2 prev' T' H'->mI P N ops Q k (l++l2) prev T H
 | [],l2,k,fresh,prev,T,H,bm,fresh',prev',T',H',hbm,_,hs,h=>by cases hs;exact h
 |o::l,l2,k,fresh,prev,T,H,bm,fresh',prev',T',H',hbm,hok,hs,h=>by
  simp only[aMi,aMj]at hok;have h':mI P N ops Q (k+1+l.length) l2 prev' T' H':=by rw[show k+1+l.length=k+(o::l).length by simp only[aM7];omega];exact h
  unfold KX at hs
  split at hs
  ·rename_i hw;obtain⟨r,hr,hs⟩:=bind_some hs
   split at hs
   ·rename_i hc;obtain⟨v,e⟩:=r;have hids:dY e=(BQ e).map (·.1):=by cases e<;>rfl
    have hset:nC e H=mS H (BQ e):=by cases e<;>rfl
    rw[hids]at hc hs;rw[hset]at hs;refine SB false fresh hw hok.1 hr (λob he=> ?_) rfl rfl (uE (by rw[hbm];exact hc.2)) (xI l l2 (k+1) _ _ _ _ hbm hok.2 hs h');have:=hc.1;subst he;simp only[iK,if_true]at this;exact vD this
   ·cases hs
  ·rename_i hw;exact TJ hw (xI l l2 (k+1) _ _ _ _ hbm hok.2 hs h')
  ·cases hs
theorem UP(n:Nat){l:List Oper}{k fresh:Nat}{prev prev':gW}{T T':aJ}{H H':aH}{bm:List Nat}{fresh':Nat}(hbm:cH ops.toList=bm)(hs:KX P N ops.toList bm (l.take n) k fresh prev T H=some (fresh',prev',T',H'))
  (hok:(l.take n).all (λo=>dC N o.op)=true) (hn:(l.take n).length=n) (h:mI P N ops Q (k+n) (l.drop n) prev' T' H'):mI P N ops Q k l prev T H:=by
 have:=xI (l.take n) (l.drop n) k fresh prev T H hbm hok hs (by rw[hn];exact h)
 rwa [List.take_append_drop]at this
theorem WE{l:List Oper}{k fresh:Nat}{prev prev':gW}{T T':aJ}{H H':aH}{bm:List Nat}{fresh':Nat}(hbm:cH ops.toList=bm)(hs:KX P N ops.toList bm l k fresh prev T H=some (fresh',prev',T',H'))
  (hok:l.all (λo=>dC N o.op)=true) (h:Q .normal T' H'):mI P N ops Q k l prev T H:=by
 have:=xI l [] k fresh prev T H (Q:=Q) hbm hok hs (wM h)
 rwa [aN9]at this
def iC(T:aJ):Op->Option (FuncId×List PV)
 | .call c=>match c.callee with
  | .value fo=>match bS T fo with
   | .fn (.func f) pf pc=>some (f,pf++(c.args.toList.map λx=>(bS T x).drop1)++pc)
   |_=>none
  |_=>none
 |_=>none
theorem lF{T:aJ}{o:Op}{f:FuncId}{args:List PV}(h:iC T o=some (f,args)):
  ∃fo xs ts pf pc,o= .call ⟨.value fo,xs,ts⟩/\bS T fo= .fn (.func f) pf pc/\pf++(xs.toList.map λx=>(bS T x).drop1)++pc=args:=by
 unfold iC at h
 split at h
 ·rename_i c;obtain⟨ca,xs,ts⟩:=c;simp only at h
  split at h
  ·rename_i fo
   split at h
   ·rename_i f' pf pc hq;simp only[Option.some.injEq,Prod.mk.injEq]at h;obtain⟨rfl,rfl⟩:=h;exact⟨fo,xs,ts,pf,pc,rfl,hq,rfl⟩
   ·cases h
  ·cases h
 ·cases h
theorem oC{o:Oper}{l:List Oper}{T:aJ}{H:aH}{f:FuncId}{args:List PV}(hcall:iC T o.op=some (f,args))(hw:aZ ops.toList T N o=some true)(hok:dC N o.op=true)
  (hgo:bO P f=true) {R:PV->aH->Prop} (hc:aR P f args H R) (h:∀r H',R r H'->bC P N nb ops Q l (bT T o.dst r) H'):bC P N nb ops Q (o::l) T H:=by
 obtain⟨fo,xs,ts,pf,pc,h1,h2,h3⟩:=lF hcall;exact UA h1 hw hok h2 hgo h3 hc h
theorem oP{o:Oper}{l:List Oper}{T:aJ}{H:aH}{f:FuncId}{args:List PV}{r:PV}(hcall:iC T o.op=some (f,args))(hw:aZ ops.toList T N o=some true)(hok:dC N o.op=true)
  (hgo:bO P f=true) (hc:aR P f args H λr' H''=>r'=r/\H''=H) (h:bC P N nb ops Q l (bT T o.dst r) H):bC P N nb ops Q (o::l) T H:=
 oC hcall hw hok hgo hc λr' H' ⟨h1,h2⟩=>by subst h1;subst h2;exact h
theorem aDf{T:aJ}{H:aH}(n:Nat)(live:List Nat)(oK:Nat->aJ->aH->Prop){b b1 i1 i2:Nat}{body:Code}{o1 o2 o3:Oper}{ti tn tc tt:Nat}{y1 y2:TypeId}
  (e1:o1.op= .binOp .lss y1 (.tmp ti) (.tmp tn) y2) (d1:o1.dst=some tc) (g1:o1.guard=none)
  (e2:o2.op= .binOp .add y1 (.tmp ti) (.const (.int .i64 1)) y2) (d2:o2.dst=some tt) (g2:o2.guard=none)
  (e3:o3.op= .move (.tmp tt)) (d3:o3.dst=some ti) (g3:o3.guard=none)
  (hbnd:ti<N/\tn<N/\tc<N/\tt<N) (hdis:ti≠tn/\ti≠tc/\tn≠tc/\tn≠tt/\ti≠tt/\ti∉live/\tc∉live/\tt∉live) (hn:n<=maxLen) (hb:b≠b1)
  (hi0:T ti= .int .i64 0) (hn0:T tn= .int .i64 n) (hInv:∀i T T2 H,(∀t∈live,T2 t=T t)->oK i T H->oK i T2 H) (h0:oK 0 T H)
  (hbody:∀i T H,i<n->oK i T H->T ti= .int .i64 i->T tn= .int .i64 n->
   fO P N nb body (λe T' H'=>match e with
    | .normal=>T' ti= .int .i64 i/\T' tn= .int .i64 n/\∃H1 L,H'=H1++L/\nb<=H1.length/\iJ H1.length H1/\(∀t∈live,bF H1.length (T' t))/\oK (i+1) T' H1
    | .exit id=>if id=b1 then T' ti= .int .i64 i/\T' tn= .int .i64 n/\∃H1 L,H'=H1++L/\nb<=H1.length/\iJ H1.length H1/\(∀t∈live,bF H1.length (T' t))/\oK (i+1) T' H1
     else if id=b then Q .normal T' H' else Q (.exit id) T' H'
    |e=>Q e T' H') T H)
  (hexit:∀T H,oK n T H->Q .normal T H):
  fO P N nb (.block b (.loop (.seq (.region i1 #[o1] false) (.seq (.cond (.tmp tc) .skip (.exit b)) (.seq (.block b1 body) (.region i2 #[o2,o3] false)))))) Q T H:=by
 obtain⟨b1',b2',b3',b4'⟩:=hbnd;obtain⟨q1,q2,q3,q4,q5,q6,q7,q8⟩:=hdis;have k1:dC N o1.op=true:=by
  rw[e1];show([Operand.tmp ti, .tmp tn].all (aU N))=true;simp only[aMi,List.all_nil,aU,b1',b2',decide_true,Bool.and_self]
 have k2:dC N o2.op=true:=by
  rw[e2];show([Operand.tmp ti, .const (.int .i64 1)].all (aU N))=true;simp only[aMi,List.all_nil,aU,b1',decide_true,Bool.and_self]
 have k3:dC N o3.op=true:=by
  rw[e3];show([Operand.tmp tt].all (aU N))=true;simp only[aMi,List.all_nil,aU,b4',decide_true,Bool.and_self]
 have em:maxLen=9223372036854775807:=z7
 have hwrap:∀i:Nat,i<n->IntKind.i64.wrap ((i:Int)+1)=(i:Int)+1:=by
  intro i hi;rw[em]at hn;simp[IntKind.wrap,IntKind.bits,IntKind.signed];omega
 have hend:∀(i:Nat),i<n->∀(T':aJ) (H':aH),T' ti= .int .i64 i->T' tn= .int .i64 n->(∃H1 L,H'=H1++L/\nb<=H1.length/\iJ H1.length H1/\(∀t∈live,bF H1.length (T' t))/\oK (i+1) T' H1)->
   fO P N nb (.region i2 #[o2,o3] false) (bQ (λT' H'=>∃n' H1 L,n'<n-i/\H'=H1++L/\nb<=H1.length/\iJ H1.length H1/\(∀t∈ti::tn::live,bF H1.length (T' t))/\
    ∃i':Nat,n'=n-i'/\i'<=n/\keep (ti::tn::live) T' ti= .int .i64 i'/\keep (ti::tn::live) T' tn= .int .i64 n/\oK i' (keep (ti::tn::live) T') H1) (cB b Q)) T' H':=by
  intro i hi T' H' h1 h2 h3;refine CG (T':=upd (upd T' tt (.int .i64 ((i:Int)+1))) ti (.int .i64 ((i:Int)+1))) (H':=H') ?_ ?_ ?_
  ·simp only[BY,aZ,g2,g3,e2,e3,d2,d3,fN,bS,h1,aW,eC,if_true,aM3,pZ,bT,appS,hwrap i hi];have:upd T' tt (.int .i64 ((i:Int)+1)) tt= .int .i64 ((i:Int)+1):=if_pos rfl;simp only[this]
  ·simp only[aMi,List.all_nil,k2,k3,Bool.and_self]
  ·obtain⟨H1,L,h4,h5,h6,h7,h8⟩:=h3;have hti:upd (upd T' tt (.int .i64 ((i:Int)+1))) ti (.int .i64 ((i:Int)+1)) ti= .int .i64 ((i:Int)+1):=if_pos rfl;have htn:upd (upd T' tt (.int .i64 ((i:Int)+1))) ti (.int .i64 ((i:Int)+1)) tn= .int .i64 n:=by
    unfold upd;rw[if_neg (λe=>q1 e.symm),if_neg q4];exact h2
   have hlv:∀t∈live,upd (upd T' tt (.int .i64 ((i:Int)+1))) ti (.int .i64 ((i:Int)+1)) t=T' t:=by
    intro t ht;unfold upd;rw[if_neg (by rintro rfl;exact q6 ht),if_neg (by rintro rfl;exact q8 ht)]
   refine⟨n- (i+1),H1,L,z8,h4,h5,h6, ?_,i+1,rfl,z8, ?_, ?_, ?_⟩
   ·intro t ht;rcases aN2.1 ht with rfl|ht
    ·rw[hti];exact .int _ _
    ·rcases aN2.1 ht with rfl|ht
     ·rw[htn];exact .int _ _
     ·rw[hlv t ht];exact h7 t ht
   ·unfold keep;rw[if_pos zz,hti];rfl
   ·unfold keep;rw[if_pos zz,htn]
   ·refine hInv _ T' _ _ (λt ht=> ?_) h8;unfold keep;rw[if_pos (by simp[ht]),hlv t ht]
 refine bJ (ZN (ti::tn::live) (λk T H=>∃i:Nat,k=n-i/\i<=n/\T ti= .int .i64 i/\T tn= .int .i64 n/\oK i T H) n ⟨0,rfl,aNs _,hi0,hn0,h0⟩ ?_);rintro k T H ⟨i,rfl,hin,h1,h2,h3⟩;refine wS (CG (T':=upd T tc (.bool (decide ((i:Int)<n)))) (H':=H) ?_ ?_ ?_)
 ·simp only[BY,aZ,g1,e1,d1,fN,bS,h1,h2,eC,if_true,aM3,pZ,bT,appS]
 ·simp only[aMi,List.all_nil,k1,Bool.and_self]
 ·have htc:upd T tc (.bool (decide ((i:Int)<n))) tc= .bool (decide ((i:Int)<n)):=if_pos rfl;have hti:upd T tc (.bool (decide ((i:Int)<n))) ti= .int .i64 i:=by unfold upd;rw[if_neg q2];exact h1
  have htn:upd T tc (.bool (decide ((i:Int)<n))) tn= .int .i64 n:=by unfold upd;rw[if_neg q3];exact h2
  have hiv:oK i (upd T tc (.bool (decide ((i:Int)<n)))) H:=hInv i T _ H (λt ht=>by unfold upd;rw[if_neg (by rintro rfl;exact q7 ht)]) h3;refine wS (wC (b:=decide ((i:Int)<n)) (by simpa[aU]using b3') htc (λhb'=> ?_) (λhb'=> ?_))
  ·have hlt:i<n:=by have:=of_decide_eq_true hb';omega
   refine wK ?_;refine wS (bJ (fO.mono (hbody i _ H hlt hiv hti htn) ?_));intro e T' H' he;cases e with
   |normal=>exact hend i hlt T' H' he.1 he.2.1 he.2.2
   |exit id=>
    simp only at he;simp only[cB]
    split at he
    ·rename_i hid;rw[if_pos hid];exact hend i hlt T' H' he.1 he.2.1 he.2.2
    ·rename_i hid;rw[if_neg hid];simp only[bQ,cB]
     split at he
     ·rename_i hid2;rw[if_pos hid2];exact he
     ·rename_i hid2;rw[if_neg hid2];exact he
   |_=>exact he
  ·have hge:i=n:=by have:=of_decide_eq_false hb';omega
   subst hge;refine dO ?_;simp only[bQ,cB,if_true];exact hexit _ _ hiv
end
theorem dN(n:Nat):iJ n []:=λo h=>by cases h
theorem iJ.cons{n:Nat}{o:AObj}{H:aH}(h1:EK n o)(h2:iJ n H):iJ n (o::H):=λx hx=>by
 rcases aN2.1 hx with rfl|hx
 ·exact h1
 ·exact h2 x hx
theorem FW(T:aJ)(d i:Nat)(v:PV):upd T d v i=if i=d then v else T i:=rfl
theorem SW(T:aJ)(d:Nat)(v:PV):bT T (some d) v=upd T d v:=rfl
theorem TZ(T:aJ)(v:PV):bT T none v=T:=rfl
theorem aB2(T:aJ)(t:Nat):bS T (.tmp t)=T t:=rfl
theorem TM(T:aJ)(v:Value):bS T (.const v)=aW v:=rfl
theorem ZP(T:aJ)(f:FuncId):bS T (.func f)= .fn (.func f) [] []:=rfl
theorem MN(args:List PV)(i:Nat):enter args i=args.getD i .junk:=rfl
theorem PI(l:List Nat)(T:aJ)(i:Nat):keep l T i=if i∈l then T i else .junk:=rfl
theorem VD(H:aH):appS H none=H:=rfl
theorem UU(H:aH)(id:Nat)(o:AObj):appS H (some (id,o))=if id=H.length then H++ [o]else H.set id o:=rfl
theorem aIc:(false==true)=false:=rfl
theorem aIw:(true==false)=false:=rfl
theorem UF(cs:List PV):(PV.agg cs).cells=cs:=rfl
theorem VK(k:IntKind)(n:Int):(PV.int k n).cells= [.int k n]:=rfl
theorem OT(b:Bool):(PV.bool b).cells= [.bool b]:=rfl
theorem UM(s:List UInt8):(PV.str s).cells= [.str s]:=rfl
theorem LD(es:List PV)(tl:bE):(PV.slice es tl).cells= [.slice es tl]:=rfl
theorem PU(i o:Nat):(PV.optr i o).cells= [.optr i o]:=rfl
theorem PM(cs:List PV):(PV.iptr cs).cells= [.iptr cs]:=rfl
theorem OD:PV.nilp.cells= [.nilp]:=rfl
theorem aA5(f:Fn)(a b:List PV):(PV.fn f a b).cells= [.fn f a b]:=rfl
theorem SY(a b c d:Nat):(PV.msl a b c d).cells= [.msl a b c d]:=rfl
theorem ZV(cs:List PV):(PV.agg cs).isJunk=false:=rfl
theorem XR(k:IntKind)(n:Int):(PV.int k n).isJunk=false:=rfl
theorem SM(b:Bool):(PV.bool b).isJunk=false:=rfl
theorem aAd(s:List UInt8):(PV.str s).isJunk=false:=rfl
theorem PK(es:List PV)(tl:bE):(PV.slice es tl).isJunk=false:=rfl
theorem UV(i o:Nat):(PV.optr i o).isJunk=false:=rfl
theorem TS(cs:List PV):(PV.iptr cs).isJunk=false:=rfl
theorem TV:PV.nilp.isJunk=false:=rfl
theorem aCp(f:Fn)(a b:List PV):(PV.fn f a b).isJunk=false:=rfl
theorem aAh(a b c d:Nat):(PV.msl a b c d).isJunk=false:=rfl
theorem aB3(k:IntKind)(n:Int):(PV.int k n).isCell=true:=rfl
theorem XQ(b:Bool):(PV.bool b).isCell=true:=rfl
theorem aDc(s:List UInt8):(PV.str s).isCell=true:=rfl
theorem UT(es:List PV)(tl:bE):(PV.slice es tl).isCell=true:=rfl
theorem ZC(i o:Nat):(PV.optr i o).isCell=true:=rfl
theorem YW(cs:List PV):(PV.iptr cs).isCell=true:=rfl
theorem YI:PV.nilp.isCell=true:=rfl
theorem aGj(f:Fn)(a b:List PV):(PV.fn f a b).isCell=true:=rfl
theorem aDd(a b c d:Nat):(PV.msl a b c d).isCell=true:=rfl
theorem aG0(cs:List PV):(PV.agg cs).drop1= .agg (cs.map PV.drop0):=rfl
theorem aFb(k:IntKind)(n:Int):(PV.int k n).drop1= .int k n:=rfl
theorem aC1(b:Bool):(PV.bool b).drop1= .bool b:=rfl
theorem aGu(s:List UInt8):(PV.str s).drop1= .str s:=rfl
theorem YC(es:List PV)(tl:bE):(PV.slice es tl).drop1= .slice es .none:=rfl
theorem aCj(i o:Nat):(PV.optr i o).drop1= .optr i o:=rfl
theorem aCg(cs:List PV):(PV.iptr cs).drop1= .iptr cs:=rfl
theorem aBh:PV.nilp.drop1= .nilp:=rfl
theorem aIr(f:Fn)(a b:List PV):(PV.fn f a b).drop1= .fn f a b:=rfl
theorem aFt(a b c d:Nat):(PV.msl a b c d).drop1= .msl a b c d:=rfl
theorem aF2(k:IntKind)(n:Int):(PV.int k n).drop0= .int k n:=rfl
theorem aDe(b:Bool):(PV.bool b).drop0= .bool b:=rfl
theorem aG3(s:List UInt8):(PV.str s).drop0= .str s:=rfl
theorem WK(es:List PV)(tl:bE):(PV.slice es tl).drop0= .slice es .none:=rfl
theorem aBj(i o:Nat):(PV.optr i o).drop0= .optr i o:=rfl
theorem aC6(cs:List PV):(PV.iptr cs).drop0= .iptr cs:=rfl
theorem aB4:PV.nilp.drop0= .nilp:=rfl
theorem aIy(f:Fn)(a b:List PV):(PV.fn f a b).drop0= .fn f a b:=rfl
theorem aC8(cs:List PV)(n b:Nat):(PV.agg cs).fits ⟨true,n,b⟩=decide (cs.length=n):=by unfold PV.fits;exact Bool.and_true _
theorem aCa(k:IntKind)(i:Int)(b:Nat):(PV.int k i).fits ⟨false,1,b⟩=true:=rfl
theorem ZU(x:Bool)(b:Nat):(PV.bool x).fits ⟨false,1,b⟩=true:=rfl
theorem aCn(s:List UInt8)(b:Nat):(PV.str s).fits ⟨false,1,b⟩=true:=rfl
theorem SJ(es:List PV)(tl:bE)(b:Nat):(PV.slice es tl).fits ⟨false,1,b⟩=true:=rfl
theorem YO(i o:Nat)(b:Nat):(PV.optr i o).fits ⟨false,1,b⟩=true:=rfl
theorem aAp(b:Nat):(PV.nilp).fits ⟨false,1,b⟩=true:=rfl
theorem JM(b:Bool):aW (.bool b)= .bool b:=rfl
theorem LI(k:IntKind)(n:Int):aW (.int k n)= .int k n:=rfl
theorem MX(s:ByteArray):aW (.string s)= .str s.data.toList:=rfl
theorem HU:aW (.pointer none)= .nilp:=rfl
theorem ID:aW (.slice none 0 0)= .slice [] .full:=rfl
theorem SS:(∀(T:aJ) (d i:Nat) (v:PV),upd T d v i=if i=d then v else T i)/\
  (∀(T:aJ) (d:Nat) (v:PV),bT T (some d) v=upd T d v)/\
  (∀(T:aJ) (v:PV),bT T none v=T)/\
  (∀(T:aJ) (t:Nat),bS T (.tmp t)=T t)/\
  (∀(T:aJ) (v:Value),bS T (.const v)=aW v)/\
  (∀(T:aJ) (f:FuncId),bS T (.func f)= .fn (.func f) [] [])/\
  (∀(args:List PV) (i:Nat),enter args i=args.getD i .junk)/\
  (∀(l:List Nat) (T:aJ) (i:Nat),keep l T i=if i∈l then T i else .junk)/\
  (∀(H:aH),appS H none=H)/\
  (∀(H:aH) (id:Nat) (o:AObj),appS H (some (id,o))=if id=H.length then H++ [o]else H.set id o)/\
  ((false==true)=false)/\
  ((true==false)=false)/\
  (∀(cs:List PV),(PV.agg cs).cells=cs)/\
  (∀(k:IntKind) (n:Int),(PV.int k n).cells= [.int k n])/\
  (∀(b:Bool),(PV.bool b).cells= [.bool b])/\
  (∀(s:List UInt8),(PV.str s).cells= [.str s])/\
  (∀(es:List PV) (tl:bE),(PV.slice es tl).cells= [.slice es tl])/\
  (∀(i o:Nat),(PV.optr i o).cells= [.optr i o])/\
  (∀(cs:List PV),(PV.iptr cs).cells= [.iptr cs])/\
  (PV.nilp.cells= [.nilp])/\
  (∀(f:Fn) (a b:List PV),(PV.fn f a b).cells= [.fn f a b])/\
  (∀(a b c d:Nat),(PV.msl a b c d).cells= [.msl a b c d])/\
  (∀(cs:List PV),(PV.agg cs).isJunk=false)/\
  (∀(k:IntKind) (n:Int),(PV.int k n).isJunk=false)/\
  (∀(b:Bool),(PV.bool b).isJunk=false)/\
  (∀(s:List UInt8),(PV.str s).isJunk=false)/\
  (∀(es:List PV) (tl:bE),(PV.slice es tl).isJunk=false)/\
  (∀(i o:Nat),(PV.optr i o).isJunk=false)/\
  (∀(cs:List PV),(PV.iptr cs).isJunk=false)/\
  (PV.nilp.isJunk=false)/\
  (∀(f:Fn) (a b:List PV),(PV.fn f a b).isJunk=false)/\
  (∀(a b c d:Nat),(PV.msl a b c d).isJunk=false)/\
  (∀(k:IntKind) (n:Int),(PV.int k n).isCell=true)/\
  (∀(b:Bool),(PV.bool b).isCell=true)/\
  (∀(s:List UInt8),(PV.str s).isCell=true)/\
  (∀(es:List PV) (tl:bE),(PV.slice es tl).isCell=true)/\
  (∀(i o:Nat),(PV.optr i o).isCell=true)/\
  (∀(cs:List PV),(PV.iptr cs).isCell=true)/\
  (PV.nilp.isCell=true)/\
  (∀(f:Fn) (a b:List PV),(PV.fn f a b).isCell=true)/\
  (∀(a b c d:Nat),(PV.msl a b c d).isCell=true)/\
  (∀(cs:List PV),(PV.agg cs).drop1= .agg (cs.map PV.drop0))/\
  (∀(k:IntKind) (n:Int),(PV.int k n).drop1= .int k n)/\
  (∀(b:Bool),(PV.bool b).drop1= .bool b)/\
  (∀(s:List UInt8),(PV.str s).drop1= .str s)/\
  (∀(es:List PV) (tl:bE),(PV.slice es tl).drop1= .slice es .none)/\
  (∀(i o:Nat),(PV.optr i o).drop1= .optr i o)/\
  (∀(cs:List PV),(PV.iptr cs).drop1= .iptr cs)/\
  (PV.nilp.drop1= .nilp)/\
  (∀(f:Fn) (a b:List PV),(PV.fn f a b).drop1= .fn f a b)/\
  (∀(a b c d:Nat),(PV.msl a b c d).drop1= .msl a b c d)/\
  (∀(k:IntKind) (n:Int),(PV.int k n).drop0= .int k n)/\
  (∀(b:Bool),(PV.bool b).drop0= .bool b)/\
  (∀(s:List UInt8),(PV.str s).drop0= .str s)/\
  (∀(es:List PV) (tl:bE),(PV.slice es tl).drop0= .slice es .none)/\
  (∀(i o:Nat),(PV.optr i o).drop0= .optr i o)/\
  (∀(cs:List PV),(PV.iptr cs).drop0= .iptr cs)/\
  (PV.nilp.drop0= .nilp)/\
  (∀(f:Fn) (a b:List PV),(PV.fn f a b).drop0= .fn f a b)/\
  (∀(cs:List PV) (n b:Nat),(PV.agg cs).fits ⟨true,n,b⟩=decide (cs.length=n))/\
  (∀(k:IntKind) (i:Int) (b:Nat),(PV.int k i).fits ⟨false,1,b⟩=true)/\
  (∀(x:Bool) (b:Nat),(PV.bool x).fits ⟨false,1,b⟩=true)/\
  (∀(s:List UInt8) (b:Nat),(PV.str s).fits ⟨false,1,b⟩=true)/\
  (∀(es:List PV) (tl:bE) (b:Nat),(PV.slice es tl).fits ⟨false,1,b⟩=true)/\
  (∀(i o:Nat) (b:Nat),(PV.optr i o).fits ⟨false,1,b⟩=true)/\
  (∀(b:Nat),(PV.nilp).fits ⟨false,1,b⟩=true)/\
  (∀(b:Bool),aW (.bool b)= .bool b)/\
  (∀(k:IntKind) (n:Int),aW (.int k n)= .int k n)/\
  (∀(s:ByteArray),aW (.string s)= .str s.data.toList)/\
  (aW (.pointer none)= .nilp)/\
  (aW (.slice none 0 0)= .slice [] .full):=
 ⟨FW,SW,TZ,aB2,TM,ZP,MN,PI,VD,UU,aIc,aIw,UF,VK,OT,UM,LD,PU,PM,OD,aA5,SY,ZV,XR,SM,aAd,PK,UV,TS,TV,aCp,aAh,aB3,XQ,aDc,UT,ZC,YW,YI,aGj,aDd,aG0,aFb,aC1,aGu,YC,aCj,aCg,aBh,aIr,aFt,aF2,aDe,aG3,WK,aBj,aC6,aB4,aIy,aC8,aCa,ZU,aCn,SJ,YO,aAp,JM,LI,MX,HU,ID⟩
theorem aQ.retok{V:cG}{v:Value}{es:List PV}{id:Nat}(hes:es= [])(h:aQ V v (.slice es .full))(hb:V.born id)(ht:∀t,V.tok id=some t->es.length<=t.n):aQ V v (.slice es (.tok id)):=by
 cases h with
 |nils _ h0=>exact .nils _ ⟨hb,λt e=>⟨aNs _,λ_=>.inl ⟨rfl,λh=>absurd h zz⟩⟩⟩
 |slice a len cap sz _ _ vs hlen hcap hmax hsz hc hr h0=>
  subst hlen;exact .slice _ _ _ _ _ _ vs rfl hcap hmax hsz hc hr ⟨hb,λt e=>⟨ht t e,λ_=>.inl ⟨h0,λh=>by rw[hes]at h;exact absurd h zz⟩⟩⟩
section
variable{P:Program}{N nb:Nat}{Q:cT}
theorem EL{c:Code}{T:aJ}{H:aH}(id k sz:Nat){cs es:List PV}(hid:H[id]? =some (.row cs))(hk:cs[k]? =some (.slice es .full))
  (h:fO P N nb c Q T (H.set id (.row (cs.set k (.slice es (.tok H.length))))++ [.buf es.length sz])) (he:es= []:=by rfl):fO P N nb c Q T H:=by
 intro E a ho hH ht;subst hH;have hlt:=lG hid;have hun:E.ext.H[E.H.length]? =some .unborn:=by simp[aK.ext]
 have ho1:=ho.ext;have hle1:=E.ext_le;have ho2:=aK.Ok.retok (n:=es.length) (sz:=sz) ho1 hun;have hle2:=hle1.trans (aK.retok_le (n:=es.length) (sz:=sz) hun);generalize hE2:E.ext.retok E.H.length es.length sz=E2 at ho2 hle2;have hw2:E2.w=E.w:=by rw[<-hE2];rfl
 have hH2:E2.H=E.H++ [.buf es.length sz]:=by
  rw[<-hE2];simp only[aK.retok,aK.ext];rw[aN4 _ _ (aMq _)];simp
 let E3:aK:= {E2 with H:=E2.H.set id (.row (cs.set k (.slice es (.tok E.H.length))))}
 have hid2:E2.H[id]? =some (.row cs):=by rw[hH2,aM0 hlt];exact hid
 have hlen2:id<E2.H.length:=lG hid2;have hget:∀x,E3.H[x]? =if x=id then some (.row (cs.set k (.slice es (.tok E.H.length))))else E2.H[x]? :=λx=>aT hlen2;have hborn:∀x,pG E3.H x↔pG E2.H x:=by
  intro x;unfold pG;rw[hget]
  by_cases e:x=id
  ·subst e;rw[if_pos rfl,hid2];exact⟨λ_=>⟨_,rfl,zz⟩,λ_=>⟨_,rfl,zz⟩⟩
  ·rw[if_neg e]
 have htok:∀x,E3.view.tok x=E2.view.tok x:=by
  intro x;simp only[aK.view,hget]
  by_cases e:x=id
  ·subst e;rw[if_pos rfl,hid2]
  ·rw[if_neg e]
 have hv23:E2.view.le E3.view:=⟨λa v h=>h,λx hb=>(hborn x).2 hb,λ_ _=>rfl,λx t' _ h=>⟨t',by rw[<-htok];exact h, .inl rfl⟩⟩;have hbt:E3.view.born E.H.length:=(hborn _).2 ⟨.buf es.length sz,by rw[hH2];simp,zz⟩;have htt:∀t,E3.view.tok E.H.length=some t->es.length<=t.n:=by
  intro t e;rw[htok]at e;simp only[aK.view,hH2,aM1 (aMq _),aNt,aNw,Option.some.injEq]at e;subst e;exact aMq _
 have hfix:∀(y:Nat) (d:List PV),E3.H[y]? =some (AObj.row d)->∃d',E2.H[y]? =some (AObj.row d'):=by
  intro y d q;rw[hget]at q
  split at q
  ·rename_i e;subst e;exact⟨cs,hid2⟩
  ·exact⟨d,q⟩
 have ho3:E3.Ok:=by
  refine⟨?_, ?_, ?_, ?_,ho2.globs_of hv23.cell (by intro x b vs hx;rw[hget]at hx;split at hx<;>first|exact hx|cases hx),ho2.objs.of hv23 λx k hx=>⟨by rw[hget]at hx;split at hx;cases hx;exact hx,rfl,rfl,rfl⟩⟩
  ·intro x cs' hx;rw[hget]at hx
   split at hx
   ·rename_i e;cases hx;subst e;obtain⟨arr,elem,h1,h2,h3,h4⟩:=ho2.rows x cs hid2;refine⟨arr,elem,h1,by simpa using h2,λi hl=> ?_,h4⟩;simp only[lS]at hl
    by_cases e:k=i
    ·subst e;rw[List.getElem_set_self];have:=(h3 k hl).mono hv23;rw[aNi hl]at hk;simp only[Option.some.injEq]at hk;rw[hk]at this;exact aQ.retok he this hbt htt
    ·rw[List.getElem_set_ne e];exact(h3 i hl).mono hv23
   ·obtain⟨arr,elem,h1,h2,h3,h4⟩:=ho2.rows x cs' hx;exact⟨arr,elem,h1,h2,λi hl=>(h3 i hl).mono hv23,h4⟩
  ·intro x n s b hx hb;rw[hget]at hx
   split at hx
   ·cases hx
   ·exact ho2.bufs x n s b hx hb
  ·intro x x' c c' h1 h2 e;obtain⟨d,hd⟩:=hfix _ _ h1;obtain⟨d',hd'⟩:=hfix _ _ h2;exact ho2.injr x x' d d' hd hd' e
  ·intro x x' n s n' s' b h1 h2 e e';rw[hget]at h1 h2
   split at h1<;>split at h2
   ·cases h1
   ·cases h1
   ·cases h2
   ·exact ho2.injb x x' n s n' s' b h1 h2 e e'
 have hle3:E2.le E3:=by
  refine⟨rfl,rfl,rfl,aMq _,λ_ _ _=>⟨rfl,rfl⟩,hv23,λb _=>Or.imp ?_ (Or.imp ?_ (aK.ownsObj_of (E:=E2) (E':=E3) λx k hx=>⟨by rw[hget]at hx;split at hx;cases hx;exact hx,rfl⟩))⟩
  ·rintro⟨x,c,h1,h2⟩;obtain⟨d,hd⟩:=hfix _ _ h1;exact⟨x,d,hd,h2⟩
  ·rintro⟨x,n,s,h1,h2⟩;rw[hget]at h1
   split at h1
   ·cases h1
   ·exact⟨x,n,s,h1,h2⟩
 have hH3:E3.H=E.H.set id (.row (cs.set k (.slice es (.tok E.H.length))))++ [.buf es.length sz]:=by
  show E2.H.set id _=_;rw[hH2,List.set_append_left _ _ hlt]
 have hle:=hle2.trans hle3;have:=h E3 a ho3 hH3 (ht.mono hle.view);rw[show E3.w=E.w from hw2]at this;exact wp_mono this λe a w hl=>fH (hle.leN nb) (λ_ _ _ q=>q) hl
def PC(P:Program)(f:FuncId)(args:List PV)(r:PV):Prop:=∀H,aR P f args H λr' H'=>r'=r/\H'=H
theorem kG{f:FuncId}{fn:Func}{c:Code}{args:List PV}{r:PV}(hf:P.funcs[f]? =some fn)(hb:fn.body=some c)(hN:fn.ntmps=N)(hl:args.length<=N)(ha:∀p∈args,bF 0 p)(hr:bF 0 r)
  (h:fO P N 0 c (λe T H=>(e= .normal\/e= .ret)/\∃r',fQ P N T H fn.results.toList=some r'/\r'.drop1=r) (enter args) []):PC P f args r:=
 aR.pure (aF hf hb hN hl λ_=>h) ha hr
theorem eW{f:FuncId}{fn:Func}{c:Code}{args:List PV}{r:PV}{H:aH}(hf:P.funcs[f]? =some fn)(hb:fn.body=some c)(hN:fn.ntmps=N)(hl:args.length<=N)(hr:bF H.length r)
  (h:iJ H.length H->fO P N H.length c (λe T H'=>(e= .normal\/e= .ret)/\∃r' L,fQ P N T H' fn.results.toList=some r'/\r'.drop1=r/\H'=H++L) (enter args) H):aR P f args H λr' H'=>r'=r/\H'=H:=by
 have h1:aR P f args H λr' H'=>∃L,r'.drop1=r/\H'=H++L:=
  (aF hf hb hN hl λhh=>(h hh).mono λe T H' ⟨he,r',L,h1,h2,h3⟩=>⟨he,r',h1,L,h2,h3⟩)
 have h2:aR P f args H λr' H'=>∃L,r'=r/\H'=H++L:=by
  intro E vargs ho hH hrl;refine(h1 E vargs ho hH hrl).mono ?_;rintro e w' ⟨E',v,r',e1,e2,e3,e4,e5,L,e6,e7⟩;exact⟨E',v,r'.drop1,e1,e2,e3,e4,e5.drop1,L,e6,e7⟩
 refine aR.trunc (h2.mono ?_);rintro r' H' ⟨L,rfl,rfl⟩;exact⟨H,L,rfl,rfl,id,hr,rfl,rfl⟩
theorem aCl(H L:aH)(k:Nat):(H++L)[H.length+k]? =L[k]? :=by rw[aM1 z8];congr 1;omega
theorem ZI(H L:aH):(H++L)[H.length]? =L[0]? :=by rw[aM1 (aMq _)];simp
theorem aBm(H L:aH)(k:Nat)(o:AObj):(H++L).set (H.length+k) o=H++L.set k o:=by rw[aN4 _ _ z8];congr 2;omega
theorem ZE(H L:aH)(o:AObj):(H++L).set H.length o=H++L.set 0 o:=by rw[aN4 _ _ (aMq _)];simp
theorem aCk(n k:Nat):(n=n+k)=(k=0):=zz
theorem aC2(n k:Nat):(n+k=n)=(k=0):=zz
theorem PX(n k m:Nat):(n+k=n+m)=(k=m):=zz
theorem YB(n k:Nat):(n==n+k)=decide (k=0):=by rw[aN1];simp
theorem aAw(n k:Nat):(n+k==n)=decide (k=0):=by rw[aN1];simp
theorem KO(n k m:Nat):(n+k==n+m)=decide (k=m):=by rw[aN1];simp
theorem MR{α:Type}(a:α):(a=a)=True:=zz
theorem HS:(∀(H L:aH) (k:Nat),(H++L)[H.length+k]? =L[k]?)/\(∀(H L:aH),(H++L)[H.length]? =L[0]?)/\(∀(H L:aH) (k:Nat) (o:AObj),(H++L).set (H.length+k) o=H++L.set k o)/\
  (∀(H L:aH) (o:AObj),(H++L).set H.length o=H++L.set 0 o)/\(∀(n k:Nat),(n=n+k)=(k=0))/\(∀(n k:Nat),(n+k=n)=(k=0))/\(∀(n k m:Nat),(n+k=n+m)=(k=m))/\
  (∀(n k:Nat),(n==n+k)=decide (k=0))/\(∀(n k:Nat),(n+k==n)=decide (k=0))/\(∀(n k m:Nat),(n+k==n+m)=decide (k=m)):=
 ⟨aCl,ZI,aBm,ZE,aCk,aC2,PX,YB,aAw,KO⟩
end
theorem QE{V:cG}{N:Nat}{a:Act}{T:Nat->PV}(ht:eR V N a T)(xs:Array Operand)(h:xs.toList.all (aU N)=true):
  RL V (xs.map a.eval) (xs.toList.map λx=>bS T x):=by
 refine⟨zz,λi hi=> ?_⟩;simp only[aMw,aMx]at hi;simp only[aMm,Array.getElem_toList];rw[aMt,Array.getElem?_map,aMy hi];simp only[aM6,aMz];exact aN ht _ (aNz.1 h _ zz)
def vI(T:aJ):Op->Option (FuncId×List PV)
 | .call c=>match c.callee with
  | .value fo=>match bS T fo with
   | .fn (.func f) pf pc=>some (f,pf++(c.args.toList.map λx=>bS T x)++pc)
   |_=>none
  |_=>none
 |_=>none
theorem LC{T:aJ}{o:Op}{f:FuncId}{args:List PV}(h:vI T o=some (f,args)):
  ∃fo xs ts pf pc,o= .call ⟨.value fo,xs,ts⟩/\bS T fo= .fn (.func f) pf pc/\pf++(xs.toList.map λx=>bS T x)++pc=args:=by
 unfold vI at h
 split at h
 ·rename_i c;obtain⟨callee,xs,ts⟩:=c;simp only at h
  split at h
  ·rename_i fo
   split at h
   ·rename_i f' pf pc hfo;cases h;exact⟨fo,xs,ts,pf,pc,rfl,hfo,rfl⟩
   ·cases h
  ·cases h
 ·cases h
section
variable{P:Program}{N nb:Nat}{Q:cT}{T:aJ}{H:aH}
theorem kW{ops:Array Oper}{o:Oper}{l:List Oper}{f:FuncId}{args:List PV}(hcall:vI T o.op=some (f,args))(hw:aZ ops.toList T N o=some true)(hok:dC N o.op=true)
  (hgo:bO P f=true) {R:PV->aH->Prop} (hc:aR P f args H R)
  (h:∀r H',R r H'->bC P N nb ops Q l (bT T o.dst r) H'):bC P N nb ops Q (o::l) T H:=by
 obtain⟨fo,xs,ts,pf,pc,hop,hf,hargs⟩:=LC hcall;intro E a ho hH ht;refine dS (bY ht hw) ?_;have hall:∀x∈o.op.operands.toList,aU N x=true:=λx hx=>aNz.1 hok x hx;rw[hop]at hall;simp only[Op.operands,Call.operands]at hall;have hr:=aN ht fo (hall fo zz);rw[hf]at hr;obtain⟨first,caps,hval,h1,h2⟩:∃first caps,a.eval fo= .func (.func f) first caps/\RL E.view first pf/\RL E.view caps pc:=by
  generalize a.eval fo=y at hr;cases hr with
  |fn _ first caps _ _ hf hc hrf hrc=>exact⟨first,caps,rfl,⟨hf,hrf⟩,⟨hc,hrc⟩⟩
 have h3:=QE ht xs (aNz.2 λx hx=>hall x (by simp;right;simpa using hx));have hrl:=iE (iE h1 h3) h2;rw[hargs]at hrl;have hrun:(execOp a.eval o).run P E.w= .ok (.enter f (first++xs.map a.eval++caps)) E.w:=by
  unfold execOp;rw[hop];simp only[resolve,hval,Deferred.ofValue,aM9,aNc,aNa,invoke,lI hgo]
 unfold Oper.wp;rw[hrun];refine(hc E _ ho hH hrl).mono ?_;rintro e w' ⟨E',v,r,rfl,rfl,h5,h6,h7,h8⟩;exact dL (λe a w hl=>fH (h5.leN nb) (λ_ _ _ q=>q) hl) l _ _ (h r E'.H h8 E' (a.put o.dst v) h6 rfl ((ht.mono h5.view).put o.dst h7))
theorem rE{ops:Array Oper}{bm:List Nat}{k:Nat}{o:Oper}{l:List Oper}{prev:gW}{f:FuncId}{args:List PV}{r:PV}(rd:List Nat)(hbm:cH ops.toList=bm)(hcall:iC T o.op=some (f,args))(hw:aZ ops.toList T N o=some true)(hok:dC N o.op=true)
  (hgo:bO P f=true) (hc:∀H':aH,(∀id∈rd,H'[id]? =H[id]?)->aR P f args H' λr' H''=>r'=r/\H''=H')
  (hap:pM (bm.getD k 0) prev rd []=true) (h:mI P N ops Q (k+1) l (prev++ [(k,rd,[])]) (bT T o.dst r) H):mI P N ops Q k (o::l) prev T H:=by
 obtain⟨fo,xs,ts,pf,pc,h1,h2,h3⟩:=lF hcall;exact xU (eff:= []) (rd:=rd) h1 hw hok h2 hgo h3 zz (λH' hH _=>hc H' hH) (uE (eff:= []) (by rw[hbm];exact hap)) h
end
theorem gI{P:Program}{N:Nat}{T:aJ}{H:aH}{rs:List ResultVar}(t:Nat)(ty:TypeId){i:TI}{r:PV}(hrs:rs= [.cell t ty])(hi:bZ P ty=some i)(ht:t<N)(h:jK i H (T t)=some r):fQ P N T H rs=some r:=by
 subst hrs;simp only[fQ,lV,if_pos ht,hi,aM3];exact h
theorem HN{i:TI}{fresh:Nat}{H:aH}{es:List PV}{x:PV}{id n:Nat}{tl:bE}(hH:H[id]? =some (.buf n i.sz))(hn:n=es.length)(hb:(es.length+1)*i.bytes<=2^47)(hm:es.length+1<=maxLen)
  (hes:∀e∈es,e.cells.length=i.sz) (hx:x.cells.length=i.sz) (hx':x.cells.all PV.isCell=true) (hs:0<i.sz):
  cK i fresh H (.slice es (.tok id)) (.slice [x] tl)=some (.slice (es++ [x]) (.tok id),some (id, .buf (es.length+1) i.sz)):=by
 unfold cK;simp only[List.cons_ne_self,if_false,aM7,aOa,aNn,reduceCtorEq];rw[if_pos ⟨hb,hm,hes,λe he=>by rw[aN8]at he;subst he;exact⟨hx,hx'⟩,hs⟩];simp only[hH];simp only[hn,and_self,if_true]
def hZ(u:PV)(T:aJ)(G:Nat->Bool):aJ:=λi=>if G i then T i else u
def ug(G:Nat->Bool)(d:Nat)(c:Bool):Nat->Bool:=λi=>if i=d then c else G i
def xR(G:Nat->Bool)(d:Option Nat)(c:Bool):Nat->Bool:=match d with|some d=>ug G d c|none=>G
def BX:Nat->Bool:=λ_=>true
def AQ(c:Bool)(G:Nat->Bool):Operand->Bool
 | .tmp t=> !c||G t
 |_=>true
def fK(ops:List Oper)(T:aJ)(G:Nat->Bool)(N:Nat)(o:Oper):Option Bool:=
 match o.guard with
 |none=>some true
 |some (j,want)=>match(ops[j]?).bind (·.dst)with
  |some d=>if d<N then match T d with
   | .bool b=>some (G d&&(b==want))
   |_=>none
   else none
  |none=>none
def pk(c:Bool)(a b:PV):PV:=if c then a else b
def uW(P:Program)(fresh:Nat)(c:Bool)(T:aJ)(G:Nat->Bool)(H:aH):Op->Option (PV×pK)
 | .pick x a b=>match bS T x with
  | .bool p=>if AQ c G x=true/\AQ (c&&p) G a=true/\AQ (c&& !p) G b=true then some (pk p (bS T a) (bS T b),none)else none
  |_=>none
 |o=>if o.operands.toList.all (AQ c G)=true then(fN P false fresh T H o).bind λr=>match r.2 with
  |none=>some r
  |some e=>if c=true then some r else none
  else none
theorem mT{u:PV}{T:aJ}{G:Nat->Bool}{x:Operand}(h:AQ true G x=true):bS (hZ u T G) x=bS T x:=by
 cases x with
 |tmp t=>simp only[AQ,Bool.not_true,Bool.false_or]at h;simp only[bS,hZ,h,if_true]
 |_=>rfl
theorem MI{P:Program}{fresh:Nat}{u:PV}{T:aJ}{G:Nat->Bool}{H:aH}{o:Op}{r:PV×pK}(h:uW P fresh true T G H o=some r):fN P false fresh (hZ u T G) H o=some r:=by
 cases o with
 |pick x a b=>
  simp only[uW]at h
  split at h
  ·rename_i p hp
   split at h
   ·rename_i hg;obtain⟨h1,h2,h3⟩:=hg;cases h;simp only[fN,mT h1,hp];cases p
    ·simp only[aNx,Bool.and_true]at h3;simp only[pk,mT h3,aNh,if_false]
    ·simp only[Bool.and_true]at h2;simp only[pk,mT h2,if_true]
   ·cases h
  ·cases h
 |_=>
  simp only[uW]at h
  split at h
  ·rename_i hall;obtain⟨q,hq,h⟩:=bind_some h;rw[GS (T:=T) (λx hx=>mT (aNz.1 hall x hx)),hq]
   split at h
   ·exact h
   ·simpa using h
  ·cases h
theorem FV{P:Program}{fresh:Nat}{T:aJ}{G:Nat->Bool}{H:aH}{o:Op}{r:PV×pK}(h:uW P fresh false T G H o=some r):r.2=none:=by
 cases o with
 |pick x a b=>
  simp only[uW]at h
  split at h
  ·split at h
   ·cases h;rfl
   ·cases h
  ·cases h
 |_=>
  simp only[uW]at h
  split at h
  ·obtain⟨q,hq,h⟩:=bind_some h
   split at h
   ·cases h;assumption
   ·simp at h
  ·cases h
theorem jM(u:PV)(T:aJ)(G:Nat->Bool)(d:Option Nat)(v:PV):hZ u (bT T d v) (xR G d true)=bT (hZ u T G) d v:=by
 cases d with
 |none=>rfl
 |some d=>
  funext i;simp only[hZ,bT,upd,xR,ug]
  split<;>simp
theorem iD(u:PV)(T:aJ)(G:Nat->Bool)(d:Option Nat)(v:PV):hZ u (bT T d v) (xR G d false)=bT (hZ u T G) d u:=by
 cases d with
 |none=>rfl
 |some d=>
  funext i;simp only[hZ,bT,upd,xR,ug]
  split<;>simp
section
variable{P:Program}{N nb:Nat}{ops:Array Oper}{Q:cT}
theorem kQ{ops:List Oper}{o:Oper}{b:Bool}{T:aJ}{G:Nat->Bool}(h:fK ops T G N o=some b):
  (b=true->∀u,aZ ops (hZ u T G) N o=some true)/\
  (b=false->aZ ops (hZ .junk T G) N o=some false\/True):=by
 refine⟨λhb u=> ?_,λ_=>.inr trivial⟩;subst hb;unfold fK at h;unfold aZ
 split at h
 ·rename_i hg;simp only[hg]
 ·rename_i j want hg
  try simp only[hg]
  split at h
  ·rename_i d hd
   split at h
   ·rename_i hdN
    split at h
    ·rename_i q hq;simp only[Option.some.injEq,aMj]at h;simp only[hd,hdN,if_true,hZ,h.1,hq,h.2]
    ·cases h
   ·cases h
  ·cases h
theorem xA{ops:Array Oper}{o:Oper}{V:cG}{a:Act}{T T':aJ}{G:Nat->Bool}(ht:eR V N a T')(hT:∀j want d,o.guard=some (j,want)->(ops.toList[j]?).bind (·.dst)=some d->T' d=hZ (.tup []) T G d)(h:fK ops.toList T G N o=some false):Region.wanted o (yielded ops a.tmps)=false:=by
 unfold fK at h;unfold Region.wanted
 split at h
 ·cases h
 ·rename_i j want hg;simp only[hg]
  split at h
  ·rename_i d hd
   split at h
   ·rename_i hdN
    split at h
    ·rename_i q hq;simp only[Option.some.injEq]at h;have hr:=ht.rel d hdN;rw[hT j want d hg hd]at hr;simp only[hZ]at hr;have hy:∀v,a.tmps.getD d undef=v->yielded ops a.tmps j=(match v with| .bool b=>some b|_=>none):=by
      intro v hv;unfold yielded;rw[aNk]at hd;rw[hd];simp only[aM3];rw[aMt,aMy (by rw[ht.size];exact hdN),aMz]at hv;rw[aMy (by rw[ht.size];exact hdN),hv];cases v<;>rfl
     cases hG:G d
     ·rw[hG]at hr;simp only[aNh,if_false]at hr;obtain⟨arr,e1,_⟩:=hr.tup_inv;rw[hy _ e1];rfl
     ·rw[hG]at hr h;simp only[if_true,hq]at hr;rw[hy _ hr.bool_inv];simp only[Bool.true_and]at h;show(some q==some want)=false;rw[<-h];rfl
    ·cases h
   ·cases h
  ·cases h
theorem uC{o:Oper}{V:cG}{a:Act}{T:aJ}{G:Nat->Bool}(ht:eR V N a (hZ (.tup []) T G))(h:fK ops.toList T G N o=some false):Region.wanted o (yielded ops a.tmps)=false:=
 xA ht (λ_ _ _ _ _=>rfl) h
theorem vO{o:Oper}{l:List Oper}{T:aJ}{H:aH}(hw:∀(E:aK) (a:Act),eR E.view N a T->Region.wanted o (yielded ops a.tmps)=false)(h:bC P N nb ops Q l (bT T o.dst (.tup [])) H):bC P N nb ops Q (o::l) T H:=by
 intro E a ho hH ht;unfold wpList;rw[if_neg (by rw[hw E a ht];simp)];exact h E _ ho hH (ht.put o.dst (.tup _ _ rfl (λi h=>absurd h zz)))
def KC(P:Program)(N:Nat)(ops:List Oper):List Oper->aJ->(Nat->Bool)->aH->Option (aJ×(Nat->Bool)×aH)
 | [],T,G,H=>some (T,G,H)
 |o::l,T,G,H=>(fK ops T G N o).bind λc=>(uW P H.length c T G H o.op).bind λr=>KC P N ops l (bT T o.dst r.1) (xR G o.dst c) (appS H r.2)
theorem QN{o:Oper}{l:List Oper}{T:aJ}{G:Nat->Bool}{H:aH}{c:Bool}{r:PV×pK}(hok:dC N o.op=true)(hc:fK ops.toList T G N o=some c)(hr:uW P H.length c T G H o.op=some r)
  (h:bC P N nb ops Q l (hZ (.tup []) (bT T o.dst r.1) (xR G o.dst c)) (appS H r.2)):bC P N nb ops Q (o::l) (hZ (.tup []) T G) H:=by
 cases c
 ·refine vO (λE a ht=>uC ht hc) ?_;rw[iD]at h;rw[FV hr]at h;exact h
 ·rw[jM]at h;exact RT false ((kQ hc).1 rfl _) hok (MI hr) rfl h
theorem yY:∀(l l2:List Oper) (T:aJ) (G:Nat->Bool) (H:aH) {T':aJ} {G':Nat->Bool} {H':aH},l.all (λo=>dC N o.op)=true->KC P N ops.toList l T G H=some (T',G',H')->
  bC P N nb ops Q l2 (hZ (.tup []) T' G') H'->bC P N nb ops Q (l++l2) (hZ (.tup []) T G) H
 | [],l2,T,G,H,T',G',H',_,hs,h=>by cases hs;exact h
 |o::l,l2,T,G,H,T',G',H',hok,hs,h=>by
  simp only[aMi,aMj]at hok;unfold KC at hs;obtain⟨c,hc,hs⟩:=bind_some hs;obtain⟨r,hr,hs⟩:=bind_some hs;exact QN hok.1 hc hr (yY l l2 _ _ _ hok.2 hs h)
theorem NY(n:Nat){l:List Oper}{T T':aJ}{G G':Nat->Bool}{H H':aH}(hs:KC P N ops.toList (l.take n) T G H=some (T',G',H'))(hok:(l.take n).all (λo=>dC N o.op)=true)
  (h:bC P N nb ops Q (l.drop n) (hZ (.tup []) T' G') H'):bC P N nb ops Q l (hZ (.tup []) T G) H:=by
 have:=yY (l.take n) (l.drop n) T G H hok hs h
 rwa [List.take_append_drop]at this
theorem eN{l:List Oper}{T:aJ}{H:aH}(h:bC P N nb ops Q l (hZ (.tup []) T BX) H):bC P N nb ops Q l T H:=h
inductive fT:aJ->(Nat->Bool)->aJ->Prop
 |base (T:aJ):fT T BX T
 |keep {T G F d v} (h:fT T G F):fT (upd T d v) (ug G d true) (upd F d v)
 |drop {T G F d v c} (h:fT T G F):fT (upd T d v) (ug G d c) (upd F d .junk)
theorem fT.spec{T:aJ}{G:Nat->Bool}{F:aJ}(h:fT T G F):∀i,F i= .junk\/(G i=true/\F i=T i):=by
 induction h with
 |base T=>exact λi=>.inr ⟨rfl,rfl⟩
 |keep h ih=>
  intro i;simp only[upd,ug]
  split
  ·exact .inr ⟨rfl,rfl⟩
  ·exact ih i
 |drop h ih=>
  intro i;simp only[upd,ug]
  split
  ·exact .inl rfl
  ·exact ih i
theorem UJ{l:List Oper}{T F:aJ}{H:aH}(hf:∀i,F i= .junk\/F i=T i)(h:bC P N nb ops Q l F H):bC P N nb ops Q l T H:=by
 intro E a ho hH ht;refine h E a ho hH ⟨ht.size,ht.defers,λi hi=> ?_⟩;rcases hf i with e|e
 ·rw[e];exact .junk _
 ·rw[e];exact ht.rel i hi
theorem eG{c:Code}{T F:aJ}{H:aH}(hf:∀i,F i= .junk\/F i=T i)(h:fO P N nb c Q F H):fO P N nb c Q T H:=by
 intro E a ho hH ht;refine h E a ho hH ⟨ht.size,ht.defers,λi hi=> ?_⟩;rcases hf i with e|e
 ·rw[e];exact .junk _
 ·rw[e];exact ht.rel i hi
theorem TN{l:List Oper}{T F:aJ}{G:Nat->Bool}{H:aH}(hf:fT T G F)(h:bC P N nb ops Q l F H):bC P N nb ops Q l (hZ (.tup []) T G) H:=by
 refine UJ (λi=> ?_) h;rcases hf.spec i with e| ⟨e1,e2⟩
 ·exact .inl e
 ·exact .inr (by simp only[hZ,e1,if_true];exact e2)
theorem GL{l:List Oper}{T T' F:aJ}{G G':Nat->Bool}{H H':aH}(hs:KC P N ops.toList l T G H=some (T',G',H'))(hok:l.all (λo=>dC N o.op)=true)(hf:fT T' G' F)(h:Q .normal F H'):
  bC P N nb ops Q l (hZ (.tup []) T G) H:=by
 have:=yY l [] T G H hok hs (TN (nb:=nb) (Q:=Q) hf (oN h))
 rwa [aN9]at this
theorem UH{id:Nat}{T T' F:aJ}{G':Nat->Bool}{H H':aH}(hs:KC P N ops.toList ops.toList T BX H=some (T',G',H'))(hok:ops.toList.all (λo=>dC N o.op)=true)(hf:fT T' G' F)(h:Q .normal F H'):fO P N nb (.region id ops false) Q T H:=
 wR (eN (GL hs hok hf h))
theorem CO{o:Oper}{l:List Oper}{T:aJ}{G:Nat->Bool}{H:aH}{c:Bool}{f:FuncId}{args:List PV}{r:PV}(hcall:iC T o.op=some (f,args))(hc:fK ops.toList T G N o=some c)(hg:o.op.operands.toList.all (AQ c G)=true)(hok:dC N o.op=true)
  (hgo:bO P f=true) (hp:c=true->aR P f args H λr' H''=>r'=r/\H''=H) (h:bC P N nb ops Q l (hZ (.tup []) (bT T o.dst r) (xR G o.dst c)) H):bC P N nb ops Q (o::l) (hZ (.tup []) T G) H:=by
 cases c
 ·rw[iD]at h;exact vO (λE a ht=>uC ht hc) h
 ·rw[jM]at h;refine oP (f:=f) (args:=args) ?_ ((kQ hc).1 rfl _) hok hgo (hp rfl) h;obtain⟨fo,xs,ts,pf,pc,e1,e2,e3⟩:=lF hcall;rw[e1]at hg;simp only[Op.operands,Call.operands]at hg;have hall:=aNz.1 hg;unfold iC;rw[e1];simp only[mT (hall fo zz),e2];congr 2;rw[<-e3];congr 2;exact List.map_congr_left λx hx=>by rw[mT (hall x (by simp;right;simpa using hx))]
end
def gM:List (Nat×PV)->aJ
 | []=>λ_=>.junk
 | (d,v)::l=>upd (gM l) d v
def oH(T:aJ):List (Nat×PV)->Prop
 | []=>True
 | (d,v)::l=>T d=v/\oH T l
theorem cO{T:aJ}:∀ {l:List (Nat×PV)},oH T l->∀i,gM l i= .junk\/gM l i=T i
 | [],_,i=>.inl rfl
 | (d,v)::l,h,i=>by
  simp only[gM,upd]
  split
  ·rename_i e;subst e;exact .inr h.1.symm
  ·exact cO h.2 i
def jJ(n:Nat):List (Nat×PV)->Prop
 | []=>True
 | (_,v)::l=>bF n v/\jJ n l
theorem FH{n:Nat}:∀ {l:List (Nat×PV)},jJ n l->∀i∈l.map Prod.fst,bF n (gM l i)
 | [],_,i,hi=>by cases hi
 | (d,v)::l,h,i,hi=>by
  simp only[gM,upd]
  split
  ·exact h.1
  ·rename_i e;simp only[aNl,aN2]at hi;exact FH h.2 i (hi.resolve_left e)
theorem VX{T:aJ}:∀(l:List (Nat×PV)) (i:Nat),gM l i= .junk\/gM l i=keep (l.map Prod.fst) (gM l) i:=by
 intro l i;unfold keep
 split
 ·exact .inr rfl
 ·rename_i hi;refine .inl ?_
  induction l with
  |nil=>rfl
  |cons x l ih=>
   obtain⟨d,v⟩:=x;simp only[aNl,aN2,not_or]at hi;simp only[gM,upd,if_neg hi.1];exact ih hi.2
theorem mL{V:cG}{N:Nat}{a:Act}{T F:aJ}(ht:eR V N a T)(hf:∀i,F i= .junk\/F i=T i):eR V N a F:=by
 refine⟨ht.size,ht.defers,λi hi=> ?_⟩;rcases hf i with e|e
 ·rw[e];exact .junk _
 ·rw[e];exact ht.rel i hi
theorem MF{E:aK}{N:Nat}{a:Act}{T:aJ}(ht:eR E.view N a T){H1 L:aH}(hE:E.H=H1++L){l:List (Nat×PV)}(hf:oH T l)(hl:jJ H1.length l):eR (E.cutH H1).view N a (gM l):=
 mL (BG (mL ht (cO hf)) hE (FH hl)) (VX (T:=T) l)
theorem vG{T T2:aJ}:∀ {l:List (Nat×PV)},(∀t∈l.map Prod.fst,T2 t=T t)->oH T l->oH T2 l
 | [],_,_=>trivial
 | (d,v)::l,h,hf=>⟨(h d zz).trans hf.1,vG (λt ht=>h t (by simp only[aNl,aN2];exact .inr ht)) hf.2⟩
theorem CX{T:aJ}{n:Nat}:∀ {l:List (Nat×PV)},oH T l->jJ n l->∀t∈l.map Prod.fst,bF n (T t)
 | [],_,_,t,h=>by cases h
 | (d,v)::l,hf,hb,t,h=>by
  simp only[aNl,aN2]at h;rcases h with rfl|h
  ·rw[hf.1];exact hb.1
  ·exact CX hf.2 hb.2 t h
section
variable{P:Program}{N nb:Nat}{Q:cT}
theorem aCf{c:Code}{T:aJ}{H:aH}(l:List (Nat×PV)){H1 L:aH}(hf:oH T l)(hH:H=H1++L)(hn:nb<=H1.length)(hb:iJ H1.length H1)(hl:jJ H1.length l)(h:fO P N nb c Q (gM l) H1):fO P N nb c Q T H:=by
 intro E a ho hE ht;have hE':E.H=H1++L:=hE.trans hH;exact wp_mono (h (E.cutH H1) a (ho.cutH hE' hb) rfl (MF ht hE' hf hl)) λe a w hl=>fH (aK.cutH_leN hE' hn) (λ_ _ _ q=>q) hl
theorem ER{c:Code}{T:aJ}{H:aH}{σ:Type}(rep:σ->List (Nat×PV))(H0:aH)(hp:σ->aH)(m:σ->Nat)(good:σ->Prop)(s0:σ)(L0:aH)(hT:oH T (rep s0))(hH:H=H0++hp s0++L0)(hg:good s0)(hlen:∀s,good s->nb<=(H0++hp s).length)
  (bel:∀s,good s->iJ (H0++hp s).length (H0++hp s)/\jJ (H0++hp s).length (rep s))
  (round:∀s,good s->fO P N nb c (bQ (λT' H'=>∃s' L,m s'<m s/\oH T' (rep s')/\H'=H0++hp s'++L/\good s') Q) (gM (rep s)) (H0++hp s)):fO P N nb (.loop c) Q T H:=by
 refine aCf (rep s0) hT hH (hlen s0 hg) (bel s0 hg).1 (bel s0 hg).2 ?_;intro E a ho hE ht
 let J:Nat->Act->World->Prop:=λn a w=>∃E' s,E'.w=w/\E.leN nb E'/\E'.Ok/\good s/\n=m s/\eR E'.view N a (gM (rep s))/\E'.H=H0++hp s
 refine wp_loop (λa w=>∃n,J n a w) (λa w=>zQ (λn=>J n a w)) ⟨m s0,E,s0,rfl, .refl nb E,ho,hg,rfl,ht,hE⟩ ?_;intro a1 w1 hJ;obtain⟨E1,s,hw1,hle,ho1,hgs,hms,ht1,hH1⟩:=rV hJ;have hr:=round s hgs E1 a1 ho1 hH1 ht1;rw[hw1]at hr;refine wp_mono hr ?_;intro e a' w' hl;obtain⟨E',T',rfl,h2,h3,h4,h5⟩:=hl;cases e with
 |normal=>
  obtain⟨s',L,hlt,hf,hE',hg'⟩:=h5;have hJ':J (m s') a' E'.w:=⟨E'.cutH (H0++hp s'),s',rfl,(hle.trans h2).trans (aK.cutH_leN hE' (hlen s' hg')),h3.cutH hE' (bel s' hg').1,hg',rfl,MF h4 hE' hf (bel s' hg').2,rfl⟩;exact⟨⟨m s',hJ'⟩,Nat.lt_of_le_of_lt (xE hJ') (by rw[hms];exact hlt)⟩
 |_=>exact⟨E',T',rfl,hle.trans h2,h3,h4,h5⟩
theorem fO.monoW{c:Code}{T:aJ}{H:aH}{Q Q':cT}(h:fO P N nb c Q T H)(hq:∀e T H,Q e T H->∃T2,(∀i,T2 i= .junk\/T2 i=T i)/\Q' e T2 H):fO P N nb c Q' T H:=by
 intro E a ho hH ht;refine wp_mono (h E a ho hH ht) ?_;rintro e a' w' ⟨E',T',h1,h2,h3,h4,h5⟩;obtain⟨T2,k1,k2⟩:=hq _ _ _ h5;exact⟨E',T2,h1,h2,h3,mL h4 k1,k2⟩
theorem iQ{T:aJ}{H:aH}{σ:Type}(n:Nat)(rep:σ->List (Nat×PV))(dom:List Nat)(H0:aH)(hp:σ->aH)(good:Nat->σ->Prop)(s0:σ)(L0:aH){b b1 i1 i2:Nat}{body:Code}{o1 o2 o3:Oper}{ti tn tc tt:Nat}{y1 y2:TypeId}
  (e1:o1.op= .binOp .lss y1 (.tmp ti) (.tmp tn) y2) (d1:o1.dst=some tc) (g1:o1.guard=none)
  (e2:o2.op= .binOp .add y1 (.tmp ti) (.const (.int .i64 1)) y2) (d2:o2.dst=some tt) (g2:o2.guard=none)
  (e3:o3.op= .move (.tmp tt)) (d3:o3.dst=some ti) (g3:o3.guard=none)
  (hbnd:ti<N/\tn<N/\tc<N/\tt<N) (hdis:ti≠tn/\ti≠tc/\tn≠tc/\tn≠tt/\ti≠tt/\ti∉dom/\tc∉dom/\tt∉dom) (hb:b≠b1) (hdom:∀s,(rep s).map Prod.fst=dom) (hn:n<=maxLen)
  (hT:oH T ((ti, .int .i64 0)::(tn, .int .i64 n)::rep s0)) (hH:H=H0++hp s0++L0) (hg:good 0 s0) (hlen:∀i s,good i s->nb<=(H0++hp s).length)
  (bel:∀i s,good i s->iJ (H0++hp s).length (H0++hp s)/\jJ (H0++hp s).length (rep s))
  (round:∀(i:Nat) s,i<n->good i s->fO P N nb body (λe T' H'=>
    let more:=oH T' ((ti, .int .i64 i)::(tn, .int .i64 n):: [])/\∃s' L,oH T' (rep s')/\H'=H0++hp s'++L/\good (i+1) s'
    match e with
    | .normal=>more
    | .exit id=>if id=b1 then more else if id=b then Q .normal T' H' else Q (.exit id) T' H'
    |e=>Q e T' H') (gM ((ti, .int .i64 i)::(tn, .int .i64 n)::rep s)) (H0++hp s))
  (done:∀s,good n s->Q .normal (gM (rep s)) (H0++hp s)):
  fO P N nb (.block b (.loop (.seq (.region i1 #[o1] false) (.seq (.cond (.tmp tc) .skip (.exit b)) (.seq (.block b1 body) (.region i2 #[o2,o3] false)))))) Q T H:=by
 have hb0:∀t∈ti::tn::dom,bF (H0++hp s0).length (T t):=λt ht=>by
  simp only[aN2]at ht;rcases ht with rfl|rfl|ht
  ·rw[hT.1];exact .int _ _
  ·rw[hT.2.1];exact .int _ _
  ·exact CX hT.2.2 (bel 0 s0 hg).2 t (by rw[hdom];exact ht)
 refine aFo (ti::tn::dom) hH (hlen 0 s0 hg) (bel 0 s0 hg).1 hb0 ?_;have hk:∀t∈ti::tn::dom,keep (ti::tn::dom) T t=T t:=λt ht=>by unfold keep;rw[if_pos ht]
 refine fO.monoW (aDf (Q:=λe T' H'=>match e with
   | .normal=>(∃s,good n s/\oH T' (rep s)/\H'=H0++hp s)\/Q .normal T' H'
   |e=>Q e T' H') n dom (λi T H=>∃s,good i s/\oH T (rep s)/\H=H0++hp s) e1 d1 g1 e2 d2 g2 e3 d3 g3 hbnd hdis hn hb ?_ ?_ ?_ ?_ ?_ ?_) ?_
 ·rw[hk _ zz];exact hT.1
 ·rw[hk _ zz];exact hT.2.1
 ·rintro i T T2 H h ⟨s,h1,h2,h3⟩;exact⟨s,h1,vG (λt ht=>h t (by rw[<-hdom s];exact ht)) h2,h3⟩
 ·exact⟨s0,hg,vG (λt ht=>hk t (by rw[hdom]at ht;simp[ht])) hT.2.2,rfl⟩
 ·rintro i T H hi ⟨s,h1,h2,rfl⟩ h3 h4;refine eG (cO (l:=(ti, .int .i64 i)::(tn, .int .i64 n)::rep s) ⟨h3,h4,h2⟩) ((round i s hi h1).mono ?_);have key:∀T' H',(oH T' ((ti, .int .i64 i)::(tn, .int .i64 n):: [])/\∃s' L,oH T' (rep s')/\H'=H0++hp s'++L/\good (i+1) s')->
    T' ti= .int .i64 i/\T' tn= .int .i64 n/\∃H1 L,H'=H1++L/\nb<=H1.length/\iJ H1.length H1/\(∀t∈dom,bF H1.length (T' t))/\∃s,good (i+1) s/\oH T' (rep s)/\H1=H0++hp s:=by
   rintro T' H' ⟨⟨k1,k2,_⟩,s',L,k3,k4,k5⟩;exact⟨k1,k2,H0++hp s',L,k4,hlen (i+1) s' k5,(bel _ _ k5).1,λt ht=>CX k3 (bel _ _ k5).2 t (by rw[hdom];exact ht),s',k5,k3,rfl⟩
  intro e T' H' he;cases e with
  |normal=>exact key T' H' he
  |exit id=>
   simp only at he⊢
   split at he
   ·rename_i hid;rw[if_pos hid];exact key T' H' he
   ·rename_i hid;rw[if_neg hid]
    split at he
    ·rename_i hid2;rw[if_pos hid2];exact .inr he
    ·rename_i hid2;rw[if_neg hid2];exact he
  |_=>exact he
 ·rintro T H ⟨s,h1,h2,h3⟩;exact .inl ⟨s,h1,h2,h3⟩
 ·intro e T' H' he;cases e with
  |normal=>
   rcases he with⟨s,h1,h2,rfl⟩|he
   ·exact⟨gM (rep s),cO h2,done s h1⟩
   ·exact⟨T',λi=>.inr rfl,he⟩
  |_=>exact⟨T',λi=>.inr rfl,he⟩
end
section
variable{P:Program}{N nb:Nat}{ops:Array Oper}{Q:cT}
theorem rM{k:Nat}{o:Oper}{l:List Oper}{prev:gW}{T:aJ}{G:Nat->Bool}{H:aH}(rd:List Nat)(hap:∀p∈prev,((cH ops.toList).getD k 0).testBit p.1=true\/((∀id∈p.2.2,id∉rd)/\∀e'∈([]:List (Nat×AObj)),e'.1∉p.2.1))(hw:fK ops.toList T G N o=some false)(h:mI P N ops Q (k+1) l (prev++ [(k,rd,[])]) (bT (hZ (.tup []) T G) o.dst (.tup [])) H):mI P N ops Q k (o::l) prev (hZ (.tup []) T G) H:=
  ⟨.tup [],[],rd,λT' H' hT _ _ E a ho hE ht=>.inl ⟨xA ht (λj want d hg hd=>hT d (by unfold pX;rw[hg];simp only[hd];simp)) hw,rfl, .inr rfl⟩,zz,hap,h⟩
theorem aBd{u:PV}{T:aJ}{G:Nat->Bool}{o:Op}(h:∀x∈o.operands.toList,bS (hZ u T G) x=bS T x):nI (hZ u T G) o=nI T o:=by
  cases o with
  |load t x=>simp only[nI,h x (by simp[Op.operands])]
  |store t x y=>simp only[nI,h x (by simp[Op.operands])]
  |lookup t x y ok=>simp only[nI,h x (by simp[Op.operands])]
  |mapUpdate t x y z=>simp only[nI,h x (by simp[Op.operands])]
  |call c=>
    simp only[nI]
    split
    · split
      · rename_i x l hx
        rw[h x (by
          simp only[Op.operands,Call.operands];simp;right;have:x∈c.args.toList:=by rw[hx];simp
          simpa using this)]
      · rfl
    · rfl
  |_=>rfl
theorem US{fresh:Nat}{u:PV}{T:aJ}{G:Nat->Bool}{H:aH}{o:Op}{r:PV×pK}(h:uW P fresh true T G H o=some r):nI (hZ u T G) o=nI T o:=by
  cases o with
  |pick x a b=>rfl
  |_=>
    simp only[uW]at h
    split at h
    · rename_i hall
      exact aBd λx hx=>mT (aNz.1 hall x hx)
    · cases h
theorem vQ{bm:List Nat}{k fresh:Nat}{o:Oper}{l:List Oper}{prev:gW}{T:aJ}{G:Nat->Bool}{H:aH}{c:Bool}{r:PV×pK}(hbm:cH ops.toList=bm)(hok:dC N o.op=true)(hc:fK ops.toList T G N o=some c)(hr:uW P fresh c T G H o.op=some r)(hf:iK fresh r.2 H=true)(hap:pM (bm.getD k 0) prev (nI T o.op++dY r.2) (dY r.2)=true)(h:mI P N ops Q (k+1) l (prev++ [(k,nI T o.op++dY r.2,dY r.2)]) (hZ (.tup []) (bT T o.dst r.1) (xR G o.dst c)) (nC r.2 H)):mI P N ops Q k (o::l) prev (hZ (.tup []) T G) H:=by
  obtain⟨v,e⟩:=r;have hids:dY e=(BQ e).map (·.1):=by cases e<;>rfl
  have hset:nC e H=mS H (BQ e):=by cases e<;>rfl
  cases c
  · obtain rfl:e=none:=FV hr
    rw[iD]at h;exact rM _ (uE (eff:= []) (by rw[hbm];exact hap)) hc h
  · rw[jM]at h
    have hr':=MI (u:=.tup []) hr;have hard:=US (u:=.tup []) hr;simp only at hf hap h;rw[hids,<-hard]at hap;rw[hids,hset,<-hard]at h;refine SB false fresh ((kQ hc).1 rfl _) hok hr' (λob he=> ?_) rfl rfl (uE (by rw[hbm];exact hap)) h;subst he;simp only[iK,if_true]at hf;exact vD hf
theorem FZ{id:Nat}{ops:Array Oper}{T:aJ}{H:aH}(m:Nat)(hok:kT P ops.toList=true)(h:mI P N ops (λe T1 H1=>∃T2,(∀i,T2 i= .junk\/T2 i=T1 i)/\Q e T2 H1) 0 ops.toList [] T (H++aNb m .unborn)):fO P N nb (.region id ops true) Q T H:=
  fO.monoW (kP m hok h) λ_ _ _ he=>he
theorem FG{u:PV}{T:aJ}{G:Nat->Bool}{o:Op}{f:FuncId}{args:List PV}(hcall:iC T o=some (f,args))(hg:o.operands.toList.all (AQ true G)=true):iC (hZ u T G) o=some (f,args):=by
  obtain⟨fo,xs,ts,pf,pc,e1,e2,e3⟩:=lF hcall;rw[e1]at hg;simp only[Op.operands,Call.operands]at hg;have hall:=aNz.1 hg;unfold iC;rw[e1];simp only[mT (hall fo zz),e2];congr 2;rw[<-e3];congr 2;exact List.map_congr_left λx hx=>by rw[mT (hall x (by simp;right;simpa using hx))]
end
theorem tN(n:Nat):((n:Int)).toNat=n:=rfl
theorem YM(G:Nat->Bool)(d:Nat)(c:Bool)(i:Nat):ug G d c i=if i=d then c else G i:=rfl
theorem WW(G:Nat->Bool)(d:Nat)(c:Bool):xR G (some d) c=ug G d c:=rfl
theorem aAz(G:Nat->Bool)(c:Bool):xR G none c=G:=rfl
theorem OW(i:Nat):BX i=true:=rfl
theorem aBo(a b:PV):pk true a b=a:=rfl
theorem aAg(a b:PV):pk false a b=b:=rfl
theorem aGq(c x:Bool):pk c (.bool x) (.bool false)= .bool (c&&x):=by cases c<;>rfl
theorem aJ1(c x:Bool):pk c (.bool true) (.bool x)= .bool (c||x):=by cases c<;>rfl
theorem aBn(b:Bool):(b==true)=b:=by cases b<;>rfl
theorem YQ(b:Bool):(b==false)= !b:=by cases b<;>rfl
theorem ZW(b:Bool):(!b||b)=true:=by cases b<;>rfl
theorem XS(b:Bool):(b|| !b)=true:=by cases b<;>rfl
theorem aC5(c:Bool)(G:Nat->Bool)(t:Nat):AQ c G (.tmp t)=(!c||G t):=rfl
theorem TK(c:Bool)(G:Nat->Bool)(v:Value):AQ c G (.const v)=true:=rfl
theorem XF(c:Bool)(G:Nat->Bool)(f:FuncId):AQ c G (.func f)=true:=rfl
theorem SG:(∀(G:Nat->Bool) (d:Nat) (c:Bool) (i:Nat),ug G d c i=if i=d then c else G i)/\(∀(G:Nat->Bool) (d:Nat) (c:Bool),xR G (some d) c=ug G d c)/\(∀(G:Nat->Bool) (c:Bool),xR G none c=G)/\
  (∀i,BX i=true)/\(∀a b:PV,pk true a b=a)/\(∀a b:PV,pk false a b=b)/\(∀c x:Bool,pk c (.bool x) (.bool false)= .bool (c&&x))/\(∀c x:Bool,pk c (.bool true) (.bool x)= .bool (c||x))/\
  (∀b:Bool,(b==true)=b)/\(∀b:Bool,(b==false)= !b)/\(∀b:Bool,(!b||b)=true)/\(∀b:Bool,(b|| !b)=true)/\
  (∀(c:Bool) (G:Nat->Bool) (t:Nat),AQ c G (.tmp t)=(!c||G t))/\(∀(c:Bool) (G:Nat->Bool) (v:Value),AQ c G (.const v)=true)/\(∀(c:Bool) (G:Nat->Bool) (f:FuncId),AQ c G (.func f)=true):=
 ⟨YM,WW,aAz,OW,aBo,aAg,aGq,aJ1,aBn,YQ,ZW,XS,aC5,TK,XF⟩
theorem BN(d:Nat)(v:PV)(l:List (Nat×PV))(i:Nat):gM ((d,v)::l) i=if i=d then v else gM l i:=rfl
theorem GZ(i:Nat):gM [] i= .junk:=rfl
theorem jJ.nil{n:Nat}:jJ n []:=trivial
theorem jJ.cons{n d:Nat}{v:PV}{l:List (Nat×PV)}(h:bF n v)(hl:jJ n l):jJ n ((d,v)::l):=⟨h,hl⟩
theorem kI{n m:Nat}{H L:aH}(h:iJ m H)(hm:m<=n)(hl:iJ n L):iJ n (H++L):=λo ho=>by
 rcases aN0.1 ho with h'|h'
 ·have:=h o h';cases o with
  |row cs=>exact λc hc=>(this c hc).mono hm
  |obj k=>cases k with
   |iter s p=>trivial
   |mapo es=>exact λe he=>(this e he).mono hm
   |miter im k seen=>exact aMs this hm
   |mapg es c=>exact λe he=>(this e he).mono hm
   |mitg im k seen=>exact aMs this hm
  |_=>trivial
 ·exact hl o h'
theorem cM(n:Nat):bF n (.slice [] .full):=.slice _ _ zz zz
theorem cP(n:Nat):bF n (.slice [] .none):=.slice _ _ zz zz
theorem eK(n:Nat):EK n (.row []):=λc hc=>by cases hc
theorem dT{n:Nat}{c:PV}{cs:List PV}(h:bF n c)(hc:EK n (.row cs)):EK n (.row (c::cs)):=λx hx=>by
 rcases aN2.1 hx with rfl|hx
 ·exact h
 ·exact hc x hx
theorem bI{P:Program}{N:Nat}{T:aJ}{H:aH}{rs:List ResultVar}(r1 r2:ResultVar){v1 v2:PV}(hrs:rs= [r1,r2])(h1:lV P N T H r1=some v1)(h2:lV P N T H r2=some v2):fQ P N T H rs=some (.tup [v1.drop1,v2.drop1]):=by
 subst hrs;simp only[fQ,List.mapM_cons,List.mapM_nil,h1,h2,Option.bind_eq_bind,aM3,Option.pure_def,aM6,aNl,aOb]
theorem OZ{P:Program}{N:Nat}{T:aJ}{H:aH}{rs:List ResultVar}(r1 r2 r3:ResultVar){v1 v2 v3:PV}(hrs:rs= [r1,r2,r3])(h1:lV P N T H r1=some v1)(h2:lV P N T H r2=some v2)(h3:lV P N T H r3=some v3):fQ P N T H rs=some (.tup [v1.drop1,v2.drop1,v3.drop1]):=by
 subst hrs;simp only[fQ,List.mapM_cons,List.mapM_nil,h1,h2,h3,Option.bind_eq_bind,aM3,Option.pure_def,aM6,aNl,aOb]
theorem kS{P:Program}{N:Nat}{T:aJ}{H:aH}{t:Nat}{ty:TypeId}{i:TI}{r:PV}(hi:bZ P ty=some i)(ht:t<N)(h:jK i H (T t)=some r):lV P N T H (.cell t ty)=some r:=by
 simp only[lV,if_pos ht,hi,aM3];exact h
theorem aM{P:Program}{N:Nat}{T:aJ}{H:aH}{t:Nat}(ht:t<N):lV P N T H (.tmp t)=some (T t):=if_pos ht
theorem LS:(∀ {α:Type} (p:α->Bool) (a:α) (l:List α),(a::l).all p=(p a&&l.all p))/\(∀ {α:Type} (p:α->Bool),([]:List α).all p=true)/\
  (∀ {α:Type} (n:Nat) (a:α),aNb (n+1) a=a::aNb n a)/\(∀ {α:Type} (a:α),aNb 0 a= [])/\
  (∀ {α:Type} (n:Nat) (a:α) (l:List α),(a::l).take (n+1)=a::l.take n)/\(∀ {α:Type} (l:List α),l.take 0= [])/\(∀ {α:Type} (n:Nat),([]:List α).take n= [])/\
  (∀ {α:Type} (n:Nat) (a:α) (l:List α),(a::l).drop (n+1)=l.drop n)/\(∀ {α:Type} (l:List α),l.drop 0=l)/\
  (∀ {α β:Type} (a:α) (f:α->Option β),(some a).bind f=f a)/\
  (∀ {α:Type} (a d:α) (l:List α),(a::l).getD 0 d=a)/\(∀ {α:Type} (a d:α) (l:List α) (n:Nat),(a::l).getD (n+1) d=l.getD n d)/\
  (∀ {α:Type} (a:α) (l:List α),(a::l)[0]? =some a)/\(∀ {α:Type} (a:α) (l:List α) (n:Nat),(a::l)[n+1]? =l[n]?)/\(∀ {α:Type} (n:Nat),([]:List α)[n]? =none)/\
  (∀ {α:Type} (a:α) (l:List α),(a::l).length=l.length+1)/\(∀ {α:Type},([]:List α).length=0)/\(∀ {α:Type} (a b:List α),(a++b).length=a.length+b.length)/\(∀ {α β:Type} (f:α->β) (l:List α),(l.map f).length=l.length)/\
  (∀ {α:Type} (a b:α) (l:List α),(a::l).set 0 b=b::l)/\(∀ {α:Type} (a b:α) (l:List α) (n:Nat),(a::l).set (n+1) b=a::l.set n b)/\
  (∀ {α:Type} (a b c:List α),a++b++c=a++(b++c))/\(∀ {α:Type} (x:α) (a b:List α),x::a++b=x::(a++b))/\(∀ {α:Type} (a:List α),[]++a=a)/\(∀ {α:Type} (a:List α),a++ []=a)/\
  (∀ {α:Type} (a:α),(some a).isSome=true)/\(∀ {α:Type},(none:Option α).isSome=false)/\
  ((false=true)=False)/\(∀b:Bool,(b&&true)=b)/\(∀b:Bool,(true&&b)=b)/\(∀b:Bool,(b&&b)=b)/\((!true)=false)/\((!false)=true)/\(∀b:Bool,(!(!b))=b)/\
  (∀b:Bool,(b&&false)=false)/\(∀b:Bool,(false&&b)=false)/\(∀p:Prop,(p/\True)=p)/\(∀p:Prop,(True/\p)=p)/\(∀p:Prop,(p/\p)=p)/\
  (decide True=true)/\(decide False=false)/\(∀n:Nat,(n==n)=true)/\
  (∀ {α β:Type} (f:α->β) (a:α) (l:List α),(a::l).map f=f a::l.map f)/\(∀b:Bool,(b||false)=b)/\(∀b:Bool,(false||b)=b)/\(∀b:Bool,(b||true)=true)/\(∀b:Bool,(true||b)=true)/\
  (∀n:Nat,n+0=n)/\(∀n:Nat,0+n=n)/\(∀ {α:Type} (l:List α),l.toArray.toList=l)/\
  (∀(a b:Nat) (l:List Nat),(b::l).contains a=(a==b||l.contains a))/\(∀a:Nat,([]:List Nat).contains a=false)/\(∀ {α:Type} (a b:α),(if True then a else b)=a)/\(∀ {α:Type} (a b:α),(if False then a else b)=b):=by
 refine⟨?_, ?_, ?_, ?_, ?_, ?_, ?_, ?_, ?_, ?_, ?_, ?_, ?_, ?_, ?_, ?_, ?_, ?_, ?_, ?_, ?_, ?_, ?_, ?_, ?_, ?_, ?_, ?_, ?_, ?_, ?_, ?_, ?_, ?_, ?_, ?_, ?_, ?_, ?_, ?_, ?_, ?_, ?_, ?_, ?_, ?_, ?_, ?_, ?_, ?_, ?_, ?_, ?_, ?_⟩<;>first| (intros;rfl)|simp[List.replicate_succ]
theorem SX:(∀vs:List PV,(PV.tup vs).drop1= .tup vs)/\(∀vs:List PV,(PV.tup vs).isJunk=false)/\(PV.nilfn.drop1= .nilfn)/\(∀(c:Bool),(!decide (c=true))= !c)/\(∀(c:Bool),decide (c=true)=c)/\(∀(i:Nat),(Int.toNat (i:Int))=i):=
 ⟨λ_=>rfl,λ_=>rfl,rfl,λc=>by cases c<;>rfl,λc=>by cases c<;>rfl,λi=>tN i⟩
open Classical in
noncomputable def aK.frz(E:aK)(H1:aH):aK:=
 {E with κ:=λb=>if ∃id cs,H1.length<=id/\E.H[id]? =some (.row cs)/\E.ρ id=b then .fixed else E.κ b,H:=H1}
section frz
variable{E:aK}(ho:E.Ok){H1 L:aH}(hE:E.H=H1++L)
theorem aK.frz_cell(a:Addr)(v:Value)(h:E.view.cell a=some v):(E.frz H1).view.cell a=some v:=by
 simp only[aK.view]at h⊢
 split at h
 ·rename_i hs;have:((E.frz H1).κ a.block).stable a.off=true:=by
   simp only[aK.frz]
   split
   ·rfl
   ·exact hs
  rw[if_pos this];exact h
 ·cases h
include ho hE in
theorem aK.frz_tok{id:Nat}(hid:id<H1.length){t:VH}(h:(E.frz H1).view.tok id=some t):E.view.tok id=some t:=by
 have e1:(E.frz H1).H[id]? =E.H[id]? :=by show H1[id]? =_;rw[mY hE hid]
 simp only[aK.view,e1]at h⊢
 split at h
 ·rename_i n sz hi;rw[<-h];show some (VH.mk n sz ((E.tb id).bind _))=some (VH.mk n sz ((E.tb id).bind _));cases htb:E.tb id with
  |none=>rfl
  |some b=>
   simp only[aM3];have hκ:(E.frz H1).κ b=E.κ b\/((E.frz H1).κ b= .fixed/\E.κ b= .mut):=by
    simp only[aK.frz]
    split
    ·rename_i hx;obtain⟨id',cs,_,h2,h3⟩:=hx;obtain⟨_,_,_,_,_,h4⟩:=ho.rows id' cs h2;rw[h3]at h4;exact .inr ⟨rfl,h4⟩
    ·exact .inl rfl
   rcases hκ with e| ⟨e,e'⟩
   ·rw[e]
   ·rw[e,e']
 ·cases h
include ho hE in
theorem aK.frz_rel{v:Value}{p:PV}(h:aQ E.view v p)(hp:bF H1.length p):aQ (E.frz H1).view v p:=by
 refine aQ.cut (V:=E.view) (V':=(E.frz H1).view) (n:=H1.length) aK.frz_cell (λid hid hb=>⟨?_,rfl,λt ht=>aK.frz_tok ho hE hid ht⟩) h hp;obtain⟨o,h1,h2⟩:=hb;exact⟨o,by show H1[id]? =some o;rw[<-mY hE hid];exact h1,h2⟩
include ho hE in
theorem aK.Ok.frz(hb:iJ H1.length H1):(E.frz H1).Ok:=by
 have hg:∀ {id:Nat} {o:AObj},H1[id]? =some o->E.H[id]? =some o:=λh=>by rw[mY hE (lG h)];exact h
 refine⟨?_, ?_, ?_, ?_,ho.globs_of aK.frz_cell λid b vs hi=>hg hi,⟨λid k hi=> ?_,λid id' k k' h1 h2 e=>ho.objs.inj id id' k k' (hg h1) (hg h2) e⟩⟩
 rotate_left 4
 ·obtain⟨⟨o,a1,a2⟩,a3⟩:=ho.objs.at_ id k (hg hi);refine⟨⟨o,a1,a2.cut (λv p hv hp=>aK.frz_rel ho hE hv hp) (hb _ (List.mem_of_getElem? hi))⟩, ?_⟩;simp only[aK.frz];rw[if_neg]
  ·exact a3
  ·rintro⟨id',cs',h5,h6,h7⟩;obtain⟨_,_,h8,_⟩:=ho.rows id' cs' h6;rw[h7,a1]at h8;cases h8;exact a2.cells
 ·intro id cs hi;obtain⟨arr,elem,h1,h2,h3,h4⟩:=ho.rows id cs (hg hi);have hm:AObj.row cs∈H1:=List.mem_of_getElem? hi;refine⟨arr,elem,h1,h2,λi hl=>aK.frz_rel ho hE (h3 i hl) (hb _ hm _ (aNq hl)), ?_⟩;simp only[aK.frz];rw[if_neg]
  ·exact h4
  ·rintro⟨id',cs',h5,h6,h7⟩;have:=ho.injr id' id cs' cs h6 (hg hi) h7;have:id<H1.length:=lG (H:=H1) hi;omega
 ·intro id n sz b hi hb';obtain⟨arr,elem,pos,h1,h2⟩:=ho.bufs id n sz b (hg hi) hb';refine⟨arr,elem,pos,h1, ?_⟩;simp only[aK.frz];rw[if_neg]
  ·exact h2
  ·rintro⟨id',cs',h5,h6,h7⟩;obtain⟨_,_,_,_,_,h8⟩:=ho.rows id' cs' h6;rw[h7,h2]at h8;cases h8
 ·intro id id' cs cs' h1 h2 e;exact ho.injr id id' cs cs' (hg h1) (hg h2) e
 ·intro id id' n sz n' sz' b h1 h2 e e';exact ho.injb id id' n sz n' sz' b (hg h1) (hg h2) e e'
end frz
def Frz(H:aH)(n:Nat)(p v:PV):Prop:=
 (p=v/\bF n v)\/∃id k c sz es,p= .msl id 0 k c/\n<=id/\H[id]? =some (.row (aL es))/\k<=es.length/\k<=c/\(∀e∈es,e.cells.length=sz)/\(∀e∈es,∀x∈e.cells,bF n x)/\v= .slice (es.take k) .none
theorem Frz.same{H:aH}{n:Nat}{v:PV}(h:bF n v):Frz H n v v:=.inl ⟨rfl,h⟩
section
variable{P:Program}{N nb:Nat}{Q:cT}
end
inductive Ty where
 |mk (kind id:Int) (args:List Ty)
def Ty.kind:Ty->Int| .mk k _ _=>k
def Ty.id:Ty->Int| .mk _ i _=>i
def Ty.args:Ty->List Ty| .mk _ _ gs=>gs
mutual
def Ty.enc:Ty->PV
 | .mk k i gs=>.agg [.int .i64 k, .int .i64 i, .slice (encs gs) .none]
def encs:List Ty->List PV
 | []=> []
 |t::ts=>t.enc::encs ts
end
theorem RH(ts:List Ty):encs ts=ts.map Ty.enc:=by
 induction ts with
 |nil=>rfl
 |cons t ts ih=>simp[encs,ih]
theorem Ty.enc_eq(t:Ty):t.enc= .agg [.int .i64 t.kind, .int .i64 t.id, .slice (t.args.map Ty.enc) .none]:=by
 cases t;simp[Ty.enc,RH,Ty.kind,Ty.id,Ty.args]
theorem Ty.enc_cells(t:Ty):t.enc.cells= [.int .i64 t.kind, .int .i64 t.id, .slice (t.args.map Ty.enc) .none]:=by
 rw[Ty.enc_eq];rfl
theorem Ty.enc_drop1(t:Ty):t.enc.drop1=t.enc:=by rw[Ty.enc_eq];rfl
theorem Ty.enc_len(t:Ty):t.enc.cells.length=3:=by rw[Ty.enc_cells];rfl
theorem Ty.enc_junk(t:Ty):t.enc.isJunk=false:=by rw[Ty.enc_eq];rfl
mutual
theorem Ty.bel(n:Nat):∀t:Ty,bF n t.enc
 | .mk k i gs=>.agg _ (by
   intro c hc;simp only[aN2,aOc,or_false]at hc;rcases hc with rfl|rfl|rfl
   ·exact .int _ _
   ·exact .int _ _
   ·exact .slice _ _ (WM n gs) (λid h=>by cases h))
theorem WM(n:Nat):∀ts:List Ty,∀e∈encs ts,∀c∈e.cells,bF n c
 | []=>λe he=>by simp[encs]at he
 |t::ts=>λe he c hc=>by
  simp only[encs,aN2]at he;rcases he with rfl|he
  ·have h:=Ty.bel n t;rw[Ty.enc_eq]at h hc;cases h with
   |agg _ q=>exact q c hc
  ·exact WM n ts e he c hc
end
theorem HI(n:Nat)(ts:List Ty):bF n (.slice (ts.map Ty.enc) .none):=by
 rw[<-RH];exact .slice _ _ (WM n ts) (λid h=>by cases h)
mutual
def Ty.size:Ty->Nat
 | .mk _ _ gs=>1+Ty.sizes gs
def Ty.sizes:List Ty->Nat
 | []=>0
 |t::ts=>t.size+Ty.sizes ts
end
theorem cL{n:Int}(h0: -9223372036854775808<=n)(h:n<=9223372036854775807):IntKind.i64.wrap n=n:=by
 simp[IntKind.wrap,IntKind.bits,IntKind.signed];omega
inductive Ty.W:Ty->Prop
 |mk {k i:Int} {us:List Ty} (hl:us.length*40<=2^47) (h:∀u∈us,u.W):(Ty.mk k i us).W
theorem Ty.W.len{t:Ty}(h:t.W):t.args.length*40<=2^47:=by cases h;assumption
theorem Ty.W.arg{t:Ty}(h:t.W){u:Ty}(hu:u∈t.args):u.W:=by cases h with|mk _ h=>exact h u hu
mutual
def Ty.eqb:Ty->Ty->Bool
 | .mk k i us, .mk k' i' vs=>decide (k=k')&&(decide (i=i')&&QF us vs)
def QF:List Ty->List Ty->Bool
 | [],[]=>true
 |u::us,v::vs=>u.eqb v&&QF us vs
 |_,_=>false
end
mutual
theorem Ty.eqb_iff:∀a b:Ty,a.eqb b=true↔a=b
 | .mk k i us, .mk k' i' vs=>by
  simp only[Ty.eqb,aMj,decide_eq_true_eq,Ty.mk.injEq,NE us vs]
theorem NE:∀us vs:List Ty,QF us vs=true↔us=vs
 | [],[]=>by simp[QF]
 | [],v::vs=>by simp[QF]
 |u::us,[]=>by simp[QF]
 |u::us,v::vs=>by simp[QF,Ty.eqb_iff u v,NE us vs]
end
instance:DecidableEq Ty:=λa b=>decidable_of_iff (a.eqb b=true) (Ty.eqb_iff a b)
theorem cV(n:Nat)(f:Fn):bF n (.fn f [] []):=.fn _ _ _ zz zz
abbrev aE(n:Int):PV:=.int .i64 n
theorem WB(n:Nat)(xs:List Int)(tl:bE)(ht:∀id,tl= .tok id->id<n):bF n (.slice (xs.map aE) tl):=
 .slice _ _ (λe he c hc=>by obtain⟨x,_,rfl⟩:=aNy.1 he;simp[PV.cells]at hc;subst hc;exact .int _ _) ht
section
variable{P:Program}{N nb:Nat}{ops:Array Oper}{Q:cT}
end
section
variable{P:Program}{N:Nat}
end
theorem Ty.eta(t:Ty):Ty.mk t.kind t.id t.args=t:=by cases t;rfl
theorem bM(n:Nat)(xs:List Int):bF n (.slice (xs.map aE) .none):=WB n xs .none (λ_ h=>by cases h)
def cN{α:Type}(p:α->Bool)(xs:List α):Int:=match xs.findIdx? p with|some i=>i|none=> -1
theorem qD{α:Type}(p:α->Bool)(xs:List α):decide (cN p xs>=0)=xs.any p:=by
 unfold cN;rw[aN1,decide_eq_true_eq,List.any_eq_true];cases h:xs.findIdx? p with
 |none=>
  rw[List.findIdx?_eq_none_iff]at h;constructor
  ·intro h';simp at h'
  ·rintro⟨x,hx,hp⟩;rw[h x hx]at hp;cases hp
 |some i=>
  obtain⟨hi,h1,h2⟩:=List.findIdx?_eq_some_iff_getElem.1 h;exact⟨λ_=>⟨xs[i],aNq hi,h1⟩,λ_=>zz⟩
theorem oQ{α:Type}{p:α->Bool}{xs:List α}{i:Nat}(hi:i<xs.length)(h:p xs[i]=true)(h':(xs.take i).any p=false):cN p xs=i:=by
 unfold cN;have:xs.findIdx? p=some i:=by
  rw[List.findIdx?_eq_some_iff_getElem];refine⟨hi,h,λj hj=> ?_⟩;rw[List.any_eq_false]at h';have:=h' xs[j] (by rw[List.mem_take_iff_getElem];exact⟨j,z8,rfl⟩);simpa using this
 rw[this]
theorem nR{α:Type}{p:α->Bool}{xs:List α}(h':xs.any p=false):cN p xs= -1:=by
 unfold cN;have:xs.findIdx? p=none:=by
  rw[List.findIdx?_eq_none_iff];intro x hx;rw[List.any_eq_false]at h';simpa using h' x hx
 rw[this]
theorem iG{α:Type}{p:α->Bool}{xs:List α}{i:Nat}(hi:i<xs.length)(h:(xs.take i).any p=false)(hp:p xs[i]=false):(xs.take (i+1)).any p=false:=by
 rw[List.take_succ_eq_append_getElem hi,List.any_append,h];simp[hp]
theorem dF{α:Type}(f:α->PV){xs:List α}{i:Nat}(hi:i<xs.length):(xs.map f)[i]? =some (f xs[i]):=by simp[hi]
theorem fS{i n:Nat}(h:i<n):((0:Int)<=i/\(i:Int)<n)=True:=by simp;omega
structure aEu(P:Program){α:Type}(en:α->PV)(f:FuncId)(caps:List PV)(H:aH)(xs:List α)(p:α->Bool):Prop where
 go:bO P f=true
 bel:∀c∈caps,bF H.length c
 call:∀u∈xs,aR P f (en u::caps) H λr' H'=>r'= .bool (p u)/\H'=H
theorem wL{P:Program}{N nb:Nat}{Q:cT}{c:Code}{T:aJ}{H:aH}(live:List Nat){l:List (Nat×PV)}(hl:live.map (λd=>(d,T d))=l)(h:fO P N nb c Q (gM l) H):fO P N nb c Q T H:=by
 refine eG (λi=> ?_) h;subst hl;clear h
 induction live with
 |nil=>exact .inl rfl
 |cons d live ih=>
  simp only[aNl,gM,upd]
  split
  ·rename_i e;subst e;exact .inr rfl
  ·exact ih
section
variable(P:Program)(N:Nat)(ops:List Oper)
def as2(o:Oper)(T:aJ)(H:aH):Option (PV×pK)->Option (aJ×aH)
 |some r=>some (bT T o.dst r.1,appS H r.2)
 |none=>none
def YK(o:Oper)(T:aJ)(H:aH):Option Bool->Option (aJ×aH)
 |some true=>as2 o T H (fN P false H.length T H o.op)
 |some false=>some (bT T o.dst .junk,H)
 |none=>none
def as0(o:Oper):Option (aJ×aH)->Option (aJ×aH)
 |some (T,H)=>YK P o T H (aZ ops T N o)
 |none=>none
def zO:List Oper->Option (aJ×aH)->Option (aJ×aH)
 | [],s=>s
 |o::l,s=>zO l (as0 P N ops o s)
theorem CC:∀l,zO P N ops l none=none
 | []=>rfl
 |o::l=>CC l
theorem CR:∀(l:List Oper) (T:aJ) (H:aH),zO P N ops l (some (T,H))=BY P N ops l T H
 | [],T,H=>rfl
 |o::l,T,H=>by
  simp only[zO,as0,BY];cases hw:aZ ops T N o with
  |none=>exact CC P N ops l
  |some b=>
   cases b
   ·exact CR l _ _
   ·simp only[YK];cases ha:fN P false H.length T H o.op with
    |none=>exact CC P N ops l
    |some r=>exact CR l _ _
def OM(o:Oper)(T:aJ)(G:Nat->Bool)(H:aH)(c:Bool):Option (PV×pK)->Option (aJ×(Nat->Bool)×aH)
 |some r=>some (bT T o.dst r.1,xR G o.dst c,appS H r.2)
 |none=>none
def NN(o:Oper)(T:aJ)(G:Nat->Bool)(H:aH):Option Bool->Option (aJ×(Nat->Bool)×aH)
 |some c=>OM o T G H c (uW P H.length c T G H o.op)
 |none=>none
def gs0(o:Oper):Option (aJ×(Nat->Bool)×aH)->Option (aJ×(Nat->Bool)×aH)
 |some (T,G,H)=>NN P o T G H (fK ops T G N o)
 |none=>none
def PT:List Oper->Option (aJ×(Nat->Bool)×aH)->Option (aJ×(Nat->Bool)×aH)
 | [],s=>s
 |o::l,s=>PT l (gs0 P N ops o s)
theorem CI:∀l,PT P N ops l none=none
 | []=>rfl
 |o::l=>CI l
theorem JJ:∀(l:List Oper) (T:aJ) (G:Nat->Bool) (H:aH),PT P N ops l (some (T,G,H))=KC P N ops l T G H
 | [],T,G,H=>rfl
 |o::l,T,G,H=>by
  simp only[PT,gs0,KC];cases hw:fK ops T G N o with
  |none=>exact CI P N ops l
  |some c=>
   simp only[NN,aM3];cases ha:uW P H.length c T G H o.op with
   |none=>exact CI P N ops l
   |some r=>exact JJ l _ _ _
abbrev DSt:=Nat×Nat×gW×aJ×aH
def ds3(o:Oper)(k fresh:Nat)(prev:gW)(T:aJ)(H:aH)(r:PV×pK)(rd eids:List Nat):Bool->Bool->Option DSt
 |true,true=>some (k+1,iV fresh r.2,prev++ [(k,rd,eids)],bT T o.dst r.1,nC r.2 H)
 |_,_=>none
def ds2(bm:List Nat)(o:Oper)(k fresh:Nat)(prev:gW)(T:aJ)(H:aH):Option (PV×pK)->Option DSt
 |some r=>ds3 o k fresh prev T H r (nI T o.op++dY r.2) (dY r.2) (iK fresh r.2 H) (pM (bm.getD k 0) prev (nI T o.op++dY r.2) (dY r.2))
 |none=>none
def ds1(bm:List Nat)(o:Oper)(k fresh:Nat)(prev:gW)(T:aJ)(H:aH):Option Bool->Option DSt
 |some true=>ds2 bm o k fresh prev T H (fN P false fresh T H o.op)
 |some false=>some (k+1,fresh,prev++ [(k,[],[])],bT T o.dst .junk,H)
 |none=>none
def ds0(bm:List Nat)(o:Oper):Option DSt->Option DSt
 |some (k,fresh,prev,T,H)=>ds1 P bm o k fresh prev T H (aZ ops T N o)
 |none=>none
def dsq(bm:List Nat):List Oper->Option DSt->Option DSt
 | [],s=>s
 |o::l,s=>dsq bm l (ds0 P N ops bm o s)
theorem tU(bm:List Nat):∀l,dsq P N ops bm l none=none
 | []=>rfl
 |o::l=>tU bm l
theorem JN(bm:List Nat):∀(l:List Oper) (k fresh:Nat) (prev:gW) (T:aJ) (H:aH) {k' fresh' prev' T' H'},dsq P N ops bm l (some (k,fresh,prev,T,H))=some (k',fresh',prev',T',H')->KX P N ops bm l k fresh prev T H=some (fresh',prev',T',H')
 | [],k,fresh,prev,T,H,k',fresh',prev',T',H',h=>by cases h;rfl
 |o::l,k,fresh,prev,T,H,k',fresh',prev',T',H',h=>by
  simp only[dsq,ds0]at h;simp only[KX];cases hw:aZ ops T N o with
  |none=>rw[hw]at h;simp only[ds1,tU]at h;cases h
  |some b=>
   rw[hw]at h;cases b
   ·exact JN bm l _ _ _ _ _ h
   ·simp only[ds1]at h;cases ha:fN P false fresh T H o.op with
    |none=>rw[ha]at h;simp only[ds2,tU]at h;cases h
    |some r=>
     rw[ha]at h;simp only[ds2]at h;cases h1:iK fresh r.2 H with
     |false=>rw[h1]at h;simp only[ds3,tU]at h;cases h
     |true=>
      cases h2:pM (bm.getD k 0) prev (nI T o.op++dY r.2) (dY r.2)with
      |false=>rw[h1,h2]at h;simp only[ds3,tU]at h;cases h
      |true=>
       rw[h1,h2]at h;simp only[ds3]at h;simp only[aM3,h1,h2,and_self,if_true];exact JN bm l _ _ _ _ _ h
abbrev OC:=Nat×Nat×gW×aJ×(Nat->Bool)×aH
end
section
variable{P:Program}{N nb:Nat}{ops:Array Oper}{Q:cT}
theorem eT(n:Nat){l:List Oper}{T T':aJ}{H H':aH}(hs:zO P N ops.toList (l.take n) (some (T,H))=some (T',H'))(hok:(l.take n).all (λo=>dC N o.op)=true)(h:bC P N nb ops Q (l.drop n) T' H'):bC P N nb ops Q l T H:=SV n (CR .. ▸hs) hok h
theorem xF{l:List Oper}{T T':aJ}{H H':aH}(hs:zO P N ops.toList l (some (T,H))=some (T',H'))(hok:l.all (λo=>dC N o.op)=true)(h:Q .normal T' H'):bC P N nb ops Q l T H:=XY (CR .. ▸hs) hok h
theorem eE{id:Nat}{T T':aJ}{H H':aH}(hs:zO P N ops.toList ops.toList (some (T,H))=some (T',H'))(hok:ops.toList.all (λo=>dC N o.op)=true)(h:Q .normal T' H'):fO P N nb (.region id ops false) Q T H:=CG (CR .. ▸hs) hok h
theorem aGl(n:Nat){l:List Oper}{T T':aJ}{G G':Nat->Bool}{H H':aH}(hs:PT P N ops.toList (l.take n) (some (T,G,H))=some (T',G',H'))(hok:(l.take n).all (λo=>dC N o.op)=true)
  (h:bC P N nb ops Q (l.drop n) (hZ (.tup []) T' G') H'):bC P N nb ops Q l (hZ (.tup []) T G) H:=NY n (JJ .. ▸hs) hok h
theorem aEl{l:List Oper}{T T' F:aJ}{G G':Nat->Bool}{H H':aH}(hs:PT P N ops.toList l (some (T,G,H))=some (T',G',H'))(hok:l.all (λo=>dC N o.op)=true)(hf:fT T' G' F)(h:Q .normal F H'):
  bC P N nb ops Q l (hZ (.tup []) T G) H:=GL (JJ .. ▸hs) hok hf h
theorem QD{id:Nat}{T T' F:aJ}{G':Nat->Bool}{H H':aH}(hs:PT P N ops.toList ops.toList (some (T,BX,H))=some (T',G',H'))(hok:ops.toList.all (λo=>dC N o.op)=true)(hf:fT T' G' F)(h:Q .normal F H'):fO P N nb (.region id ops false) Q T H:=UH (JJ .. ▸hs) hok hf h
theorem yQ(n:Nat){l:List Oper}{k k' fresh:Nat}{prev prev':gW}{T T':aJ}{H H':aH}{bm:List Nat}{fresh':Nat}(hbm:cH ops.toList=bm)(hs:dsq P N ops.toList bm (l.take n) (some (k,fresh,prev,T,H))=some (k',fresh',prev',T',H'))
  (hok:(l.take n).all (λo=>dC N o.op)=true) (hn:(l.take n).length=n) (h:mI P N ops Q (k+n) (l.drop n) prev' T' H'):mI P N ops Q k l prev T H:=UP n hbm (JN _ _ _ _ _ _ _ _ _ _ hs) hok hn h
theorem pR{l:List Oper}{k k' fresh:Nat}{prev prev':gW}{T T':aJ}{H H':aH}{bm:List Nat}{fresh':Nat}(hbm:cH ops.toList=bm)(hs:dsq P N ops.toList bm l (some (k,fresh,prev,T,H))=some (k',fresh',prev',T',H'))
  (hok:l.all (λo=>dC N o.op)=true) (h:Q .normal T' H'):mI P N ops Q k l prev T H:=WE hbm (JN _ _ _ _ _ _ _ _ _ _ hs) hok h
end
section
variable{P:Program}{N nb:Nat}{Q:cT}
end
theorem aR.retok{P:Program}{f:FuncId}{es:List PV}(sz:Nat){args:List PV}{H:aH}{R:PV->aH->Prop}(h:aR P f (.slice es (.tok H.length)::args) (H++ [.buf es.length sz]) R)(he:es= []:=by rfl):aR P f (.slice es .full::args) H R:=by
 intro E vargs ho hH hr;subst hH;have hun:E.ext.H[E.H.length]? =some .unborn:=by simp[aK.ext]
 have ho2:=aK.Ok.retok (n:=es.length) (sz:=sz) ho.ext hun;have hle:=E.ext_le.trans (aK.retok_le (n:=es.length) (sz:=sz) hun);have hH2:(E.ext.retok E.H.length es.length sz).H=E.H++ [.buf es.length sz]:=by
  simp only[aK.retok,aK.ext];rw[aN4 _ _ (aMq _)];simp
 refine(h (E.ext.retok E.H.length es.length sz) vargs ho2 hH2 ⟨hr.1,λi hi=> ?_⟩).mono λe w' ⟨E',v,r,h1,h2,h3,h4⟩=>⟨E',v,r,h1,h2,hle.trans h3,h4⟩;have h0:=(hr.2 i hi).mono hle.view;cases i with
 |zero=>
  simp only[aMn]at h0⊢;refine aQ.retok he h0 ⟨.buf es.length sz,by rw[hH2];simp,zz⟩ (λt e=> ?_);simp only[aK.view,hH2,aM1 (aMq _),aNt,aNw,Option.some.injEq]at e;subst e;exact aMq _
 |succ i=>simpa using h0
section
variable{P:Program}{N nb:Nat}{Q:cT}
end
theorem OB{P:Program}{N nb:Nat}{ops:Array Oper}{Q:Exit->aJ->aH->Prop}{o:Oper}{l:List Oper}{T:aJ}{G:Nat->Bool}{H:aH}{r:PV}(hc:fK ops.toList T G N o=some false)
  (h:bC P N nb ops Q l (hZ (.tup []) (bT T o.dst r) (xR G o.dst false)) H):bC P N nb ops Q (o::l) (hZ (.tup []) T G) H:=by
 rw[iD]at h;exact vO (λE a ht=>uC ht hc) h
theorem BL{P:Program}{w:World}(op:BinOp)(t:TypeId)(x y:Operand)(a b:Option Addr)(n m k l:Nat):(eqGuard op t x y (.slice a n m) (.slice b k l)).run P w= .ok () w:=by
 cases op<;>rfl
theorem pV{P:Program}{N nb:Nat}{ops:Array Oper}{Q:cT}{o:Oper}{l:List Oper}{T:aJ}{H:aH}{t y:TypeId}{x:Operand}{es:List PV}{tl:bE}
  (hop:o.op= .binOp .eql t x (.const (.slice none 0 0)) y) (hx:bS T x= .slice es tl) (hw:aZ ops.toList T N o=some true) (hok:aU N x=true) (hte:(cJ P t).isSome=true)
  (h:∀b,(es≠ []->b=false)->bC P N nb ops Q l (bT T o.dst (.bool b)) H):bC P N nb ops Q (o::l) T H:=by
 intro E a ho hH ht;have hr:=aN ht x hok;rw[hx]at hr;obtain⟨e,hu⟩:=eS hte;obtain⟨b,hb,hres⟩:∃b,(es≠ []->b=false)/\(execOp a.eval o).run P E.w= .ok (.value (.bool b)) E.w:=by
  have hc:a.eval (.const (.slice none 0 0))= .slice none 0 0:=rfl;generalize hvx:a.eval x=vx at hr;cases hr with
  |nils _ _=>
   refine⟨true,λh=>(h rfl).elim, ?_⟩;have he:(Op.equal t (.slice none 0 0) (.slice none 0 0)).run P E.w= .ok true E.w:=by
    have key:∀d,(Op.equalIn (d+1) t (.slice none 0 0) (.slice none 0 0)).run P E.w= .ok true E.w:=by
     intro d;simp only[Op.equalIn,aM9,aP hu,aNa,aNc,Option.isNone_none]
    exact key 9999
   unfold execOp;rw[hop];simp only[aM9,hc,hvx,BL,aNa,binOp,he,aNc]
  |slice a' len cap sz _ _ vs h1 h2 h3 h4 h5 h6 h7=>
   refine⟨false,λ_=>rfl, ?_⟩;have he:(Op.equal t (.slice (some a') len cap) (.slice none 0 0)).run P E.w= .ok false E.w:=by
    have key:∀d,(Op.equalIn (d+1) t (.slice (some a') len cap) (.slice none 0 0)).run P E.w= .ok false E.w:=by
     intro d;simp only[Op.equalIn,aM9,aP hu,aNa,aNc]
    exact key 9999
   unfold execOp;rw[hop];simp only[aM9,hc,hvx,BL,aNa,binOp,he,aNc]
 have hn:=h b hb E (a.put o.dst (.bool b)) ho hH (ht.put o.dst (.bool b));refine dS (bY ht hw) ?_;unfold Oper.wp;rw[hres];exact hn
theorem zB{i:TI}{fresh:Nat}{H:aH}{ys:List PV}{tl:bE}(hne:ys≠ [])(hb:ys.length*i.bytes<=2^47)(hm:ys.length<=maxLen)
  (hys:∀e∈ys,e.cells.length=i.sz/\e.cells.all PV.isCell=true) (hs:0<i.sz):
  cK i fresh H (.slice [] .full) (.slice ys tl)=some (.slice ys (.tok fresh),some (fresh, .buf ys.length i.sz)):=by
 unfold cK;simp only[if_neg hne,aOa,aNn];rw[if_pos ⟨hb,hm,zz,hys,hs⟩];rfl
section
variable{P:Program}{N nb:Nat}{Q:cT}
theorem VY{ops:Array Oper}{o:Oper}{l:List Oper}{T:aJ}{H:aH}(mt:Bool)(id:Nat){v:PV}{e:pK}{H':aH}(hid:H[id]? =some .unborn)(hw:aZ ops.toList T N o=some true)(hok:dC N o.op=true)
  (hv:fN P mt id T H o.op=some (v,e)) (hH':e.app H=H') (h:bC P N nb ops Q l (bT T o.dst v) H'):bC P N nb ops Q (o::l) T H:=by
 refine eB hw (λE a ho hH ht=> ?_) h;subst hH;obtain⟨E',val,h1,h2,h3,h4,h5⟩:=rI ho ht hok hv (λob he=>hid);exact⟨E',val,h1,h2,h3,h4.trans hH',h5⟩
end
def GT(prev:gW):Prop:=∀p∈prev,p.2.2= []
theorem BE{prev:gW}(h:GT prev)(m:Nat)(rd:List Nat):pM m prev rd []=true:=by
 unfold pM;rw[aNz];intro p hp;rw[h p hp];simp
theorem GT.app{prev:gW}(h:GT prev)(k:Nat)(rd:List Nat):GT (prev++ [(k,rd,[])]):=by
 intro p hp;rcases aN0.1 hp with hp|hp
 ·exact h p hp
 ·rw[aN8]at hp;rw[hp]
section
variable{P:Program}{N nb:Nat}{ops:Array Oper}{Q:cT}
def DP(P:Program)(N:Nat)(ops:Array Oper)(Q:cT)(k:Nat)(l:List Oper)(T:aJ)(H:aH):Prop:=∀prev,GT prev->mI P N ops (λe T1 H1=>∃T2,(∀i,T2 i= .junk\/T2 i=T1 i)/\Q e T2 H1) k l prev T H
theorem eJ{id:Nat}{T:aJ}{H:aH}(hok:kT P ops.toList=true)(h:DP P N ops Q 0 ops.toList (hZ (.tup []) T BX) H):fO P N nb (.region id ops true) Q T H:=by
 refine FZ 0 hok ?_;have:=h [] (by intro p hp;cases hp);simp only[aOd,aN9];exact this
def XG(o:Oper)(T:aJ)(G:Nat->Bool)(H:aH)(c:Bool):Option (PV×pK)->Option (aJ×(Nat->Bool)×aH)
 |some (v,none)=>some (bT T o.dst v,xR G o.dst c,H)
 |_=>none
def ps1(P:Program)(o:Oper)(T:aJ)(G:Nat->Bool)(H:aH):Option Bool->Option (aJ×(Nat->Bool)×aH)
 |some c=>XG o T G H c (uW P H.length c T G H o.op)
 |none=>none
def ps0(P:Program)(N:Nat)(ops:List Oper)(o:Oper):Option (aJ×(Nat->Bool)×aH)->Option (aJ×(Nat->Bool)×aH)
 |some (T,G,H)=>ps1 P o T G H (fK ops T G N o)
 |none=>none
def psq(P:Program)(N:Nat)(ops:List Oper):List Oper->Option (aJ×(Nat->Bool)×aH)->Option (aJ×(Nat->Bool)×aH)
 | [],s=>s
 |o::l,s=>psq P N ops l (ps0 P N ops o s)
theorem pF:∀l,psq P N ops.toList l none=none
 | []=>rfl
 |o::l=>pF l
theorem PP:∀(l l2:List Oper) (k:Nat) (T:aJ) (G:Nat->Bool) (H:aH) {T':aJ} {G':Nat->Bool} {H':aH},l.all (λo=>dC N o.op)=true->
  psq P N ops.toList l (some (T,G,H))=some (T',G',H')->(DP P N ops Q (k+l.length) l2 (hZ (.tup []) T' G') H')->DP P N ops Q k (l++l2) (hZ (.tup []) T G) H
 | [],l2,k,T,G,H,T',G',H',_,hs,h=>by cases hs;exact h
 |o::l,l2,k,T,G,H,T',G',H',hok,hs,h=>by
  simp only[aMi,aMj]at hok;simp only[psq,ps0]at hs;cases hw:fK ops.toList T G N o with
  |none=>rw[hw]at hs;simp only[ps1,pF]at hs;cases hs
  |some c=>
   rw[hw]at hs;simp only[ps1]at hs;cases hg:uW P H.length c T G H o.op with
   |none=>rw[hg]at hs;simp only[XG,pF]at hs;cases hs
   |some r=>
    rw[hg]at hs;obtain⟨v,e⟩:=r;cases e with
    |some e=>simp only[XG,pF]at hs;cases hs
    |none=>
     simp only[XG]at hs;intro prev hp;refine vQ (fresh:=H.length) rfl hok.1 hw hg rfl (BE hp _ _) ?_;have:=PP l l2 (k+1) _ _ _ hok.2 hs (by rw[show k+1+l.length=k+(o::l).length by simp only[aM7];omega];exact h);exact this _ (hp.app _ _)
theorem IB(n:Nat){l:List Oper}{k:Nat}{T T':aJ}{G G':Nat->Bool}{H H':aH}(hs:psq P N ops.toList (l.take n) (some (T,G,H))=some (T',G',H'))
  (hok:(l.take n).all (λo=>dC N o.op)=true) (h:DP P N ops Q (k+(l.take n).length) (l.drop n) (hZ (.tup []) T' G') H'):DP P N ops Q k l (hZ (.tup []) T G) H:=by
 have:=PP (l.take n) (l.drop n) k T G H hok hs h
 rwa [List.take_append_drop]at this
theorem JP{l:List Oper}{k:Nat}{T T' F:aJ}{G G':Nat->Bool}{H H':aH}(hs:psq P N ops.toList l (some (T,G,H))=some (T',G',H'))
  (hok:l.all (λo=>dC N o.op)=true) (hf:fT T' G' F) (h:Q .normal F H'):DP P N ops Q k l (hZ (.tup []) T G) H:=by
 have:=PP l [] k T G H hok hs (Q:=Q) (λprev _=>wM ⟨F,λi=> ?_,h⟩)
 ·rwa [aN9]at this
 ·rcases hf.spec i with e| ⟨e1,e2⟩
  ·exact .inl e
  ·exact .inr (by simp only[hZ,e1,if_true];exact e2)
theorem RX{k:Nat}{o:Oper}{l:List Oper}{T:aJ}{G:Nat->Bool}{H:aH}{c:Bool}{f:FuncId}{args:List PV}{r:PV}(hcall:iC T o.op=some (f,args))(hc:fK ops.toList T G N o=some c)
  (hg:o.op.operands.toList.all (AQ c G)=true) (hok:dC N o.op=true) (hgo:bO P f=true) (hp:c=true->aR P f args H λr' H''=>r'=r/\H''=H)
  (h:DP P N ops Q (k+1) l (hZ (.tup []) (bT T o.dst r) (xR G o.dst c)) H):DP P N ops Q k (o::l) (hZ (.tup []) T G) H:=by
 intro prev hn;cases c
 ·rw[iD]at h;exact rM [] (λp hp=>.inr ⟨by rw[hn p hp];simp,zz⟩) hc (h _ (hn.app _ _))
 ·rw[jM]at h;have hcall':=FG (u:=.tup []) hcall hg;obtain⟨fo,xs,ts,pf,pc,h1,h2,h3⟩:=lF hcall';refine xU (eff:= []) (rd:=List.range H.length) h1 ((kQ hc).1 rfl _) hok h2 hgo h3 zz (λH' hH hl=> ?_) (λp hp=>.inr ⟨by rw[hn p hp];simp,zz⟩) (h _ (hn.app _ _));have he:H'=H:=List.ext_getElem? λi=>by
   by_cases hi:i<H.length
   ·exact hH i (aN6.2 hi)
   ·rw[aM2 z8,aM2 z8]
  subst he;exact hp rfl
end
def RY:Op->Bool
 | .call c=>match c.callee with
  | .builtin .append=>false
  |_=>true
 | .store .. =>false
 | .mapUpdate .. =>false
 |_=>true
theorem aBr{P:Program}{fresh:Nat}{c:Bool}{T:aJ}{G:Nat->Bool}{H:aH}{o:Op}{v:PV}{e:pK}(h:uW P fresh c T G H o=some (v,e))(hn:RY o=true):∀id∈nI T o,∃ob,H[id]? =some ob/\ob≠ .unborn:=by
 have hb:∀(x:Option (PV×pK)) (f:PV×pK->Option (PV×pK)) (q:Prop) [Decidable q],(if q then x.bind f else none)=some (v,e)->∃r,x=some r:=by
  intro x f q _ h
  split at h
  ·obtain⟨r,hr,_⟩:=oB h;exact⟨r,hr⟩
  ·cases h
 cases o with
 |load t x=>
  simp only[uW]at h;obtain⟨r,hr⟩:=hb _ _ _ h;intro id hid;simp only[nI]at hid
  split at hid
  ·rename_i id' off hx;simp only[aN8]at hid;subst hid;simp only[fN]at hr;obtain⟨i,hi,hr⟩:=oB hr;rw[hx]at hr;simp only[jK]at hr;cases hq:H[id]? with
   |none=>rw[hq]at hr;simp at hr
   |some ob=>
    cases ob with
    |unborn=>rw[hq]at hr;simp at hr
    |_=>exact⟨_,rfl,nofun⟩
  ·cases hid
 |lookup t x k ok=>
  simp only[uW]at h;obtain⟨r,hr⟩:=hb _ _ _ h;intro id hid;simp only[nI]at hid
  split at hid
  ·rename_i id' hx;simp only[aN8]at hid;subst hid;simp only[fN]at hr;rw[hx]at hr;obtain⟨q,hr,_⟩:=oB hr;unfold cD at hr
   split at hr
   ·rename_i a b n hq hk;cases hq
    split at hr
    ·rename_i hid;exact⟨_,hid,nofun⟩
    ·cases hr
   ·rename_i a _ _ _ hq hk;cases hq
    split at hr
    ·rename_i hid;exact⟨_,hid,nofun⟩
    ·cases hr
   ·cases hr
  ·cases hid
 |store t x y=>cases hn
 |mapUpdate t x y z=>cases hn
 |call cl=>
  intro id hid;simp only[nI]at hid;simp only[RY]at hn
  split at hid
  ·rename_i hq;rw[hq]at hn;cases hn
  ·cases hid
 |_=>intro id hid;simp[nI]at hid
def P1(n0 k0:Nat)(prev:gW):Prop:=∀p∈prev,p.1<k0/\p.2.2= []/\∀id∈p.2.1,id<n0
theorem P1.app{n0 k:Nat}{prev:gW}(h:P1 n0 k prev){rd:List Nat}(hr:∀id∈rd,id<n0):P1 n0 (k+1) (prev++ [(k,rd,[])]):=by
 intro p hp;rcases aN0.1 hp with hp|hp
 ·obtain⟨h1,h2⟩:=h p hp;exact⟨z8,h2⟩
 ·rw[aN8]at hp;subst hp;exact⟨Nat.lt_succ_self _,rfl,hr⟩
theorem P1.noeff{n0 k:Nat}{prev:gW}(h:P1 n0 k prev):GT prev:=λp hp=>(h p hp).2.1
def TA(n0 k0 m:Nat)(eids:List Nat):Bool:=(eids.all λid=>decide (n0<=id))||(m%2^k0==2^k0-1)
theorem aCc{n0 k0 m:Nat}{prev:gW}{rd eids:List Nat}(h:P1 n0 k0 prev)(hm:TA n0 k0 m eids=true):pM m prev rd eids=true:=by
 unfold pM;rw[aNz];intro p hp;obtain⟨h1,h2,h3⟩:=h p hp;unfold TA at hm;rw[Bool.or_eq_true]at hm⊢;rcases hm with hm|hm
 ·right;rw[h2];simp only[List.all_nil,Bool.true_and];rw[aNz]at hm⊢;intro id hid;have:=of_decide_eq_true (hm id hid);cases hc:p.2.1.contains id with
  |false=>rfl
  |true=>
   have:=h3 id (by simpa using hc);omega
 ·left;have e2:(m/2^p.1%2==1)=m.testBit p.1:=by rw[Nat.testBit_eq_decide_div_mod_eq];rfl
  rw[e2];have hm:m%2^k0=2^k0-1:=by simpa using hm
  have:=Nat.testBit_mod_two_pow m k0 p.1;rw[hm,Nat.testBit_two_pow_sub_one]at this;simp only[h1,decide_true,Bool.true_and]at this;exact this.symm
theorem XP{m:Nat}{p1 p2:gW}{rd eids:List Nat}(h1:pM m p1 rd eids=true)(h2:pM m p2 rd eids=true):pM m (p1++p2) rd eids=true:=by
 unfold pM at h1 h2⊢;rw[List.all_append,h1,h2];rfl
section
variable{P:Program}{N nb:Nat}{ops:Array Oper}{Q:cT}
def X1(P:Program)(N:Nat)(ops:Array Oper)(Q:cT)(n0 k:Nat)(l:List Oper)(T:aJ)(H:aH):Prop:=∀prev,P1 n0 k prev->mI P N ops (λe T1 H1=>∃T2,(∀i,T2 i= .junk\/T2 i=T1 i)/\Q e T2 H1) k l prev T H
theorem aGn{H:aH}{m id:Nat}{ob:AObj}(h:(H++aNb m AObj.unborn)[id]? =some ob)(hu:ob≠ .unborn):id<H.length:=by
 rcases aMo id H.length with hl|hl
 ·exact hl
 ·rw[aM1 hl,List.getElem?_replicate]at h
  split at h
  ·cases h;exact absurd rfl hu
  ·cases h
theorem iU{id:Nat}{T:aJ}{H:aH}(m:Nat){n0:Nat}(hn:H.length=n0)(hok:kT P ops.toList=true)(h:X1 P N ops Q n0 0 ops.toList (hZ (.tup []) T BX) (H++aNb m .unborn)):fO P N nb (.region id ops true) Q T H:=by
 refine FZ m hok ?_;exact h [] (by intro p hp;cases hp)
theorem YN{H:aH}{n0:Nat}(hu:∀id ob,H[id]? =some ob->ob≠ .unborn->id<n0):∀(l l2:List Oper) (k:Nat) (T:aJ) (G:Nat->Bool) {T':aJ} {G':Nat->Bool} {H':aH},l.all (λo=>dC N o.op)=true->l.all (λo=>RY o.op)=true->
  psq P N ops.toList l (some (T,G,H))=some (T',G',H')->(H'=H->X1 P N ops Q n0 (k+l.length) l2 (hZ (.tup []) T' G') H)->X1 P N ops Q n0 k (l++l2) (hZ (.tup []) T G) H
 | [],l2,k,T,G,T',G',H',_,_,hs,h=>by cases hs;exact h rfl
 |o::l,l2,k,T,G,T',G',H',hok,hna,hs,h=>by
  simp only[aMi,aMj]at hok hna;simp only[psq,ps0]at hs;cases hw:fK ops.toList T G N o with
  |none=>rw[hw]at hs;simp only[ps1,pF]at hs;cases hs
  |some c=>
   rw[hw]at hs;simp only[ps1]at hs;cases hg:uW P H.length c T G H o.op with
   |none=>rw[hg]at hs;simp only[XG,pF]at hs;cases hs
   |some r=>
    rw[hg]at hs;obtain⟨v,e⟩:=r;cases e with
    |some e=>simp only[XG,pF]at hs;cases hs
    |none=>
     simp only[XG]at hs;intro prev hp;refine vQ (fresh:=H.length) rfl hok.1 hw hg rfl (BE hp.noeff _ _) ?_;have:=YN hu l l2 (k+1) _ _ hok.2 hna.2 hs (λe=>by rw[show k+1+l.length=k+(o::l).length by simp only[aM7];omega];exact h e);refine this _ (hp.app λid hid=> ?_);simp only[dY,aN9]at hid;obtain⟨cs,hcs,hne⟩:=aBr hg hna.1 id hid;exact hu id cs hcs hne
theorem eP(n:Nat){l:List Oper}{n0 k m:Nat}{T T':aJ}{G G':Nat->Bool}{B H':aH}(hl:B.length=n0)(hs:psq P N ops.toList (l.take n) (some (T,G,B++aNb m .unborn))=some (T',G',H'))
  (hok:(l.take n).all (λo=>dC N o.op)=true) (hna:(l.take n).all (λo=>RY o.op)=true) (hn:(l.take n).length=n) (h:X1 P N ops Q n0 (k+n) (l.drop n) (hZ (.tup []) T' G') (B++aNb m .unborn)):X1 P N ops Q n0 k l (hZ (.tup []) T G) (B++aNb m .unborn):=by
 have:=YN (λid cs h hu=>hl▸aGn h hu) (l.take n) (l.drop n) k T G hok hna hs (λ_=>by rw[hn];exact h)
 rwa [List.take_append_drop]at this
theorem wN{n0 k m:Nat}{o:Oper}{l:List Oper}{T:aJ}{G:Nat->Bool}{B:aH}{c:Bool}{f:FuncId}{args:List PV}{r:PV}(hl:B.length=n0)(hcall:iC T o.op=some (f,args))(hc:fK ops.toList T G N o=some c)
  (hg:o.op.operands.toList.all (AQ c G)=true) (hok:dC N o.op=true) (hgo:bO P f=true) (hp:c=true->∀L,aR P f args (B++L) λr' H''=>r'=r/\H''=B++L)
  (h:X1 P N ops Q n0 (k+1) l (hZ (.tup []) (bT T o.dst r) (xR G o.dst c)) (B++aNb m .unborn)):X1 P N ops Q n0 k (o::l) (hZ (.tup []) T G) (B++aNb m .unborn):=by
 intro prev hn;cases c
 ·rw[iD]at h;exact rM [] (λp hp=>.inr ⟨by rw[hn.noeff p hp];simp,zz⟩) hc (h _ (hn.app zz))
 ·rw[jM]at h;have hcall':=FG (u:=.tup []) hcall hg;obtain⟨fo,xs,ts,pf,pc,h1,h2,h3⟩:=lF hcall';refine xU (eff:= []) (rd:=List.range n0) h1 ((kQ hc).1 rfl _) hok h2 hgo h3 zz (λH' hH hlen=> ?_) (λp hp=>.inr ⟨by rw[hn.noeff p hp];simp,zz⟩) (h _ (hn.app (λid hid=>aN6.1 hid)));obtain⟨L,rfl⟩:∃L,H'=B++L:=by
   refine⟨H'.drop B.length, ?_⟩;have hle:B.length<=H'.length:=by rw[hlen];simp
   refine(List.take_append_drop B.length H').symm.trans ?_;congr 1;refine List.ext_getElem? λi=> ?_
   by_cases hi:i<B.length
   ·rw[List.getElem?_take_of_lt hi,hH i (aN6.2 z8),aM0 hi]
   ·rw[aM2 (by simp;omega),aM2 z8]
  exact hp rfl L
def X2(P:Program)(N:Nat)(ops:Array Oper)(Q:cT)(n0 k0 k:Nat)(l:List Oper)(prev2:gW)(T:aJ)(H:aH):Prop:=∀prev1,P1 n0 k0 prev1->mI P N ops (λe T1 H1=>∃T2,(∀i,T2 i= .junk\/T2 i=T1 i)/\Q e T2 H1) k l (prev1++prev2) T H
theorem mR{n0 k:Nat}{l:List Oper}{T:aJ}{H H1:aH}(hH:H=H1)(h:X2 P N ops Q n0 k k l [] T H1):X1 P N ops Q n0 k l T H:=by
 subst hH;intro prev hp;have:=h prev hp
 rwa [aN9]at this
def xd4(o:Oper)(k fresh:Nat)(prev:gW)(T:aJ)(G:Nat->Bool)(H:aH)(c:Bool)(r:PV×pK)(rd eids:List Nat):Bool->Bool->Bool->Option OC
 |true,true,true=>some (k+1,iV fresh r.2,prev++ [(k,rd,eids)],bT T o.dst r.1,xR G o.dst c,nC r.2 H)
 |_,_,_=>none
def xd2(n0 k0:Nat)(bm:List Nat)(o:Oper)(k fresh:Nat)(prev:gW)(T:aJ)(G:Nat->Bool)(H:aH)(c:Bool):Option (PV×pK)->Option OC
 |some r=>xd4 o k fresh prev T G H c r (nI T o.op++dY r.2) (dY r.2) (iK fresh r.2 H) (pM (bm.getD k 0) prev (nI T o.op++dY r.2) (dY r.2)) (TA n0 k0 (bm.getD k 0) (dY r.2))
 |none=>none
def xd1(P:Program)(n0 k0:Nat)(bm:List Nat)(o:Oper)(k fresh:Nat)(prev:gW)(T:aJ)(G:Nat->Bool)(H:aH):Option Bool->Option OC
 |some c=>xd2 n0 k0 bm o k fresh prev T G H c (uW P fresh c T G H o.op)
 |none=>none
def xd0(P:Program)(N:Nat)(ops:List Oper)(n0 k0:Nat)(bm:List Nat)(o:Oper):Option OC->Option OC
 |some (k,fresh,prev,T,G,H)=>xd1 P n0 k0 bm o k fresh prev T G H (fK ops T G N o)
 |none=>none
def xq(P:Program)(N:Nat)(ops:List Oper)(n0 k0:Nat)(bm:List Nat):List Oper->Option OC->Option OC
 | [],s=>s
 |o::l,s=>xq P N ops n0 k0 bm l (xd0 P N ops n0 k0 bm o s)
theorem uP{n0 k0:Nat}{bm:List Nat}:∀l,xq P N ops.toList n0 k0 bm l none=none
 | []=>rfl
 |o::l=>uP l
theorem ZL{n0 k0:Nat}{bm:List Nat}(hbm:cH ops.toList=bm):∀(l l2:List Oper) (k fresh:Nat) (prev:gW) (T:aJ) (G:Nat->Bool) (H:aH) {k' fresh':Nat} {prev':gW} {T':aJ} {G':Nat->Bool} {H':aH},l.all (λo=>dC N o.op)=true->
  xq P N ops.toList n0 k0 bm l (some (k,fresh,prev,T,G,H))=some (k',fresh',prev',T',G',H')->X2 P N ops Q n0 k0 (k+l.length) l2 prev' (hZ (.tup []) T' G') H'->X2 P N ops Q n0 k0 k (l++l2) prev (hZ (.tup []) T G) H
 | [],l2,k,fresh,prev,T,G,H,k',fresh',prev',T',G',H',_,hs,h=>by cases hs;exact h
 |o::l,l2,k,fresh,prev,T,G,H,k',fresh',prev',T',G',H',hok,hs,h=>by
  simp only[aMi,aMj]at hok;simp only[xq,xd0]at hs;cases hw:fK ops.toList T G N o with
  |none=>rw[hw]at hs;simp only[xd1,uP]at hs;cases hs
  |some c=>
   rw[hw]at hs;simp only[xd1]at hs;cases hg:uW P fresh c T G H o.op with
   |none=>rw[hg]at hs;simp only[xd2,uP]at hs;cases hs
   |some r=>
    rw[hg]at hs;simp only[xd2]at hs;cases h1:iK fresh r.2 H with
    |false=>rw[h1]at hs;simp only[xd4,uP]at hs;cases hs
    |true=>
     cases h2:pM (bm.getD k 0) prev (nI T o.op++dY r.2) (dY r.2)with
     |false=>rw[h1,h2]at hs;simp only[xd4,uP]at hs;cases hs
     |true=>
      cases h3:TA n0 k0 (bm.getD k 0) (dY r.2)with
      |false=>rw[h1,h2,h3]at hs;simp only[xd4,uP]at hs;cases hs
      |true=>
       rw[h1,h2,h3]at hs;simp only[xd4]at hs;intro prev1 hp;refine vQ hbm hok.1 hw hg h1 (XP (aCc hp h3) h2) ?_;have:=ZL hbm l l2 (k+1) _ _ _ _ _ hok.2 hs (by rw[show k+1+l.length=k+(o::l).length by simp only[aM7];omega];exact h) prev1 hp
       rwa [<-aOe]at this
theorem iO{l:List Oper}{n0 k0 k k' fresh fresh':Nat}{bm:List Nat}{prev prev':gW}{T T' F:aJ}{G G':Nat->Bool}{H H':aH}(hbm:cH ops.toList=bm)(hs:xq P N ops.toList n0 k0 bm l (some (k,fresh,prev,T,G,H))=some (k',fresh',prev',T',G',H'))
  (hok:l.all (λo=>dC N o.op)=true) (hf:fT T' G' F) (h:Q .normal F H'):X2 P N ops Q n0 k0 k l prev (hZ (.tup []) T G) H:=by
 have:=ZL hbm l [] k fresh prev T G H hok hs (Q:=Q) (λprev1 _=>wM ⟨F,λi=> ?_,h⟩)
 ·rwa [aN9]at this
 ·rcases hf.spec i with e| ⟨e1,e2⟩
  ·exact .inl e
  ·exact .inr (by simp only[hZ,e1,if_true];exact e2)
end
theorem AO(m:Nat)(rd eids:List Nat):pM m [] rd eids=true:=by unfold pM;exact List.all_nil
theorem xC(m i:Nat)(r e:List Nat)(prev:gW)(rd eids:List Nat):pM m ((i,r,e)::prev) rd eids=(((m/2^i%2==1)||((e.all λid=> !rd.contains id)&&eids.all λid=> !r.contains id))&&pM m prev rd eids):=by
 unfold pM;rw[aMi]
theorem jA:type_of%(aI @zO.eq_1 (aI @zO.eq_2 (aI @as0.eq_1 (aI @as0.eq_2 (aI @YK.eq_1 (aI @YK.eq_2 (aI @YK.eq_3 (aI @as2.eq_1 (aI @as2.eq_2 (@aZ.eq_1)))))))))):=(aI @zO.eq_1 (aI @zO.eq_2 (aI @as0.eq_1 (aI @as0.eq_2 (aI @YK.eq_1 (aI @YK.eq_2 (aI @YK.eq_3 (aI @as2.eq_1 (aI @as2.eq_2 (@aZ.eq_1))))))))))
theorem jG:type_of%(aI @PT.eq_1 (aI @PT.eq_2 (aI @gs0.eq_1 (aI @gs0.eq_2 (aI @NN.eq_1 (aI @NN.eq_2 (aI @OM.eq_1 (aI @OM.eq_2 (aI @fK.eq_1 (aI @uW.eq_1 (aI @uW.eq_2 (aI @Op.operands.eq_1 (aI @Op.operands.eq_2 (aI @Op.operands.eq_3 (aI @Op.operands.eq_4 (aI @Op.operands.eq_5 (aI @Op.operands.eq_6 (aI @Op.operands.eq_7 (aI @Op.operands.eq_8 (aI @Op.operands.eq_9 (aI @Op.operands.eq_10 (aI @Op.operands.eq_11 (aI @Op.operands.eq_12 (aI @Op.operands.eq_13 (aI @Op.operands.eq_14 (aI @Op.operands.eq_15 (aI @Op.operands.eq_16 (aI @Op.operands.eq_17 (aI @Op.operands.eq_18 (aI @Op.operands.eq_19 (aI @Op.operands.eq_20 (aI @Op.operands.eq_21 (aI @Op.operands.eq_22 (aI @Op.operands.eq_23 (aI @Op.operands.eq_24 (aI @Op.operands.eq_25 (aI @Op.operands.eq_26 (aI @Op.operands.eq_27 (aI @Op.operands.eq_28 (aI @Op.operands.eq_29 (aI @Op.operands.eq_30 (aI @Op.operands.eq_31 (aI @Op.operands.eq_32 (aI @Op.operands.eq_33 (aI @Op.operands.eq_34 (aI @Op.operands.eq_35 (aI @Op.operands.eq_36 (aI @Op.operands.eq_37 (aI @Op.operands.eq_38 (aI @Op.operands.eq_39 (aI @Op.operands.eq_40 (aI @Op.operands.eq_41 (aI @Op.operands.eq_42 (aI @Op.operands.eq_43 (aI @Call.operands.eq_1 (aI @SG (@Array.toList_append.{0}))))))))))))))))))))))))))))))))))))))))))))))))))))))))):=(aI @PT.eq_1 (aI @PT.eq_2 (aI @gs0.eq_1 (aI @gs0.eq_2 (aI @NN.eq_1 (aI @NN.eq_2 (aI @OM.eq_1 (aI @OM.eq_2 (aI @fK.eq_1 (aI @uW.eq_1 (aI @uW.eq_2 (aI @Op.operands.eq_1 (aI @Op.operands.eq_2 (aI @Op.operands.eq_3 (aI @Op.operands.eq_4 (aI @Op.operands.eq_5 (aI @Op.operands.eq_6 (aI @Op.operands.eq_7 (aI @Op.operands.eq_8 (aI @Op.operands.eq_9 (aI @Op.operands.eq_10 (aI @Op.operands.eq_11 (aI @Op.operands.eq_12 (aI @Op.operands.eq_13 (aI @Op.operands.eq_14 (aI @Op.operands.eq_15 (aI @Op.operands.eq_16 (aI @Op.operands.eq_17 (aI @Op.operands.eq_18 (aI @Op.operands.eq_19 (aI @Op.operands.eq_20 (aI @Op.operands.eq_21 (aI @Op.operands.eq_22 (aI @Op.operands.eq_23 (aI @Op.operands.eq_24 (aI @Op.operands.eq_25 (aI @Op.operands.eq_26 (aI @Op.operands.eq_27 (aI @Op.operands.eq_28 (aI @Op.operands.eq_29 (aI @Op.operands.eq_30 (aI @Op.operands.eq_31 (aI @Op.operands.eq_32 (aI @Op.operands.eq_33 (aI @Op.operands.eq_34 (aI @Op.operands.eq_35 (aI @Op.operands.eq_36 (aI @Op.operands.eq_37 (aI @Op.operands.eq_38 (aI @Op.operands.eq_39 (aI @Op.operands.eq_40 (aI @Op.operands.eq_41 (aI @Op.operands.eq_42 (aI @Op.operands.eq_43 (aI @Call.operands.eq_1 (aI @SG (@Array.toList_append.{0})))))))))))))))))))))))))))))))))))))))))))))))))))))))))
theorem jP:type_of%(aI @psq.eq_1 (aI @psq.eq_2 (aI @ps0.eq_1 (aI @ps0.eq_2 (aI @ps1.eq_1 (aI @ps1.eq_2 (aI @XG.eq_1 (aI @XG.eq_2 (aI @fK.eq_1 (aI @uW.eq_1 (aI @uW.eq_2 (aI @Op.operands.eq_1 (aI @Op.operands.eq_2 (aI @Op.operands.eq_3 (aI @Op.operands.eq_4 (aI @Op.operands.eq_5 (aI @Op.operands.eq_6 (aI @Op.operands.eq_7 (aI @Op.operands.eq_8 (aI @Op.operands.eq_9 (aI @Op.operands.eq_10 (aI @Op.operands.eq_11 (aI @Op.operands.eq_12 (aI @Op.operands.eq_13 (aI @Op.operands.eq_14 (aI @Op.operands.eq_15 (aI @Op.operands.eq_16 (aI @Op.operands.eq_17 (aI @Op.operands.eq_18 (aI @Op.operands.eq_19 (aI @Op.operands.eq_20 (aI @Op.operands.eq_21 (aI @Op.operands.eq_22 (aI @Op.operands.eq_23 (aI @Op.operands.eq_24 (aI @Op.operands.eq_25 (aI @Op.operands.eq_26 (aI @Op.operands.eq_27 (aI @Op.operands.eq_28 (aI @Op.operands.eq_29 (aI @Op.operands.eq_30 (aI @Op.operands.eq_31 (aI @Op.operands.eq_32 (aI @Op.operands.eq_33 (aI @Op.operands.eq_34 (aI @Op.operands.eq_35 (aI @Op.operands.eq_36 (aI @Op.operands.eq_37 (aI @Op.operands.eq_38 (aI @Op.operands.eq_39 (aI @Op.operands.eq_40 (aI @Op.operands.eq_41 (aI @Op.operands.eq_42 (aI @Op.operands.eq_43 (aI @Call.operands.eq_1 (aI @SG (@Array.toList_append.{0}))))))))))))))))))))))))))))))))))))))))))))))))))))))))):=(aI @psq.eq_1 (aI @psq.eq_2 (aI @ps0.eq_1 (aI @ps0.eq_2 (aI @ps1.eq_1 (aI @ps1.eq_2 (aI @XG.eq_1 (aI @XG.eq_2 (aI @fK.eq_1 (aI @uW.eq_1 (aI @uW.eq_2 (aI @Op.operands.eq_1 (aI @Op.operands.eq_2 (aI @Op.operands.eq_3 (aI @Op.operands.eq_4 (aI @Op.operands.eq_5 (aI @Op.operands.eq_6 (aI @Op.operands.eq_7 (aI @Op.operands.eq_8 (aI @Op.operands.eq_9 (aI @Op.operands.eq_10 (aI @Op.operands.eq_11 (aI @Op.operands.eq_12 (aI @Op.operands.eq_13 (aI @Op.operands.eq_14 (aI @Op.operands.eq_15 (aI @Op.operands.eq_16 (aI @Op.operands.eq_17 (aI @Op.operands.eq_18 (aI @Op.operands.eq_19 (aI @Op.operands.eq_20 (aI @Op.operands.eq_21 (aI @Op.operands.eq_22 (aI @Op.operands.eq_23 (aI @Op.operands.eq_24 (aI @Op.operands.eq_25 (aI @Op.operands.eq_26 (aI @Op.operands.eq_27 (aI @Op.operands.eq_28 (aI @Op.operands.eq_29 (aI @Op.operands.eq_30 (aI @Op.operands.eq_31 (aI @Op.operands.eq_32 (aI @Op.operands.eq_33 (aI @Op.operands.eq_34 (aI @Op.operands.eq_35 (aI @Op.operands.eq_36 (aI @Op.operands.eq_37 (aI @Op.operands.eq_38 (aI @Op.operands.eq_39 (aI @Op.operands.eq_40 (aI @Op.operands.eq_41 (aI @Op.operands.eq_42 (aI @Op.operands.eq_43 (aI @Call.operands.eq_1 (aI @SG (@Array.toList_append.{0})))))))))))))))))))))))))))))))))))))))))))))))))))))))))
theorem jD:type_of%(aI @dsq.eq_1 (aI @dsq.eq_2 (aI @ds0.eq_1 (aI @ds0.eq_2 (aI @ds1.eq_1 (aI @ds1.eq_2 (aI @ds1.eq_3 (aI @ds2.eq_1 (aI @ds2.eq_2 (aI @ds3.eq_1 (aI @ds3.eq_2 (aI @aZ.eq_1 (aI (aI @AO @xC) (aI @dY.eq_1 (aI @dY.eq_2 (aI @nC.eq_1 (aI @nC.eq_2 (aI @iV.eq_1 (aI @iV.eq_2 (aI @nI.eq_1 (aI @nI.eq_2 (aI @nI.eq_3 (aI @nI.eq_4 (aI @iK.eq_1 (aI @iK.eq_2 (aI @pH.eq_1 (aI @nI.eq_5 (@nI.eq_6)))))))))))))))))))))))))))):=(aI @dsq.eq_1 (aI @dsq.eq_2 (aI @ds0.eq_1 (aI @ds0.eq_2 (aI @ds1.eq_1 (aI @ds1.eq_2 (aI @ds1.eq_3 (aI @ds2.eq_1 (aI @ds2.eq_2 (aI @ds3.eq_1 (aI @ds3.eq_2 (aI @aZ.eq_1 (aI (aI @AO @xC) (aI @dY.eq_1 (aI @dY.eq_2 (aI @nC.eq_1 (aI @nC.eq_2 (aI @iV.eq_1 (aI @iV.eq_2 (aI @nI.eq_1 (aI @nI.eq_2 (aI @nI.eq_3 (aI @nI.eq_4 (aI @iK.eq_1 (aI @iK.eq_2 (aI @pH.eq_1 (aI @nI.eq_5 (@nI.eq_6))))))))))))))))))))))))))))
theorem jX:type_of%(aI @xq.eq_1 (aI @xq.eq_2 (aI @xd0.eq_1 (aI @xd0.eq_2 (aI @xd1.eq_1 (aI @xd1.eq_2 (aI @xd2.eq_1 (aI @xd2.eq_2 (aI @xd4.eq_1 (aI @xd4.eq_2 (aI @TA.eq_1 (aI @fK.eq_1 (aI @uW.eq_1 (aI @uW.eq_2 (aI @Op.operands.eq_1 (aI @Op.operands.eq_2 (aI @Op.operands.eq_3 (aI @Op.operands.eq_4 (aI @Op.operands.eq_5 (aI @Op.operands.eq_6 (aI @Op.operands.eq_7 (aI @Op.operands.eq_8 (aI @Op.operands.eq_9 (aI @Op.operands.eq_10 (aI @Op.operands.eq_11 (aI @Op.operands.eq_12 (aI @Op.operands.eq_13 (aI @Op.operands.eq_14 (aI @Op.operands.eq_15 (aI @Op.operands.eq_16 (aI @Op.operands.eq_17 (aI @Op.operands.eq_18 (aI @Op.operands.eq_19 (aI @Op.operands.eq_20 (aI @Op.operands.eq_21 (aI @Op.operands.eq_22 (aI @Op.operands.eq_23 (aI @Op.operands.eq_24 (aI @Op.operands.eq_25 (aI @Op.operands.eq_26 (aI @Op.operands.eq_27 (aI @Op.operands.eq_28 (aI @Op.operands.eq_29 (aI @Op.operands.eq_30 (aI @Op.operands.eq_31 (aI @Op.operands.eq_32 (aI @Op.operands.eq_33 (aI @Op.operands.eq_34 (aI @Op.operands.eq_35 (aI @Op.operands.eq_36 (aI @Op.operands.eq_37 (aI @Op.operands.eq_38 (aI @Op.operands.eq_39 (aI @Op.operands.eq_40 (aI @Op.operands.eq_41 (aI @Op.operands.eq_42 (aI @Op.operands.eq_43 (aI @Call.operands.eq_1 (aI @SG (aI @Array.toList_append.{0} (aI (aI @AO @xC) (aI @dY.eq_1 (aI @dY.eq_2 (aI @nC.eq_1 (aI @nC.eq_2 (aI @iV.eq_1 (aI @iV.eq_2 (aI @nI.eq_1 (aI @nI.eq_2 (aI @nI.eq_3 (aI @nI.eq_4 (aI @iK.eq_1 (aI @iK.eq_2 (aI @pH.eq_1 (aI @aMq (aI @decide_true (aI @Bool.true_or (aI @Bool.or_true (aI @aMi.{0} (aI @List.all_nil.{0} (aI @Bool.and_true (aI @nI.eq_5 (@nI.eq_6))))))))))))))))))))))))))))))))))))))))))))))))))))))))))))))))))))))))))))))))))):=(aI @xq.eq_1 (aI @xq.eq_2 (aI @xd0.eq_1 (aI @xd0.eq_2 (aI @xd1.eq_1 (aI @xd1.eq_2 (aI @xd2.eq_1 (aI @xd2.eq_2 (aI @xd4.eq_1 (aI @xd4.eq_2 (aI @TA.eq_1 (aI @fK.eq_1 (aI @uW.eq_1 (aI @uW.eq_2 (aI @Op.operands.eq_1 (aI @Op.operands.eq_2 (aI @Op.operands.eq_3 (aI @Op.operands.eq_4 (aI @Op.operands.eq_5 (aI @Op.operands.eq_6 (aI @Op.operands.eq_7 (aI @Op.operands.eq_8 (aI @Op.operands.eq_9 (aI @Op.operands.eq_10 (aI @Op.operands.eq_11 (aI @Op.operands.eq_12 (aI @Op.operands.eq_13 (aI @Op.operands.eq_14 (aI @Op.operands.eq_15 (aI @Op.operands.eq_16 (aI @Op.operands.eq_17 (aI @Op.operands.eq_18 (aI @Op.operands.eq_19 (aI @Op.operands.eq_20 (aI @Op.operands.eq_21 (aI @Op.operands.eq_22 (aI @Op.operands.eq_23 (aI @Op.operands.eq_24 (aI @Op.operands.eq_25 (aI @Op.operands.eq_26 (aI @Op.operands.eq_27 (aI @Op.operands.eq_28 (aI @Op.operands.eq_29 (aI @Op.operands.eq_30 (aI @Op.operands.eq_31 (aI @Op.operands.eq_32 (aI @Op.operands.eq_33 (aI @Op.operands.eq_34 (aI @Op.operands.eq_35 (aI @Op.operands.eq_36 (aI @Op.operands.eq_37 (aI @Op.operands.eq_38 (aI @Op.operands.eq_39 (aI @Op.operands.eq_40 (aI @Op.operands.eq_41 (aI @Op.operands.eq_42 (aI @Op.operands.eq_43 (aI @Call.operands.eq_1 (aI @SG (aI @Array.toList_append.{0} (aI (aI @AO @xC) (aI @dY.eq_1 (aI @dY.eq_2 (aI @nC.eq_1 (aI @nC.eq_2 (aI @iV.eq_1 (aI @iV.eq_2 (aI @nI.eq_1 (aI @nI.eq_2 (aI @nI.eq_3 (aI @nI.eq_4 (aI @iK.eq_1 (aI @iK.eq_2 (aI @pH.eq_1 (aI @aMq (aI @decide_true (aI @Bool.true_or (aI @Bool.or_true (aI @aMi.{0} (aI @List.all_nil.{0} (aI @Bool.and_true (aI @nI.eq_5 (@nI.eq_6)))))))))))))))))))))))))))))))))))))))))))))))))))))))))))))))))))))))))))))))))))
theorem jC:type_of%(aI @vI.eq_def (aI @iC.eq_1 (aI @iC.eq_2 (@aZ.eq_1)))):=(aI @vI.eq_def (aI @iC.eq_1 (aI @iC.eq_2 (@aZ.eq_1))))
theorem jE:type_of%(aI @vI.eq_def (aI @iC.eq_1 (aI @iC.eq_2 (aI @fK.eq_1 (aI @Op.operands.eq_1 (aI @Op.operands.eq_2 (aI @Op.operands.eq_3 (aI @Op.operands.eq_4 (aI @Op.operands.eq_5 (aI @Op.operands.eq_6 (aI @Op.operands.eq_7 (aI @Op.operands.eq_8 (aI @Op.operands.eq_9 (aI @Op.operands.eq_10 (aI @Op.operands.eq_11 (aI @Op.operands.eq_12 (aI @Op.operands.eq_13 (aI @Op.operands.eq_14 (aI @Op.operands.eq_15 (aI @Op.operands.eq_16 (aI @Op.operands.eq_17 (aI @Op.operands.eq_18 (aI @Op.operands.eq_19 (aI @Op.operands.eq_20 (aI @Op.operands.eq_21 (aI @Op.operands.eq_22 (aI @Op.operands.eq_23 (aI @Op.operands.eq_24 (aI @Op.operands.eq_25 (aI @Op.operands.eq_26 (aI @Op.operands.eq_27 (aI @Op.operands.eq_28 (aI @Op.operands.eq_29 (aI @Op.operands.eq_30 (aI @Op.operands.eq_31 (aI @Op.operands.eq_32 (aI @Op.operands.eq_33 (aI @Op.operands.eq_34 (aI @Op.operands.eq_35 (aI @Op.operands.eq_36 (aI @Op.operands.eq_37 (aI @Op.operands.eq_38 (aI @Op.operands.eq_39 (aI @Op.operands.eq_40 (aI @Op.operands.eq_41 (aI @Op.operands.eq_42 (aI @Op.operands.eq_43 (aI @Call.operands.eq_1 (aI @SG (@Array.toList_append.{0})))))))))))))))))))))))))))))))))))))))))))))))))):=(aI @vI.eq_def (aI @iC.eq_1 (aI @iC.eq_2 (aI @fK.eq_1 (aI @Op.operands.eq_1 (aI @Op.operands.eq_2 (aI @Op.operands.eq_3 (aI @Op.operands.eq_4 (aI @Op.operands.eq_5 (aI @Op.operands.eq_6 (aI @Op.operands.eq_7 (aI @Op.operands.eq_8 (aI @Op.operands.eq_9 (aI @Op.operands.eq_10 (aI @Op.operands.eq_11 (aI @Op.operands.eq_12 (aI @Op.operands.eq_13 (aI @Op.operands.eq_14 (aI @Op.operands.eq_15 (aI @Op.operands.eq_16 (aI @Op.operands.eq_17 (aI @Op.operands.eq_18 (aI @Op.operands.eq_19 (aI @Op.operands.eq_20 (aI @Op.operands.eq_21 (aI @Op.operands.eq_22 (aI @Op.operands.eq_23 (aI @Op.operands.eq_24 (aI @Op.operands.eq_25 (aI @Op.operands.eq_26 (aI @Op.operands.eq_27 (aI @Op.operands.eq_28 (aI @Op.operands.eq_29 (aI @Op.operands.eq_30 (aI @Op.operands.eq_31 (aI @Op.operands.eq_32 (aI @Op.operands.eq_33 (aI @Op.operands.eq_34 (aI @Op.operands.eq_35 (aI @Op.operands.eq_36 (aI @Op.operands.eq_37 (aI @Op.operands.eq_38 (aI @Op.operands.eq_39 (aI @Op.operands.eq_40 (aI @Op.operands.eq_41 (aI @Op.operands.eq_42 (aI @Op.operands.eq_43 (aI @Call.operands.eq_1 (aI @SG (@Array.toList_append.{0}))))))))))))))))))))))))))))))))))))))))))))))))))
theorem jO:type_of%(aI @fN.eq_1 (aI @fN.eq_2 (aI @fN.eq_3 (aI @fN.eq_4 (aI @fN.eq_5 (aI @fN.eq_6 (aI @fN.eq_7 (aI @fN.eq_8 (aI @fN.eq_9 (aI @fN.eq_10 (aI @fN.eq_11 (aI @fN.eq_12 (aI @fN.eq_13 (aI @fN.eq_14 (aI @fN.eq_15 (aI @fN.eq_16 (aI @fN.eq_17 (aI @fN.eq_18 (aI @fN.eq_19 (aI @fN.eq_20 (aI @fN.eq_21 (aI @fN.eq_22 (aI @fN.eq_23 (aI @jK.eq_1 (aI @jK.eq_2 (aI @jK.eq_3 (aI @pZ.eq_1 (aI @nS.eq_1 (aI @nS.eq_2 (aI @dR.eq_1 (aI @dR.eq_2 (aI @tF.eq_1 (aI @XA.eq_def (aI @mW.eq_1 (aI @mW.eq_2 (aI @mW.eq_3 (aI @zY.eq_1 (aI @zY.eq_2 (aI @eC.eq_1 (aI @eC.eq_2 (aI @eC.eq_3 (aI @eC.eq_4 (aI @eC.eq_5 (aI @eC.eq_6 (aI @eC.eq_7 (aI @eC.eq_8 (aI @eC.eq_9 (aI @eC.eq_10 (aI @eC.eq_11 (aI @eC.eq_12 (aI @eC.eq_13 (aI @eC.eq_14 (aI @eC.eq_15 (aI @eC.eq_16 (aI @eC.eq_17 (aI @eC.eq_18 (aI @eC.eq_19 (aI @eC.eq_20 (aI @eC.eq_21 (aI @eC.eq_22 (aI @eC.eq_23 (aI @eC.eq_24 (aI @eC.eq_25 (aI @eC.eq_26 (aI @eC.eq_27 (aI @eC.eq_28 (aI @eC.eq_29 (aI @eC.eq_30 (aI @aun.eq_1 (aI @aun.eq_2 (aI @aun.eq_3 (aI @dA.eq_1 (aI @dA.eq_2 (aI @dA.eq_3 (aI @dA.eq_4 (aI @dA.eq_5 (aI @oG.eq_1 (aI @oG.eq_2 (aI @mE.eq_1 (aI @mE.eq_2 (aI @lP.eq_1 (aI @lP.eq_2 (aI @lP.eq_3 (aI @lP.eq_4 (aI @lP.eq_5 (aI @lU.eq_1 (aI @lU.eq_2 (aI @zU.eq_1 (aI @zU.eq_2 (aI @mJ.eq_1 (aI @mJ.eq_2 (aI @fN.eq_24 (aI @fN.eq_25 (aI @fN.eq_26 (aI @cD.eq_1 (aI @dG.eq_1 (aI @oD.eq_1 (aI @oD.eq_2 (@aNv.{0}))))))))))))))))))))))))))))))))))))))))))))))))))))))))))))))))))))))))))))))))))))))))))))))))))):=(aI @fN.eq_1 (aI @fN.eq_2 (aI @fN.eq_3 (aI @fN.eq_4 (aI @fN.eq_5 (aI @fN.eq_6 (aI @fN.eq_7 (aI @fN.eq_8 (aI @fN.eq_9 (aI @fN.eq_10 (aI @fN.eq_11 (aI @fN.eq_12 (aI @fN.eq_13 (aI @fN.eq_14 (aI @fN.eq_15 (aI @fN.eq_16 (aI @fN.eq_17 (aI @fN.eq_18 (aI @fN.eq_19 (aI @fN.eq_20 (aI @fN.eq_21 (aI @fN.eq_22 (aI @fN.eq_23 (aI @jK.eq_1 (aI @jK.eq_2 (aI @jK.eq_3 (aI @pZ.eq_1 (aI @nS.eq_1 (aI @nS.eq_2 (aI @dR.eq_1 (aI @dR.eq_2 (aI @tF.eq_1 (aI @XA.eq_def (aI @mW.eq_1 (aI @mW.eq_2 (aI @mW.eq_3 (aI @zY.eq_1 (aI @zY.eq_2 (aI @eC.eq_1 (aI @eC.eq_2 (aI @eC.eq_3 (aI @eC.eq_4 (aI @eC.eq_5 (aI @eC.eq_6 (aI @eC.eq_7 (aI @eC.eq_8 (aI @eC.eq_9 (aI @eC.eq_10 (aI @eC.eq_11 (aI @eC.eq_12 (aI @eC.eq_13 (aI @eC.eq_14 (aI @eC.eq_15 (aI @eC.eq_16 (aI @eC.eq_17 (aI @eC.eq_18 (aI @eC.eq_19 (aI @eC.eq_20 (aI @eC.eq_21 (aI @eC.eq_22 (aI @eC.eq_23 (aI @eC.eq_24 (aI @eC.eq_25 (aI @eC.eq_26 (aI @eC.eq_27 (aI @eC.eq_28 (aI @eC.eq_29 (aI @eC.eq_30 (aI @aun.eq_1 (aI @aun.eq_2 (aI @aun.eq_3 (aI @dA.eq_1 (aI @dA.eq_2 (aI @dA.eq_3 (aI @dA.eq_4 (aI @dA.eq_5 (aI @oG.eq_1 (aI @oG.eq_2 (aI @mE.eq_1 (aI @mE.eq_2 (aI @lP.eq_1 (aI @lP.eq_2 (aI @lP.eq_3 (aI @lP.eq_4 (aI @lP.eq_5 (aI @lU.eq_1 (aI @lU.eq_2 (aI @zU.eq_1 (aI @zU.eq_2 (aI @mJ.eq_1 (aI @mJ.eq_2 (aI @fN.eq_24 (aI @fN.eq_25 (aI @fN.eq_26 (aI @cD.eq_1 (aI @dG.eq_1 (aI @oD.eq_1 (aI @oD.eq_2 (@aNv.{0})))))))))))))))))))))))))))))))))))))))))))))))))))))))))))))))))))))))))))))))))))))))))))))))))))
theorem jL:type_of%(aI @jK.eq_1 (aI @jK.eq_2 (@jK.eq_3))):=(aI @jK.eq_1 (aI @jK.eq_2 (@jK.eq_3)))
theorem jN:type_of%(aI @true_and (aI @and_true (aI @LS (aI @SS (aI @SX (aI @HS (aI @BN (aI @GZ (aI @MR (aI @aOb.{0,0} (aI @beq_self_eq_true.{0} (@aOf)))))))))))):=(aI @true_and (aI @and_true (aI @LS (aI @SS (aI @SX (aI @HS (aI @BN (aI @GZ (aI @MR (aI @aOb.{0,0} (aI @beq_self_eq_true.{0} (@aOf))))))))))))
theorem kA:type_of%(aI @jA (aI @jO @jN)):=aI @jA (aI @jO @jN)
theorem kC:type_of%(aI @jC @jN):=aI @jC @jN
theorem kE:type_of%(aI @jE @jN):=aI @jE @jN
theorem aBw{P:Program}{N:Nat}{ops:Array Oper}{Q:cT}{k:Nat}{o:Oper}{l:List Oper}{T:aJ}{G:Nat->Bool}{H:aH}{r:PV}(hc:fK ops.toList T G N o=some false)
  (h:DP P N ops Q (k+1) l (hZ (.tup []) (bT T o.dst r) (xR G o.dst false)) H):DP P N ops Q k (o::l) (hZ (.tup []) T G) H:=by
 intro prev hn;rw[iD]at h;exact rM [] (λp hp=>.inr ⟨by rw[hn p hp];simp,zz⟩) hc (h _ (hn.app _ _))
theorem jS:(∀x:Operand,(some x).toArray.toList= [x])/\((none:Option Operand).toArray.toList= [])/\((none:Option Operand).isNone=true)/\(∀x:Operand,(some x).isNone=false)/\(∀l:List Operand,[]++l=l)/\(∀l:List Operand,l++ []=l)/\
  (∀(x:Operand) (l m:List Operand),(x::l)++m=x::(l++m))/\((false=true)=False)/\(∀p:Prop,(p/\False)=False)/\(∀p:Prop,(False/\p)=False)/\(∀(c:Bool) (G:Nat->Bool) (v:Value),AQ c G (.const v)=true):=
 ⟨λ_=>rfl,rfl,rfl,λ_=>rfl,λ_=>rfl,λl=>aN9 l,λ_ _ _=>rfl,zz,zz,zz,λ_ _ _=>rfl⟩
section
variable{P:Program}{N nb:Nat}{ops:Array Oper}{Q:cT}
end
section
variable{P:Program}{N nb:Nat}{ops:Array Oper}{Q:cT}
theorem xM{o:Oper}{l:List Oper}{T:aJ}{H:aH}{x y:Operand}{t u:TypeId}{ei:TypeId×TI}{z:PV}{xs:List PV}{tl:bE}(id:Nat)(hid:H[id]? =some .unborn)(hw:aZ ops.toList T N o=some true)
  (hop:o.op= .call ⟨.builtin .append, #[x,y], #[t,u]⟩) (okx:aU N x=true) (oky:aU N y=true) (hx:bS T x= .slice [] .full) (hy:bS T y= .slice xs tl) (hne:xs≠ [])
  (hb:xs.length*ei.2.bytes<=2^47) (hm:xs.length<=maxLen) (hxs:∀e∈xs,e.cells.length=ei.2.sz) (hsz:0<ei.2.sz)
  (hte:cJ P t=some ei) (htu:(cJ P u).isSome=true) (hz:cA P ei.1=some z) (hzf:z.fits ei.2=true)
  (h:∀(c:Nat) (rest:List PV),xs.length<=c->c<=maxLen->rest=(aNb (c-xs.length) z.cells).flatten->bC P N nb ops Q l (bT T o.dst (.msl id 0 xs.length c)) (H.set id (.row (aL xs++rest)))):bC P N nb ops Q (o::l) T H:=by
 intro E a ho hH ht;subst hH;obtain⟨e,i⟩:=ei;obtain⟨h1,h2⟩:=cS hte;obtain⟨dd,f,h3,h4,rfl⟩:=cC h2;obtain⟨f',zv,h5,h6,rfl⟩:=eU hz;simp only at h5 hzf hb hxs hsz;rw[h4]at h5;cases h5;obtain⟨hzs,hzj⟩:=PV.fits_spec hzf;simp only at hzs;obtain⟨zc1,zc2⟩:=(dP E.view zv).not_junk_cells hzj;have hzv:zv.cells.size=f.size:=zc1.trans hzs;obtain⟨eu,hue⟩:=eS htu;have hvx:=aN ht x okx;have hvy:=aN ht y oky;rw[hx]at hvx;rw[hy]at hvy;obtain⟨adx,vx⟩:∃ad,a.eval x= .slice ad 0 0:=by
  generalize a.eval x=w at hvx;cases hvx with
  |nils _ _=>exact⟨none,rfl⟩
  |slice ad len cap sz _ _ vs hlen hcap hmax hsz' hc hr ht=>
   have:cap=len:=ht;subst this;simp at hlen;subst hlen;exact⟨some ad,rfl⟩
 have em:maxLen=9223372036854775807:=z7
 have hxl:0<xs.length:=List.length_pos_iff.2 hne;obtain⟨c,hc6,hc7,hc8⟩:=kU (P:=P) (w:=E.w) xs.length 0 e;have hcm:c<=maxLen:=by
  have:=hc8 (by have e2:maxLen=2^63-1:=rfl;omega);have e2:maxLen=2^63-1:=rfl;omega
 have hd:=ho.drew;obtain⟨arrx,r1,r2,ady,capy,vy,hcy1,hcy2,_⟩:=mP (P:=P) (E:=E.drew) hvy hxs;have hxsz:arrx.size=xs.length*f.size:=by rw[r2.1,cE xs hxs]
 have hzl:=oL (V:=E.view) zv hzj (c-xs.length);have hzl2:RL E.view (Builtin.zeroCells zv.cells (c-xs.length)) ((aNb (c-xs.length) (aW zv).cells).flatten):=by
  have:=hzl;rw[gY]at this;exact this
 let arr:Array Value:= #[]++arrx++Builtin.zeroCells zv.cells (c-xs.length)
 have hrl:RL E.drew.view arr (aL xs++(aNb (c-xs.length) (aW zv).cells).flatten):=by
  have:=mN (V:=E.drew.view) (a1:=arrx) (c1:=aL xs) r2 hzl2;simpa[arr]using this
 have hle':=aK.newRow_le (E:=E.drew) hd (id:=id) hid arr e (aL xs++(aNb (c-xs.length) (aW zv).cells).flatten);have hok':=aK.Ok.newRow (E:=E.drew) hd (id:=id) hid arr e (aL xs++(aNb (c-xs.length) (aW zv).cells).flatten) hrl.1 hrl.2;have hlen:=lG hid;have run1:(execOp a.eval o).run P E.w= .ok (.value (.slice (some ⟨E.w.heap.size,0,none⟩) xs.length c)) (E.drew.newRow id arr e (aL xs++(aNb (c-xs.length) (aW zv).cells).flatten)).w:=by
  unfold execOp;rw[hop];simp only;refine(dM (c:=⟨.builtin .append, #[x,y], #[t,u]⟩) (a:=a) (E:=E) (P:=P) (xs:= [x,y]) (ts:= [t,u]) (ty:=o.type) rfl rfl rfl (s:=Builtin.append_ #[t,u] o.type #[a.eval x,a.eval y]) rfl).trans ?_;have hc6':(choose (.appendCap xs.length 0 e)).run P E.w= .ok c E.drew.w:=hc6;have n2:¬xs.length<=0:=z8
  have n3:¬((xs.length:Nat):Int)>IntKind.i64.max:=by
   have e1:IntKind.i64.max=9223372036854775807:=z7
   rw[e1];omega
  have n4:¬Builtin.nextslicecap xs.length 0*f.bytes>2^48:=by
   have:=kB xs.length 0 z8;have:=aNp f.bytes this;rw[Nat.mul_assoc]at this;omega
  have hfirst:(Builtin.firstCells f.size 0 (.slice adx 0 0)).run P E.drew.w= .ok #[] E.drew.w:=by
   cases adx<;>simp only[Builtin.firstCells,Nat.zero_mul,loadCells,loadCellsFrom,aNc]
  have r1':(Builtin.firstCells f.size xs.length (.slice ady xs.length capy)).run P E.drew.w= .ok arrx E.drew.w:=by rw[<-vy];exact r1
  simp only[Builtin.append_,aNf,aNw,aM8,aM9,aP h1,cQ h4,aP hue,aNa,aNc,vx,vy,Builtin.lenOf,n2,n3,n4,if_true,if_false,mQ h4,
   aNn,aNx,aNh,jF h4 h6,hc6',uI,hfirst,r1',Go.newRow,run_newObj,false_and]
  rfl
 have hv:aQ (E.drew.newRow id arr e (aL xs++(aNb (c-xs.length) (aW zv).cells).flatten)).view (.slice (some ⟨E.w.heap.size,0,none⟩) xs.length c) (.msl id 0 xs.length c):=by
  have:=aQ.msl (V:=(E.drew.newRow id arr e (aL xs++(aNb (c-xs.length) (aW zv).cells).flatten)).view) id 0 xs.length c
   ⟨.row _,by simp only[aK.newRow];exact aM4 (lG hid),zz⟩ hcm
  simpa[aK.view,aK.newRow,aK.drew]using this
 refine dS (bY ht hw) ?_;unfold Oper.wp;rw[run1];show wpList P ops _ _ (a.put o.dst _) _;have hn:=h c _ hc7 hcm rfl _ _ hok' rfl ((ht.mono (E.drew_le.trans hle').view).put o.dst hv);exact dL (λe a w hl=>fH ((E.drew_le.trans hle').leN nb) (λ_ _ _ q=>q) hl) l _ _ hn
end
section
variable{E:aK}(ho:E.Ok){H1 L:aH}(hE:E.H=H1++L){ib id k cp sz:Nat}{es:List PV}
  (hib:H1.length<=ib) (hid:H1.length<=id) (hne:ib≠id) (hbox:E.H[ib]? =some (.row [.msl id 0 k cp])) (hrow:E.H[id]? =some (.row (aL es))) (hk:k<=es.length) (hcp:es.length=cp)
  (hes:∀e∈es,e.cells.length=sz) (hb:∀e∈es,∀x∈e.cells,bF H1.length x)
end
section
variable{P:Program}{N nb:Nat}{Q:cT}
end
section
variable{P:Program}{N nb:Nat}{ops:Array Oper}{Q:cT}
end
section
variable{P:Program}{N nb:Nat}{ops:Array Oper}{Q:cT}
end
open Go.RowKit
section
variable{P:Program}{f:FuncId}{args:List PV}{H:aH}{r:PV}
theorem QI{w w':World}(h:Below w.heap.size w w')(a:Addr)(v:Value)(hc:w.cell? a=some v):w'.cell? a=some v:=by
 have hlt:a.block<w.heap.size:=by
  rcases aMo a.block w.heap.size with q|q
  ·exact q
  ·unfold World.cell? at hc;rw[aMp q]at hc;simp at hc
 unfold World.cell? at hc⊢;rw[h.block _ hlt];exact hc
theorem rO(h:∀(E:aK) (vargs:Array Value),E.Ok->E.H=H->RL E.view vargs args->∃v,aQ E.view v r/\Calls P f vargs E.w λe w'=>e= .returned v/\Below E.w.heap.size E.w w'):aR P f args H λr' H'=>r'=r/\H'=H:=by
 intro E vargs ho hH hrl;obtain⟨v,hv,hc⟩:=h E vargs ho hH hrl;refine hc.mono λe w' ⟨he,hb⟩=> ?_
 let E':aK:= {E with w:=w'}
 have hview:E.view.le E'.view:=by
  refine⟨λa v hc=> ?_,λid h=>h,λid _=>rfl,λid t' _ ht=>⟨t',ht, .inl rfl⟩⟩;simp only[aK.view,E']at hc⊢
  split at hc
  ·rename_i hs;rw[if_pos hs];exact QI hb _ _ hc
  ·cases hc
 refine⟨E',v,r,he,rfl,⟨hb.os,hb.tape,hb.output,hb.size,λb hlt _=>⟨rfl,hb.block b hlt⟩,hview,λb _=>id⟩, ?_,hv.mono hview,rfl,hH⟩;refine⟨?_, ?_,ho.injr,ho.injb,ho.globs_of hview.cell λ_ _ _ h=>h,ho.objs.of hview λid k hi=>⟨hi,rfl,hb.block _ (ho.objs.lt hi),rfl⟩⟩
 ·intro id cs hi;obtain⟨arr,elem,h1,h2,h3,h4⟩:=ho.rows id cs hi;exact⟨arr,elem,(hb.block _ (ho.rowBlock hi)).trans h1,h2,λi hl=>(h3 i hl).mono hview,h4⟩
 ·intro id n sz b hi hb';obtain⟨arr,elem,pos,h1,h2⟩:=ho.bufs id n sz b hi hb';exact⟨arr,elem,pos,(hb.block _ (ho.bufBlock hi hb')).trans h1,h2⟩
end
end Go.Abs
namespace Go.Abs
open Go.RowKit
def ML(G H:aH):Prop:=∀(k:Nat) (o:AObj),G[k]? =some o->H[k]? =some o
theorem ML.refl(G:aH):ML G G:=λ_ _ h=>h
theorem ML.app{G H:aH}(h:ML G H)(L:aH):ML G (H++L):=λk o hk=>by
 have:=h k o hk;rw[aM0 (lG this)];exact this
def PG(G:aH)(P:Program)(f:FuncId)(args:List PV)(r:PV):Prop:=∀H,ML G H->aR P f args H λr' H'=>r'=r/\H'=H
section
variable{P:Program}{N:Nat}
theorem QQ{G:aH}{f:FuncId}{fn:Func}{c:Code}{args:List PV}{r:PV}(hf:P.funcs[f]? =some fn)(hb:fn.body=some c)(hN:fn.ntmps=N)(hl:args.length<=N)(hr:bF 0 r)
  (h:∀H,ML G H->iJ H.length H->fO P N H.length c (λe T H'=>(e= .normal\/e= .ret)/\∃r' L,fQ P N T H' fn.results.toList=some r'/\r'.drop1=r/\H'=H++L) (enter args) H):PG G P f args r:=
 λH hG=>eW hf hb hN hl (hr.mono (aNs _)) λhb'=>h H hG hb'
theorem TG{E:aK}(ho:E.Ok){id b:Nat}{vs:List Value}(hid:E.H[id]? =some (.glob b vs)){i:Nat}(h:i<vs.length):E.w.cell? ⟨b,i,none⟩=some vs[i]:=by
 have:=ho.globs id b vs hid i h;simp only[aK.view]at this
 split at this
 ·exact this
 ·cases this
end
end Go.Abs
namespace Go.Abs
structure aMd(P:Program)(t:TypeId) where
 f0:Field
 f1:Field
 ut:P.underlying t=some (.struct #[f0,f1])
 held:P.stoodInHeld t=false
 n0:f0.name≠ "_"
 n1:f1.name≠ "_"
 o0:f0.offset=0
 o1:f1.offset=1
 u0:P.underlying f0.type=some (.int .i64)
 u1:P.underlying f1.type=some .string
 a0:∀w,(isAgg f0.type).run P w= .ok false w
 a1:∀w,(isAgg f1.type).run P w= .ok false w
 gu:P.eqGuardType P.depth t=false
theorem lQ{P:Program}{N:Nat}{ops:Array Oper}{Q:cT}{k:Nat}{o:Oper}{l:List Oper}{T:aJ}{G:Nat->Bool}{H:aH}{v:PV}(hc:fK ops.toList T G N o=some true)(hg:o.op.operands.toList.all (AQ true G)=true)
  (hv:∀(E:aK) (a:Act),E.Ok->(∀x∈o.op.operands.toList,aU N x=true->aQ E.view (a.eval x) (bS T x))->∃val,(execOp a.eval o).run P E.w= .ok (.value val) E.w/\aQ E.view val v)
  (h:DP P N ops Q (k+1) l (hZ (.tup []) (bT T o.dst v) (xR G o.dst true)) H):DP P N ops Q k (o::l) (hZ (.tup []) T G) H:=by
 intro prev hn;rw[jM]at h;refine⟨v,[],[], ?_,zz,λp hp=>.inr ⟨zz,zz⟩,h _ (hn.app _ _)⟩;intro T' H' hT hHd hlen E a ho hE ht;refine .inr ⟨bY ht (oT hT ((kQ hc).1 rfl _)),λnext Q hnx=> ?_⟩;obtain⟨val,h1,h2⟩:=hv E a ho λx hx hok=>by
  have:=aN ht x hok
  rwa [xW hT x hx,mT (aNz.1 hg x hx)]at this
 unfold Oper.wp;rw[h1];exact hnx E val (.refl E) ho hE h2
open Go.Lib (iterAt_size iterAt_other iterAt_heap run_next_any_at run_next_end_at)
section
variable{P:Program}{N nb:Nat}{ops:Array Oper}{Q:cT}
end
end Go.Abs
namespace Go.Abs
section
variable{P:Program}{N nb:Nat}{ops:Array Oper}{Q:cT}
theorem zM{o:Oper}{l:List Oper}{T:aJ}{H:aH}{x y:Operand}{t u:TypeId}{ei:TypeId×TI}{z e1:PV}{tl:bE}{n:Nat}{oc:List PV}(hw:aZ ops.toList T N o=some true)
  (hop:o.op= .call ⟨.builtin .append, #[x,y], #[t,u]⟩) (okx:aU N x=true) (oky:aU N y=true) (hy:bS T y= .slice [e1] tl)
  (hb:(n+1)*ei.2.bytes<=2^47) (hm:n+1<=maxLen) (hxs:e1.cells.length=ei.2.sz)
  (hte:cJ P t=some ei) (htu:(cJ P u).isSome=true) (hz:cA P ei.1=some z) (hzf:z.fits ei.2=true)
  (hold:∀(E:aK) (v:Value),E.Ok->E.H=H->aQ E.view v (bS T x)->∃ad,v= .slice ad n n/\∃arrs,(Builtin.firstCells ei.2.sz n (.slice ad n n)).run P E.w= .ok arrs E.w/\RL E.view arrs oc)
  (h:∀(c:Nat) (rest:List PV),n+1<=c->c<=maxLen->rest=(aNb (c- (n+1)) z.cells).flatten->bC P N nb ops Q l (bT T o.dst (.msl H.length 0 (n+1) c)) (H++ [.row (oc++e1.cells++rest)])):bC P N nb ops Q (o::l) T H:=by
 intro E a ho hH ht;subst hH;obtain⟨e,i⟩:=ei;obtain⟨h1,h2⟩:=cS hte;obtain⟨dd,f,h3,h4,rfl⟩:=cC h2;obtain⟨f',zv,h5,h6,rfl⟩:=eU hz;simp only at h5 hzf hb hxs hold;rw[h4]at h5;cases h5;obtain⟨hzs,hzj⟩:=PV.fits_spec hzf;simp only at hzs;obtain⟨zc1,zc2⟩:=(dP E.view zv).not_junk_cells hzj;obtain⟨eu,hue⟩:=eS htu;have hvx:=aN ht x okx;have hvy:=aN ht y oky;rw[hy]at hvy;have hd:=ho.drew;obtain⟨adx,vx,arrs,s1,s2⟩:=hold E.drew _ hd rfl hvx;have hxs':∀q∈ [e1],q.cells.length=f.size:=λq hq=>by rw[aN8.1 hq];exact hxs
 have em:maxLen=9223372036854775807:=z7
 obtain⟨c,hc6,hc7,hc8⟩:=kU (P:=P) (w:=E.w) (n+1) n e;have hcm:c<=maxLen:=by
  have:=hc8 (by have e2:maxLen=2^63-1:=rfl;omega);have e2:maxLen=2^63-1:=rfl;omega
 obtain⟨arrx,r1,r2,ady,capy,vy,hcy1,hcy2,_⟩:=mP (P:=P) (E:=E.drew) hvy hxs';have hzl2:RL E.drew.view (Builtin.zeroCells zv.cells (c- (n+1))) ((aNb (c- (n+1)) (aW zv).cells).flatten):=by
  have:=oL (V:=E.drew.view) zv hzj (c- (n+1));rw[gY]at this;exact this
 have hfe:aL [e1]=e1.cells:=by simp[aL]
 rw[hfe]at r2
 let arr:Array Value:=arrs++arrx++Builtin.zeroCells zv.cells (c- (n+1))
 have hrl:RL E.drew.view arr (oc++e1.cells++(aNb (c- (n+1)) (aW zv).cells).flatten):=mN (mN s2 r2) hzl2;have hun:E.drew.ext.H[E.H.length]? =some .unborn:=by simp[aK.ext,aK.drew]
 have hle':=E.drew.ext_le.trans (aK.newRow_le (E:=E.drew.ext) hd.ext (id:=E.H.length) hun arr e (oc++e1.cells++(aNb (c- (n+1)) (aW zv).cells).flatten));have hok':=aK.Ok.newRow (E:=E.drew.ext) hd.ext (id:=E.H.length) hun arr e (oc++e1.cells++(aNb (c- (n+1)) (aW zv).cells).flatten) hrl.1 (λi hl=>(hrl.2 i hl).mono E.drew.ext_view_le);have hH':(E.drew.ext.newRow E.H.length arr e (oc++e1.cells++(aNb (c- (n+1)) (aW zv).cells).flatten)).H=E.H++ [.row (oc++e1.cells++(aNb (c- (n+1)) (aW zv).cells).flatten)]:=by
  simp only[aK.newRow,aK.ext,aK.drew];rw[aN4 _ _ (aMq _)];simp
 have run1:(execOp a.eval o).run P E.w= .ok (.value (.slice (some ⟨E.w.heap.size,0,none⟩) (n+1) c)) (E.drew.ext.newRow E.H.length arr e (oc++e1.cells++(aNb (c- (n+1)) (aW zv).cells).flatten)).w:=by
  unfold execOp;rw[hop];simp only;refine(dM (c:=⟨.builtin .append, #[x,y], #[t,u]⟩) (a:=a) (E:=E) (P:=P) (xs:= [x,y]) (ts:= [t,u]) (ty:=o.type) rfl rfl rfl (s:=Builtin.append_ #[t,u] o.type #[a.eval x,a.eval y]) rfl).trans ?_;have hc6':(choose (.appendCap (n+1) n e)).run P E.w= .ok c E.drew.w:=hc6;have n2:¬n+1<=n:=z8
  have n3:¬((n+1:Nat):Int)>IntKind.i64.max:=by
   have e1:IntKind.i64.max=9223372036854775807:=z7
   rw[e1];omega
  have n4:¬Builtin.nextslicecap (n+1) n*f.bytes>2^48:=by
   have:=kB (n+1) n z8;have:=aNp f.bytes this;rw[Nat.mul_assoc]at this;omega
  have r1':(Builtin.firstCells f.size 1 (.slice ady 1 capy)).run P E.drew.w= .ok arrx E.drew.w:=by have:=r1;rw[vy]at this;exact this
  have vy':a.eval y= .slice ady 1 capy:=vy;simp only[Builtin.append_,aNf,aNw,aM8,aM9,aP h1,cQ h4,aP hue,aNa,aNc,vx,vy',Builtin.lenOf,n2,n3,n4,if_true,if_false,mQ h4,
   aNx,aNh,jF h4 h6,hc6',uI,s1,r1',Go.newRow,run_newObj,false_and]
  rfl
 have hv:aQ (E.drew.ext.newRow E.H.length arr e (oc++e1.cells++(aNb (c- (n+1)) (aW zv).cells).flatten)).view (.slice (some ⟨E.w.heap.size,0,none⟩) (n+1) c) (.msl E.H.length 0 (n+1) c):=by
  have:=aQ.msl (V:=(E.drew.ext.newRow E.H.length arr e (oc++e1.cells++(aNb (c- (n+1)) (aW zv).cells).flatten)).view) E.H.length 0 (n+1) c
   ⟨.row _,by rw[hH',aM1 (aMq _),aNt];rfl,zz⟩ hcm
  simpa[aK.view,aK.newRow,aK.drew,aK.ext]using this
 refine dS (bY ht hw) ?_;unfold Oper.wp;rw[run1];show wpList P ops _ _ (a.put o.dst _) _;have hle:=E.drew_le.trans hle';have hn:=h c _ hc7 hcm rfl _ _ hok' hH' ((ht.mono hle.view).put o.dst hv);exact dL (λe a w hl=>fH (hle.leN nb) (λ_ _ _ q=>q) hl) l _ _ hn
theorem PD{o:Oper}{l:List Oper}{T:aJ}{H:aH}{x y:Operand}{t u:TypeId}{ei:TypeId×TI}{e1:PV}{tl:bE}{id n c:Nat}{cs:List PV}(hid:H[id]? =some (.row cs))(hw:aZ ops.toList T N o=some true)
  (hop:o.op= .call ⟨.builtin .append, #[x,y], #[t,u]⟩) (okx:aU N x=true) (oky:aU N y=true) (hx:bS T x= .msl id 0 n c) (hy:bS T y= .slice [e1] tl) (hn:n+1<=c) (hcs:cs.length=c*ei.2.sz)
  (hxs:e1.cells.length=ei.2.sz) (hcell:e1.cells.all PV.isCell=true)
  (hte:cJ P t=some ei) (htu:(cJ P u).isSome=true)
  (h:bC P N nb ops Q l (bT T o.dst (.msl id 0 (n+1) c)) (H.set id (.row (dR cs (n*ei.2.sz) e1.cells)))):bC P N nb ops Q (o::l) T H:=by
 refine eB hw (λE a ho hH ht=> ?_) h;subst hH;obtain⟨e,i⟩:=ei;obtain⟨h1,h2⟩:=cS hte;obtain⟨dd,f,h3,h4,rfl⟩:=cC h2;simp only at hxs hcs⊢;obtain⟨eu,hue⟩:=eS htu;have hvx:=aN ht x okx;have hvy:=aN ht y oky;rw[hx]at hvx;rw[hy]at hvy;have hxs':∀q∈ [e1],q.cells.length=f.size:=λq hq=>by rw[aN8.1 hq];exact hxs
 obtain⟨arrx,r1,r2,ady,capy,vy,hcy1,hcy2,_⟩:=mP (P:=P) (E:=E) hvy hxs';have hfe:aL [e1]=e1.cells:=by simp[aL]
 rw[hfe]at r2;have vx:a.eval x= .slice (some ⟨E.ρ id,0,none⟩) n c/\c<=maxLen/\E.view.born id:=by
  generalize a.eval x=w at hvx;cases hvx with
  |msl _ _ _ _ hbn hm=>exact⟨rfl,hm,hbn⟩
 obtain⟨vx,hcm,hbn⟩:=vx;obtain⟨E',e1',e2,e3,e4⟩:=rF (P:=P) (id:=id) (off:=n*f.size) arrx.toList e1.cells 0 E cs ho hid (by rw[aMx];exact r2.1) (λj hj=>by
  have:=r2.2 j hj;rw[aMt]at this;rw[aNj,aNk];exact this) hcell (by
   rw[aMx,r2.1,hxs,hcs];have:(n+1)*f.size<=c*f.size:=aNp _ hn;rw[aNu]at this;omega)
 refine⟨E', .slice (some ⟨E.ρ id,0,none⟩) (n+1) c, .inl ?_,e2,e3,by rw[e4,aNm], ?_⟩
 ·unfold execOp;rw[hop];simp only;refine(dM (c:=⟨.builtin .append, #[x,y], #[t,u]⟩) (a:=a) (E:=E) (P:=P) (xs:= [x,y]) (ts:= [t,u]) (ty:=o.type) rfl rfl rfl (s:=Builtin.append_ #[t,u] o.type #[a.eval x,a.eval y]) rfl).trans ?_;have r1':(Builtin.firstCells f.size 1 (.slice ady 1 capy)).run P E.w= .ok arrx E.w:=by have:=r1;rw[vy]at this;exact this
  have vy':a.eval y= .slice ady 1 capy:=vy;have hadd:(⟨E.ρ id,0,none⟩:Addr).add (n*f.size)=⟨E.ρ id,n*f.size,none⟩:=by rw[dH,aNn]
  simp only[Builtin.append_,aNf,aNw,aM8,aM9,aP h1,cQ h4,aP hue,aNa,aNc,vx,vy',Builtin.lenOf,hn,if_true,if_false,
   aNx,aNh,r1',hadd,e1']
 ·have:=aQ.msl (V:=E'.view) id 0 (n+1) c (e2.view.born id hbn) hcm;rw[e2.view.rho id hbn]at this;exact this
theorem SP{E:aK}{v:Value}{sz:Nat}(hv:aQ E.view v (.slice [] .full)):∃ad,v= .slice ad 0 0/\∃arrs,(Builtin.firstCells sz 0 (.slice ad 0 0)).run P E.w= .ok arrs E.w/\RL E.view arrs []:=by
 obtain⟨ad,rfl⟩:∃ad,v= .slice ad 0 0:=by
  cases hv with
  |nils _ _=>exact⟨none,rfl⟩
  |slice ad len cap sz _ _ vs hlen hcap hmax hsz' hc hr ht=>
   have:cap=len:=ht;subst this;simp at hlen;subst hlen;exact⟨some ad,rfl⟩
 refine⟨ad,rfl, #[], ?_,rfl,λi hi=>by cases hi⟩;cases ad<;>simp only[Builtin.firstCells,Nat.zero_mul,loadCells,loadCellsFrom,aNc]
theorem UB{E:aK}{v:Value}{id n sz:Nat}{cs:List PV}(ho:E.Ok)(hid:E.H[id]? =some (.row cs))(hcs:cs.length=n*sz)(hv:aQ E.view v (.msl id 0 n n)):∃ad,v= .slice ad n n/\∃arrs,(Builtin.firstCells sz n (.slice ad n n)).run P E.w= .ok arrs E.w/\RL E.view arrs cs:=by
 cases hv with
 |msl _ _ _ _ hbn hm=>
  obtain⟨arr,elem,h1,h2,h3,h4⟩:=ho.rows id cs hid;refine⟨_,rfl,_,run_loadCells E.w ⟨E.ρ id,0,none⟩ (n*sz) (λk=>arr.getD k undef) (λk hk=> ?_),⟨by simp[hcs],λi hi=> ?_⟩⟩
  ·rw[dH,aNn,kF h1,aMt,aMy z8];rfl
  ·rw[aMt];have hi':i<n*sz:=z8
   simp only[aNf,aNg,List.getElem?_range hi',aM6,aMz];exact h3 i hi
end
theorem VC{P:Program}{N nb:Nat}{ops:Array Oper}{Q:cT}{o:Oper}{l:List Oper}{T:aJ}{G:Nat->Bool}{H:aH}{v:PV}(hc:fK ops.toList T G N o=some true)(hg:o.op.operands.toList.all (AQ true G)=true)
  (hv:∀(E:aK) (a:Act),E.Ok->(∀x∈o.op.operands.toList,aU N x=true->aQ E.view (a.eval x) (bS T x))->∃val,(execOp a.eval o).run P E.w= .ok (.value val) E.w/\aQ E.view val v)
  (h:bC P N nb ops Q l (hZ (.tup []) (bT T o.dst v) (xR G o.dst true)) H):bC P N nb ops Q (o::l) (hZ (.tup []) T G) H:=by
 rw[jM]at h;refine eB ((kQ hc).1 rfl _) (λE a ho hE ht=> ?_) h;obtain⟨val,h1,h2⟩:=hv E a ho λx hx hok=>by
  have:=aN ht x hok
  rwa [mT (aNz.1 hg x hx)]at this
 exact⟨E,val, .inl h1, .refl E,ho,hE,h2⟩
structure aL8(P:Program)(t:TypeId) where
 f0:Field
 f1:Field
 ut:P.underlying t=some (.struct #[f0,f1])
 held:P.stoodInHeld t=false
 n0:f0.name≠ "_"
 n1:f1.name≠ "_"
 o0:f0.offset=0
 o1:f1.offset=1
 u0:P.underlying f0.type=some (.int .i64)
 u1:P.underlying f1.type=some (.int .i64)
 a0:∀w,(isAgg f0.type).run P w= .ok false w
 a1:∀w,(isAgg f1.type).run P w= .ok false w
 gu:P.eqGuardType P.depth t=false
section
variable{P:Program}{N nb:Nat}{ops:Array Oper}{Q:cT}{o:Oper}{l:List Oper}{T:aJ}{G:Nat->Bool}{H:aH}{t y':TypeId}{x y:Operand}{a b c d:Int}
end
open Go.ChangeMaps (setBlock)
section
variable{P:Program}{N nb:Nat}{ops:Array Oper}{Q:cT}
theorem mZ.length{V:cG}:∀ {ms:List MapEntry} {es:List (Int×PV)},mZ V ms es->ms.length=es.length
 | [],[],_=>rfl
 |m::ms,e::es,h=>by rw[aM7,aM7,mZ.length h.2.2]
 | [],_::_,h=>h.elim
 |_::_,[],h=>h.elim
theorem mZ.get{V:cG}:∀ {ms:List MapEntry} {es:List (Int×PV)},mZ V ms es->∀(i:Nat) (h:i<ms.length) (h':i<es.length),ms[i].key= .int .i64 es[i].1/\aQ V ms[i].val es[i].2
 |m::ms,e::es,h,0,_,_=>⟨h.1,h.2.1⟩
 |m::ms,e::es,h,i+1,h1,h2=>mZ.get h.2.2 i _ _
 | [],[],_,i,h,_=>absurd h (Nat.not_lt_zero _)
 | [],_::_,h,_,_,_=>h.elim
 |_::_,[],h,_,_,_=>h.elim
end
end Go.Abs
namespace Go.Abs
section
variable{P:Program}{N nb:Nat}{ops:Array Oper}{Q:cT}{T:aJ}{H:aH}
def nE(P:Program)(ch:List PanicEntry)(f:FuncId)(args:List PV)(H:aH)(R:PV->aH->Prop)(Rp:aH->Prop):Prop:=
 ∀(E:aK) (vargs:Array Value),E.Ok->E.H=H->RL E.view vargs args->Calls P f vargs E.w λe w'=>
  (∃(E':aK) (v:Value) (r:PV),e= .returned v/\E'.w=w'/\E.le E'/\E'.Ok/\aQ E'.view v r/\R r E'.H)\/(∃E':aK,e= .panicked ch/\E'.w=w'/\E.le E'/\E'.Ok/\Rp E'.H)
theorem nE.mono{ch:List PanicEntry}{f:FuncId}{args:List PV}{R R':PV->aH->Prop}{Rp Rp':aH->Prop}(h:nE P ch f args H R Rp)(hr:∀r H,R r H->R' r H)(hp:∀H,Rp H->Rp' H):nE P ch f args H R' Rp':=
 λE vargs ho hH hl=>(h E vargs ho hH hl).mono λe w' hx=>by
  rcases hx with⟨E',v,r,h1,h2,h3,h4,h5,h6⟩| ⟨E',h1,h2,h3,h4,h5⟩
  ·exact .inl ⟨E',v,r,h1,h2,h3,h4,h5,hr _ _ h6⟩
  ·exact .inr ⟨E',h1,h2,h3,h4,hp _ h5⟩
theorem aR.x{ch:List PanicEntry}{f:FuncId}{args:List PV}{R:PV->aH->Prop}(h:aR P f args H R):nE P ch f args H R λ_=>False:=
 λE vargs ho hH hl=>(h E vargs ho hH hl).mono λe w' hx=>.inl hx
theorem nE.a{ch:List PanicEntry}{f:FuncId}{args:List PV}{R:PV->aH->Prop}(h:nE P ch f args H R λ_=>False):aR P f args H R:=
 λE vargs ho hH hl=>(h E vargs ho hH hl).mono λe w' hx=>by
  rcases hx with hx| ⟨E',h1,h2,h3,h4,h5⟩
  ·exact hx
  ·exact h5.elim
theorem PE{ch:List PanicEntry}{o:Oper}{l:List Oper}{fo:Operand}{xs:Array Operand}{ts:Array TypeId}(hop:o.op= .call ⟨.value fo,xs,ts⟩)(hw:aZ ops.toList T N o=some true)(hok:dC N o.op=true)
  {f:FuncId} {pf pc:List PV} (hf:bS T fo= .fn (.func f) pf pc) (hgo:bO P f=true) {args:List PV} (hargs:pf++(xs.toList.map λx=>(bS T x).drop1)++pc=args) {R:PV->aH->Prop} {Rp:aH->Prop} (hc:nE P ch f args H R Rp)
  (h:∀r H',R r H'->bC P N nb ops Q l (bT T o.dst r) H') (hp:∀H',Rp H'->Q (.panic ch) T H'):bC P N nb ops Q (o::l) T H:=by
 intro E a ho hH ht;refine dS (bY ht hw) ?_;have hall:∀x∈o.op.operands.toList,aU N x=true:=λx hx=>aNz.1 hok x hx;rw[hop]at hall;simp only[Op.operands,Call.operands]at hall;have hr:=aN ht fo (hall fo zz);rw[hf]at hr;obtain⟨first,caps,hval,h1,h2⟩:∃first caps,a.eval fo= .func (.func f) first caps/\RL E.view first pf/\RL E.view caps pc:=by
  generalize a.eval fo=y at hr;cases hr with
  |fn _ first caps _ _ hf hc hrf hrc=>exact⟨first,caps,rfl,⟨hf,hrf⟩,⟨hc,hrc⟩⟩
 have h3:=vP ht xs (aNz.2 λx hx=>hall x (by simp;right;simpa using hx));have hrl:=iE (iE h1 h3) h2;rw[hargs]at hrl;have hrun:(execOp a.eval o).run P E.w= .ok (.enter f (first++xs.map a.eval++caps)) E.w:=by
  unfold execOp;rw[hop];simp only[resolve,hval,Deferred.ofValue,aM9,aNc,aNa,invoke,lI hgo]
 unfold Oper.wp;rw[hrun];refine(hc E _ ho hH hrl).mono ?_;rintro e w' (⟨E',v,r,rfl,rfl,h5,h6,h7,h8⟩| ⟨E',rfl,rfl,h5,h6,h7⟩)
 ·exact dL (λe a w hl=>fH (h5.leN nb) (λ_ _ _ q=>q) hl) l _ _ (h r E'.H h8 E' (a.put o.dst v) h6 rfl ((ht.mono h5.view).put o.dst h7))
 ·exact⟨E',T,rfl,h5.leN nb,h6,ht.mono h5.view,hp _ h7⟩
theorem gN{ch:List PanicEntry}{o:Oper}{l:List Oper}{f:FuncId}{args:List PV}(hcall:iC T o.op=some (f,args))(hw:aZ ops.toList T N o=some true)(hok:dC N o.op=true)
  (hgo:bO P f=true) {R:PV->aH->Prop} {Rp:aH->Prop} (hc:nE P ch f args H R Rp) (h:∀r H',R r H'->bC P N nb ops Q l (bT T o.dst r) H') (hp:∀H',Rp H'->Q (.panic ch) T H'):bC P N nb ops Q (o::l) T H:=by
 obtain⟨fo,xs,ts,pf,pc,h1,h2,h3⟩:=lF hcall;exact PE h1 hw hok h2 hgo h3 hc h hp
theorem iY{ch:List PanicEntry}{f:FuncId}{fn:Func}{c:Code}{args:List PV}{R:PV->aH->Prop}{Rp:aH->Prop}(hf:P.funcs[f]? =some fn)(hb:fn.body=some c)(hN:fn.ntmps=N)(hl:args.length<=N)
  (h:iJ H.length H->fO P N H.length c (λe T H=>((e= .normal\/e= .ret)/\∃r,fQ P N T H fn.results.toList=some r/\R r H)\/(e= .panic ch/\Rp H)) (enter args) H):nE P ch f args H R Rp:=by
 intro E vargs ho hH hrl;refine calls_of_wp hf hb (wp_mono (h (by have:=ho.hbel;rw[hH]at this;exact this) E _ ho hH ⟨by simp[hrl.1,hN];omega,rfl,λi hi=> ?_⟩) ?_)
 ·rw[aMt,Array.getElem?_append];unfold enter
  by_cases hia:i<args.length
  ·rw[if_pos (by rw[hrl.1];exact hia),<-aMt,aNj,aNi hia];exact hrl.2 i hia
  ·rw[aNj,aM2 z8];exact .junk _
 ·rintro e a w ⟨E',T',rfl,h2,h3,h4,hcs⟩;rcases hcs with⟨he,r,hr,hR⟩| ⟨rfl,hR⟩
  ·obtain⟨val,h5,h6⟩:=lE (P:=P) (fn:=fn) h3 h4 hr;rcases he with rfl|rfl
   ·exact⟨h4.defers,val,h5, .inl ⟨E',val,r,rfl,rfl,(hH▸h2:E.leN E.H.length E').le,h3,h6,hR⟩⟩
   ·exact⟨h4.defers,val,h5, .inl ⟨E',val,r,rfl,rfl,(hH▸h2:E.leN E.H.length E').le,h3,h6,hR⟩⟩
  ·exact⟨h4.defers, .inr ⟨E',rfl,rfl,(hH▸h2:E.leN E.H.length E').le,h3,hR⟩⟩
theorem aAv{w:World}(op:BinOp)(t:TypeId)(x y:Operand)(f:Fn)(a b:Array Value):(eqGuard op t x y (.func f a b) .nilFunc).run P w= .ok () w:=by
 cases op<;>rfl
theorem YP{w:World}(op:BinOp)(t:TypeId)(x y:Operand):(eqGuard op t x y .nilFunc .nilFunc).run P w= .ok () w:=by
 cases op<;>rfl
theorem rR{o:Oper}{l:List Oper}{t y:TypeId}{x:Operand}{op:BinOp}{f:Fn}{pf pc:List PV}(hop:o.op= .binOp op t x (.const .nilFunc) y)(hop2:op= .eql\/op= .neq)(hw:aZ ops.toList T N o=some true)(hok:aU N x=true){d1 d2:Array TypeId}{d3:Bool}(hu:P.underlying t=some (.func d1 d2 d3))
  {v:Bool} (hx:(bS T x= .fn f pf pc/\v=false)\/(bS T x= .nilfn/\v=true)) (h:bC P N nb ops Q l (bT T o.dst (.bool (if op= .eql then v else !v))) H):bC P N nb ops Q (o::l) T H:=by
 refine eB hw (λE A ho hH ht=> ?_) h;have rx:=aN ht x hok;have hc:A.eval (.const .nilFunc)= .nilFunc:=rfl;refine⟨E, .bool (if op= .eql then v else !v), .inl ?_, .refl E,ho,hH, .bool _⟩;unfold execOp;rw[hop];rcases hx with⟨hx,rfl⟩| ⟨hx,rfl⟩
 ·rw[hx]at rx;generalize hv:A.eval x=w at rx;cases rx with
  |fn _ first caps _ _ h1 h2 h3 h4=>
   have he:∀w,(Op.equal t (.func f first caps) .nilFunc).run P w= .ok false w:=λw=>by
    have key:∀d,(Op.equalIn (d+1) t (.func f first caps) .nilFunc).run P w= .ok false w:=by
     intro d;simp only[Op.equalIn,aM9,aP hu,aNa,aNc]
    exact key 9999
   rcases hop2 with rfl|rfl<;>simp only[aM9,hv,hc,aAv,aNa,binOp,he,aNc,if_true]<;>rfl
 ·rw[hx]at rx;generalize hv:A.eval x=w at rx;cases rx;have he:∀w,(Op.equal t .nilFunc .nilFunc).run P w= .ok true w:=λw=>by
   have key:∀d,(Op.equalIn (d+1) t .nilFunc .nilFunc).run P w= .ok true w:=by
    intro d;simp only[Op.equalIn,aM9,aP hu,aNa,aNc]
   exact key 9999
  rcases hop2 with rfl|rfl<;>simp only[aM9,hv,hc,YP,aNa,binOp,he,aNc,if_true]<;>rfl
theorem MV{o:Oper}{l:List Oper}{x y:Operand}{t u:TypeId}{id:Nat}{es:List GE}{clk:Nat}{a b c:Int}(hop:o.op= .call ⟨.builtin .delete, #[x,y], #[t,u]⟩)(hw:aZ ops.toList T N o=some true)(hok:dC N o.op=true)
  (hm:(rC P t).isSome=true) (hx:bS T x= .mapp id) (hy:bS T y= .agg [.int .i64 a, .int .i64 b, .int .i64 c]) (hid:H[id]? =some (.obj (.mapg es clk)))
  (h:bC P N nb ops Q l (bT T o.dst (.tup [])) (H.set id (.obj (.mapg (uU es (a,b,c)) clk)))):bC P N nb ops Q (o::l) T H:=by
 refine eB hw (λE A ho hH ht=> ?_) h;have hall:∀x∈o.op.operands.toList,aU N x=true:=λx hx=>aNz.1 hok x hx;rw[hop]at hall;have rx:=aN ht x (hall x (by simp[Op.operands,Call.operands]));have ry:=aN ht y (hall y (by simp[Op.operands,Call.operands]));rw[hx]at rx;rw[hy]at ry;have ex:A.eval x= .map (some (E.ρ id)):=by
  generalize A.eval x=v at rx;cases rx;rfl
 obtain⟨E',h1,h2,h3,h4⟩:=IE ho (t:=t) (ts:= #[t,u]) (ty:=o.type) rfl hm (by rw[hH];exact hid) ry;refine⟨E', .tuple #[], .inl ?_,h2,h3,by rw[h4,hH], .tup _ _ rfl (λi hi=>absurd hi (Nat.not_lt_zero _))⟩;unfold execOp;rw[hop];refine(dM (c:=⟨.builtin .delete, #[x,y], #[t,u]⟩) (xs:= [x,y]) (ts:= [t,u]) (ty:=o.type) rfl rfl rfl (s:=Builtin.delete_ #[t,u] o.type #[A.eval x,A.eval y]) rfl).trans ?_;rw[ex];simp only[aM9,h1,aNa,aNc]
theorem YL{o:Oper}{l:List Oper}{x:Operand}{t k e:TypeId}{id:Nat}{es:List GE}{clk:Nat}(hop:o.op= .call ⟨.builtin .clear, #[x], #[t]⟩)(hw:aZ ops.toList T N o=some true)(hok:dC N o.op=true)
  (hm:P.underlying t=some (.map k e)) (hx:bS T x= .mapp id) (hid:H[id]? =some (.obj (.mapg es clk)))
  (h:bC P N nb ops Q l (bT T o.dst (.tup [])) (H.set id (.obj (.mapg [] clk)))):bC P N nb ops Q (o::l) T H:=by
 refine eB hw (λE A ho hH ht=> ?_) h;have hall:∀x∈o.op.operands.toList,aU N x=true:=λx hx=>aNz.1 hok x hx;rw[hop]at hall;have rx:=aN ht x (hall x (by simp[Op.operands,Call.operands]));rw[hx]at rx;have ex:A.eval x= .map (some (E.ρ id)):=by
  generalize A.eval x=v at rx;cases rx;rfl
 obtain⟨E',h1,h2,h3,h4⟩:=JY ho (t:=t) (ts:= #[t]) (ty:=o.type) rfl hm (by rw[hH];exact hid);refine⟨E', .tuple #[], .inl ?_,h2,h3,by rw[h4,hH], .tup _ _ rfl (λi hi=>absurd hi (Nat.not_lt_zero _))⟩;unfold execOp;rw[hop];refine(dM (c:=⟨.builtin .clear, #[x], #[t]⟩) (xs:= [x]) (ts:= [t]) (ty:=o.type) rfl rfl rfl (s:=Builtin.clear_ #[t] o.type #[A.eval x]) rfl).trans ?_;rw[ex];simp only[aM9,h1,aNa,aNc]
theorem KK{o:Oper}{l:List Oper}{t:TypeId}{x:Operand}{n:Int}(hop:o.op= .makeInterface t x)(hw:aZ ops.toList T N o=some true)(hok:dC N o.op=true){d:TypeDesc}(hu:P.underlying t=some d)(hd:∀m,d≠ .interface m)
  (hx:bS T x= .agg [.int .i64 n]) (h:bC P N nb ops Q l (bT T o.dst (.ifc (some (t, .agg #[.int .i64 n])))) H):bC P N nb ops Q (o::l) T H:=by
 refine eB hw (λE A ho hH ht=> ?_) h;have hall:∀x∈o.op.operands.toList,aU N x=true:=λx hx=>aNz.1 hok x hx;rw[hop]at hall;have rx:=aN ht x (hall x (by simp[Op.operands]));rw[hx]at rx;have ex:A.eval x= .agg #[.int .i64 n]:=by
  generalize A.eval x=v at rx;cases rx with
  |agg arr _ hl hr=>
   have h0:=(hr 0 zz).int_inv;have hs:arr.size=1:=hl;have:arr= #[arr.getD 0 undef]:=by
    apply Array.ext (by simp[hs]);intro i h1 h2;obtain rfl:i=0:=z8
    simp[Array.getD,hs]
   rw[this,h0]
 refine⟨E, .iface t (.agg #[.int .i64 n]), .inl ?_, .refl E,ho,hH, .ifc _ _⟩;unfold execOp;rw[hop];simp only[Instr.makeInterface,aM9,aP hu,aNa,ex];cases d with
 |interface m=>exact(hd m rfl).elim
 |_=>simp only[aNc,aNa]
theorem OG{o:Oper}{l:List Oper}{x:Operand}{t:TypeId}{v:Value}(hop:o.op= .panic x)(hw:aZ ops.toList T N o=some true)(hok:dC N o.op=true)
  (hx:bS T x= .ifc (some (t,v))) (h:Q (.panic [{v:=.iface t v,recovered:=false}]) T H):bC P N nb ops Q (o::l) T H:=by
 intro E a ho hH ht;refine dS (bY ht hw) ?_;have hall:∀x∈o.op.operands.toList,aU N x=true:=λx hx=>aNz.1 hok x hx;rw[hop]at hall;have rx:=aN ht x (hall x (by simp[Op.operands]));rw[hx]at rx;have ex:a.eval x= .iface t v:=by
  generalize a.eval x=y at rx;cases rx;rfl
 have hrun:(execOp a.eval o).run P E.w= .halt (.panic (.iface t v)) E.w:=by
  unfold execOp;rw[hop];simp only[Instr.panic,ex,aM9];rfl
 unfold Oper.wp;rw[hrun];exact⟨E,T,rfl, .refl nb E,ho,ht,hH▸h⟩
end
section
variable{P:Program}{N nb:Nat}{ops:Array Oper}{Q:cT}
theorem vT{Q:Exit->Act->World->Prop}:∀(is:List Nat),wpOps P ops Q is=wpList P ops Q (is.filterMap λi=>ops[i]?):=by
 intro is
 induction is with
 |nil=>funext a w;simp[wpList,wpOps]
 |cons i is ih=>
  funext a w;cases ho:ops[i]? with
  |none=>simp only[List.filterMap_cons,ho,wpOps,ih]
  |some o=>simp only[List.filterMap_cons,ho,wpOps,wpList,ih]
def kN(P:Program)(N nb:Nat)(ops:Array Oper)(Q:cT)(f:Nat)(listed:Array Bool)(T:aJ)(H:aH):Prop:=
 ∀(E0:aK) (t:Nat) (E:aK) (a:Act),E0.leN nb E->E.Ok->E.H=H->eR E.view N a T->wpOps P ops (qG N nb E0 Q) (lH ops f t listed) a E.w
theorem kN.weak{f:Nat}{listed:Array Bool}{T T2:aJ}{H:aH}(h:kN P N nb ops Q f listed T2 H)(hw:∀i,T2 i= .junk\/T2 i=T i):kN P N nb ops Q f listed T H:=
 λE0 t E a hle ho hH ht=>h E0 t E a hle ho hH (mL ht hw)
theorem RU{listed:Array Bool}{T:aJ}{H:aH}(h:Q .normal T H):kN P N nb ops Q 0 listed T H:=
 λE0 t E a hle ho hH ht=>⟨E,T,rfl,hle,ho,ht,hH▸h⟩
theorem tY{f:Nat}{listed:Array Bool}{T:aJ}{H:aH}(rs:List Nat)(hrs:(List.range ops.size).filter (cZ ops listed)=rs)(hne:rs≠ [])
  (h:∀i∈rs,∀o,ops[i]? =some o->bC P N nb ops (bQ (kN P N nb ops Q f (listed.setIfInBounds i true)) Q) [o] T H):kN P N nb ops Q (f+1) listed T H:=by
 intro E0 t E a hle ho hH ht;unfold lH;rw[hrs];have hlt:t%rs.length<rs.length:=Nat.mod_lt _ (List.length_pos_iff.2 hne);rw[aNi hlt];have hm:=aNq hlt;generalize rs[t%rs.length]=i at hm;generalize t/rs.length=t2;have hi:i<ops.size:=by rw[<-hrs]at hm;exact aN6.1 (aN5.1 hm).1
 have hok':ops[i]? =some ops[i]:=aMy hi;have hgo:=h i hm _ hok' E a ho hH ht;generalize ops[i]=o at hok' hgo;unfold wpList at hgo;simp only;unfold wpOps;rw[hok'];simp only;have hnorm:∀a w,qG N nb E (bQ (kN P N nb ops Q f (listed.setIfInBounds i true)) Q) .normal a w->wpOps P ops (qG N nb E0 Q) (lH ops f t2 (listed.setIfInBounds i true)) a w:=by
  rintro a w ⟨E',T',rfl,h2,h3,h4,h5⟩;exact h5 E0 t2 E' a (hle.trans h2) h3 rfl h4
 have hbad:∀e a w,e≠ .normal->qG N nb E (bQ (kN P N nb ops Q f (listed.setIfInBounds i true)) Q) e a w->qG N nb E0 Q e a w:=by
  intro e a w hne hx;obtain⟨E',T',h1,h2,h3,h4,h5⟩:=hx;refine⟨E',T',h1,hle.trans h2,h3,h4, ?_⟩;cases e with
  |normal=>exact(hne rfl).elim
  |_=>exact h5
 have hout:LetsOut (qG N nb E (bQ (kN P N nb ops Q f (listed.setIfInBounds i true)) Q))->LetsOut (qG N nb E0 Q):=λ⟨a,w,x⟩=>⟨a,w,hbad _ _ _ zz x⟩
 split at hgo
 ·rename_i hw;rw[if_pos hw];rcases hgo with hgo| ⟨h1,h2⟩
  ·left;unfold Oper.wp at hgo⊢;generalize (execOp a.eval o).run P E.w=r at hgo⊢;unfold Oper.upon at hgo⊢
   split at hgo
   ·exact hnorm _ _ hgo
   ·exact hnorm _ _ hgo
   ·exact hnorm _ _ hgo
   ·refine hgo.mono λe w'' he=> ?_;cases e with
    |returned v=>exact hnorm _ _ he
    |panicked ch=>exact hbad _ _ _ zz he
    |outgrown=>exact hout he
   ·exact hgo.mono λv w'' he=>hnorm _ _ he
   ·exact hbad _ _ _ zz hgo
   ·exact hgo.elim
  ·exact .inr ⟨h1,hout h2⟩
 ·rename_i hw;rw[if_neg hw];exact hnorm _ _ hgo
theorem LN{id:Nat}{T:aJ}{H:aH}(R:cT)(hf:P.follows .mixedOrders=true)(h:∀ops' R',ops'=ops->R'=R->kN P N nb ops' R' ops.size (Array.replicate ops.size false) T H)(hr:∀e T' H',R e T' H'->Q e T' H'):fO P N nb (.region id ops true) Q T H:=by
 intro E a ho hH ht;refine wp_region_draw λt=> ?_;rw[hf];simp only[Region.schedule,Bool.true_or,if_true,Region.linearise,NH,List.reverse_nil,aN7];rw[vT];have:=h ops R rfl rfl E t E.drew a (E.drew_le.leN nb) ho.drew hH ht;rw[vT]at this;refine dL (λe a w hl=> ?_) _ _ _ this;obtain⟨E',T',h1,h2,h3,h4,h5⟩:=hl;exact⟨E',T',h1,h2,h3,h4,hr _ _ _ h5⟩
theorem dI{N nb:Nat}{P:Program}{Q:cT}{c:Code}{T:aJ}{H:aH}(I:aH->Prop)(hI:I H)(h:∀H',I H'->fO P N nb c Q T H'):fO P N nb c Q T H:=h H hI
theorem nP{P:Program}{N nb:Nat}{Q:cT}{x y:Code}{Q0:cT}{T:aJ}{H:aH}{σ:Type}(rep:σ->List (Nat×PV))(I:σ->aH->Prop)
  (hx:fO P N nb x (bQ (λT' H'=>∃s,oH T' (rep s)/\I s H') Q) T H)
  (hy:∀s H',I s H'->fO P N nb y Q0 (gM (rep s)) H'):fO P N nb x (bQ (fO P N nb y Q0) Q) T H:=by
 refine hx.mono λe T' H' he=> ?_;cases e with
 |normal=>
  obtain⟨s,h1,h2⟩:=he;exact eG (cO h1) (hy s H' h2)
 |_=>exact he
theorem aY{f:Nat}{listed:Array Bool}{T T':aJ}{H H':aH}{l:List Oper}{m:List (Nat×PV)}(hs:zO P N ops.toList l (some (T,H))=some (T',H'))(h:kN P N nb ops Q f listed (gM m) H')(hok:l.all (λo=>dC N o.op)=true:=by decide)
  (hw:oH T' m:=by
   try simp only[aMl,aN7]
   repeat (first|exact trivial|refine⟨rfl, ?_⟩)):bC P N nb ops (bQ (kN P N nb ops Q f listed) Q) l T H:=xF hs hok (h.weak (cO hw))
section
variable{f:Nat}{listed:Array Bool}{T:aJ}{H:aH}{o1 o2 o3:Oper}
theorem OO(i1:Nat)(e1:ops[i1]? =some o1)(h1:bC P N nb ops (bQ (kN P N nb ops Q f (listed.setIfInBounds i1 true)) Q) [o1] T H)(hrs:(List.range ops.size).filter (cZ ops listed)= [i1]:=by kernel_rfl):kN P N nb ops Q (f+1) listed T H:=
 tY _ hrs zz λi hi o ho=>by
  simp only[aN2,aOc,or_false]at hi;subst hi;obtain rfl:=Option.some.inj (e1.symm.trans ho);exact h1
theorem FL(i1 i2:Nat)(e1:ops[i1]? =some o1)(e2:ops[i2]? =some o2)(h1:bC P N nb ops (bQ (kN P N nb ops Q f (listed.setIfInBounds i1 true)) Q) [o1] T H)(h2:bC P N nb ops (bQ (kN P N nb ops Q f (listed.setIfInBounds i2 true)) Q) [o2] T H)(hrs:(List.range ops.size).filter (cZ ops listed)= [i1,i2]:=by kernel_rfl):kN P N nb ops Q (f+1) listed T H:=
 tY _ hrs zz λi hi o ho=>by
  simp only[aN2,aOc,or_false]at hi;rcases hi with rfl|rfl
  ·obtain rfl:=Option.some.inj (e1.symm.trans ho);exact h1
  ·obtain rfl:=Option.some.inj (e2.symm.trans ho);exact h2
theorem QM(i1 i2 i3:Nat)(e1:ops[i1]? =some o1)(e2:ops[i2]? =some o2)(e3:ops[i3]? =some o3)(h1:bC P N nb ops (bQ (kN P N nb ops Q f (listed.setIfInBounds i1 true)) Q) [o1] T H)(h2:bC P N nb ops (bQ (kN P N nb ops Q f (listed.setIfInBounds i2 true)) Q) [o2] T H)(h3:bC P N nb ops (bQ (kN P N nb ops Q f (listed.setIfInBounds i3 true)) Q) [o3] T H)(hrs:(List.range ops.size).filter (cZ ops listed)= [i1,i2,i3]:=by kernel_rfl):kN P N nb ops Q (f+1) listed T H:=
 tY _ hrs zz λi hi o ho=>by
  simp only[aN2,aOc,or_false]at hi;rcases hi with rfl|rfl|rfl
  ·obtain rfl:=Option.some.inj (e1.symm.trans ho);exact h1
  ·obtain rfl:=Option.some.inj (e2.symm.trans ho);exact h2
  ·obtain rfl:=Option.some.inj (e3.symm.trans ho);exact h3
theorem zs4{o4:Oper}(i1 i2 i3 i4:Nat)(e1:ops[i1]? =some o1)(e2:ops[i2]? =some o2)(e3:ops[i3]? =some o3)(e4:ops[i4]? =some o4)(h1:bC P N nb ops (bQ (kN P N nb ops Q f (listed.setIfInBounds i1 true)) Q) [o1] T H)(h2:bC P N nb ops (bQ (kN P N nb ops Q f (listed.setIfInBounds i2 true)) Q) [o2] T H)(h3:bC P N nb ops (bQ (kN P N nb ops Q f (listed.setIfInBounds i3 true)) Q) [o3] T H)(h4:bC P N nb ops (bQ (kN P N nb ops Q f (listed.setIfInBounds i4 true)) Q) [o4] T H)(hrs:(List.range ops.size).filter (cZ ops listed)= [i1,i2,i3,i4]:=by kernel_rfl):kN P N nb ops Q (f+1) listed T H:=
 tY _ hrs zz λi hi o ho=>by
  simp only[aN2,aOc,or_false]at hi;rcases hi with rfl|rfl|rfl|rfl
  ·obtain rfl:=Option.some.inj (e1.symm.trans ho);exact h1
  ·obtain rfl:=Option.some.inj (e2.symm.trans ho);exact h2
  ·obtain rfl:=Option.some.inj (e3.symm.trans ho);exact h3
  ·obtain rfl:=Option.some.inj (e4.symm.trans ho);exact h4
end
end
def vC(m:Nat->Bool)(i:Nat):Nat->Bool:=λj=>bif Nat.beq j i then true else m j
def pL:List (Nat×Nat)->List PV->(Nat->Bool)->aJ
 | (i,s)::l,v::vs,m=>λx=>if x=s then(if m i=true then v else .junk)else pL l vs m x
 |_,_,_=>λ_=>.junk
theorem kZ(i s:Nat)(l:List (Nat×Nat))(v:PV)(vs:List PV)(m:Nat->Bool)(x:Nat):pL ((i,s)::l) (v::vs) m x=if x=s then(if m i=true then v else .junk)else pL l vs m x:=rfl
theorem QW(vs:List PV)(m:Nat->Bool)(x:Nat):pL [] vs m x= .junk:=rfl
theorem xB(m:Nat->Bool)(i:Nat):vC m i i=true:=by simp[vC]
theorem tH{m:Nat->Bool}{i j:Nat}(h:j≠i):vC m i j=m j:=by
 unfold vC;rw[show Nat.beq j i=false from by cases hb:Nat.beq j i with|false=>rfl|true=>exact(h (Nat.eq_of_beq_eq_true hb)).elim];rfl
def IT(m:Nat->Bool)(i:Nat)(d:Option Nat)(r:PV):List (Nat×Nat)->List PV->List PV->Prop
 | (j,t)::l,v::vs,v'::vs'=>(bif Nat.beq j i then(d=some t/\v'=r)else((bif (d==some t)then False else True)/\(m j=true->v'=v)))/\IT m i d r l vs vs'
 | [],_,_=>True
 |_::_,_,_=>False
theorem zV{m:Nat->Bool}{i:Nat}{d:Option Nat}{r:PV}:∀ {l:List (Nat×Nat)} {vs vs':List PV},IT m i d r l vs vs'->∀x,pL l vs' (vC m i) x= .junk\/pL l vs' (vC m i) x=bT (pL l vs m) d r x
 | [],_,_,_,x=>.inl rfl
 | (j,t)::l,[],vs',h,x=>h.elim
 | (j,t)::l,_::_,[],h,x=>h.elim
 | (j,t)::l,v::vs,v'::vs',h,x=>by
  obtain⟨h1,h2⟩:=h;have ih:=zV h2 x;rw[kZ];rcases Classical.em (j=i)with rfl|hj
  ·rw[show Nat.beq j j=true from Nat.beq_refl j]at h1;obtain⟨hd,hv⟩:=h1;subst hd;subst hv;rw[xB,if_pos rfl];simp only[bT,upd]at ih⊢
   split
   ·exact .inr rfl
   ·rename_i hx;rw[if_neg hx]at ih;rw[kZ,if_neg hx];exact ih
  ·have hb:Nat.beq j i=false:=by cases hb:Nat.beq j i with|false=>rfl|true=>exact(hj (Nat.eq_of_beq_eq_true hb)).elim
   rw[hb]at h1;obtain⟨h3,h4⟩:=h1;have hdt:d≠some t:=by
    intro e;rw[show(d==some t)=true from by rw[e];simp]at h3;exact h3
   rw[tH hj]
   split
   ·rename_i hx;subst hx;cases hm:m j with
    |false=>exact .inl zz
    |true=>
     right;rw[if_pos rfl,h4 hm];cases d with
     |none=>show v=pL ((j,x)::l) (v::vs) m x;rw[kZ,if_pos rfl,if_pos hm]
     |some s=>
      simp only[bT,upd];rw[if_neg (λe=>hdt (by rw[e])),kZ,if_pos rfl,if_pos hm]
   ·rename_i hx;rcases ih with e|e
    ·exact .inl e
    ·right;rw[e];cases d with
     |none=>show pL l vs m x=pL ((j,t)::l) (v::vs) m x;rw[kZ,if_neg hx]
     |some s=>
      simp only[bT,upd]
      split
      ·rfl
      ·rw[kZ,if_neg hx]
def aBg(i:Nat)(d:Option Nat):List (Nat×Nat)->Bool
 | (j,t)::l=>(bif Nat.beq j i then(d==some t)else !(d==some t))&&aBg i d l
 | []=>true
def PS(i:Nat):List (Nat×Nat)->List PV->Option PV
 | (j,t)::l,v::vs=>bif Nat.beq j i then some v else PS i l vs
 |_,_=>none
theorem KP{i:Nat}{w:PV}:∀ {l:List (Nat×Nat)} {vs:List PV},PS i l vs=some w->i∈l.map Prod.fst
 | [],vs,h=>by cases vs<;>cases h
 | (a,b)::l,[],h=>by cases h
 | (a,b)::l,v::vs,h=>by
  simp only[PS]at h;cases hb:Nat.beq a i with
  |true=>simp[Nat.eq_of_beq_eq_true hb]
  |false=>rw[hb]at h;exact aOg _ (KP h)
theorem CA{m:Nat->Bool}{i:Nat}{d:Option Nat}{r:PV}:∀ {l:List (Nat×Nat)} {vs:List PV},l.length=vs.length->aBg i d l=true->(∀v,PS i l vs=some v->v=r)->(l.map Prod.fst).Nodup->IT m i d r l vs vs
 | [],_,_,_,_,_=>trivial
 |_::_,[],h,_,_,_=>by cases h
 | (j,t)::l,v::vs,hl,hc,hg,hn=>by
  simp only[aBg,aMj]at hc;obtain⟨hc1,hc2⟩:=hc;simp only[aNl,List.nodup_cons]at hn;have hl':l.length=vs.length:=by simpa using hl
  cases hb:Nat.beq j i with
  |true=>
   rw[hb]at hc1;have hji:=Nat.eq_of_beq_eq_true hb;refine⟨by rw[hb];exact⟨by simpa using hc1,hg v (by simp[PS,hb])⟩,CA hl' hc2 (λw hw=> ?_) hn.2⟩;exact(hn.1 (hji▸KP hw)).elim
  |false=>
   rw[hb]at hc1;refine⟨by rw[hb];exact⟨by
    have:(d==some t)=false:=by simpa using hc1
    rw[this];trivial,λ_=>rfl⟩,CA hl' hc2 (λw hw=>hg w (by simp only[PS,hb];exact hw)) hn.2⟩
section
variable{P:Program}{N nb:Nat}{ops:Array Oper}{Q:cT}{D:Type}
def QT(P:Program)(N nb:Nat)(ops:Array Oper)(Q:cT){D:Type}(sk:List (Nat×Nat))(vs:D->List PV)(G:D->(Nat->Bool)->aH->Prop)(bm:List Nat):Nat->List Oper->Prop
 |_,[]=>True
 |i,o::l=>(∀(m:Nat->Bool) (d:D) (H:aH),m i=false->(∀j,(bm.getD i 0).testBit j=true->m j=true)->(∀k,(bm.getD k 0).testBit i=true->m k=false)->(∀j,ops.size<=j->m j=true)->G d m H->
   bC P N nb ops (bQ (λT' H'=>∃d',G d' (vC m i) H'/\∀x,pL sk (vs d') (vC m i) x= .junk\/pL sk (vs d') (vC m i) x=T' x) Q) [o] (pL sk (vs d) m) H)/\QT P N nb ops Q sk vs G bm (i+1) l
theorem ME{sk:List (Nat×Nat)}{vs:D->List PV}{G:D->(Nat->Bool)->aH->Prop}{bm:List Nat}:∀ {l:List Oper} {i:Nat},QT P N nb ops Q sk vs G bm i l->∀ {k:Nat} {o:Oper},l[k]? =some o->∀(m:Nat->Bool) (d:D) (H:aH),m (i+k)=false->(∀j,(bm.getD (i+k) 0).testBit j=true->m j=true)->(∀k',(bm.getD k' 0).testBit (i+k)=true->m k'=false)->(∀j,ops.size<=j->m j=true)->G d m H->
   bC P N nb ops (bQ (λT' H'=>∃d',G d' (vC m (i+k)) H'/\∀x,pL sk (vs d') (vC m (i+k)) x= .junk\/pL sk (vs d') (vC m (i+k)) x=T' x) Q) [o] (pL sk (vs d) m) H
 | [],_,_,_,_,ho=>by cases ho
 |o::l,i,h,0,o',ho=>by injection ho with ho;subst ho;exact h.1
 |o::l,i,h,k+1,o',ho=>by
  have:=ME h.2 (k:=k) ho
  rwa [show i+1+k=i+(k+1)by omega]at this
theorem TD{Q Q':cT}{l:List Oper}{T:aJ}{H:aH}(h:bC P N nb ops Q l T H)(hq:∀e T H,Q e T H->Q' e T H):bC P N nb ops Q' l T H:=λE a ho hH ht=>
 dL (λe a w hl=>by
  obtain⟨E',T',h1,h2,h3,h4,h5⟩:=hl;exact⟨E',T',h1,h2,h3,h4,hq _ _ _ h5⟩) _ _ _ (h E a ho hH ht)
theorem aCv{n:Nat}{f:Nat->Bool}{i:Nat}(hi:i<n)(hf:f i=false):((List.range n).filter λj=> !f j).length=((List.range n).filter λj=> !vC f i j).length+1:=by
 have key:∀(l:List Nat),l.Nodup->(i∈l->(l.filter λj=> !f j).length=(l.filter λj=> !vC f i j).length+1)/\(i∉l->(l.filter λj=> !f j)=(l.filter λj=> !vC f i j)):=by
  intro l
  induction l with
  |nil=>intro _;exact⟨(λh=>by cases h),(λ_=>rfl)⟩
  |cons a l ih=>
   intro hn;obtain⟨hn1,hn2⟩:=List.nodup_cons.1 hn;obtain⟨ih1,ih2⟩:=ih hn2;refine⟨λh=> ?_,λh=> ?_⟩
   ·rcases Classical.em (a=i)with rfl|ha
    ·rw[List.filter_cons_of_pos (by simp[hf]),List.filter_cons_of_neg (by simp[xB]),ih2 hn1];rfl
    ·have hil:i∈l:=by
      rcases aN2.1 h with e|e
      ·exact(ha e.symm).elim
      ·exact e
     cases hfa:f a with
     |true=>rw[List.filter_cons_of_neg (by simp[hfa]),List.filter_cons_of_neg (by simp[tH ha,hfa])];exact ih1 hil
     |false=>rw[List.filter_cons_of_pos (by simp[hfa]),List.filter_cons_of_pos (by simp[tH ha,hfa]),aM7,aM7,ih1 hil]
   ·have ha:a≠i:=λe=>h (by simp[e]);have hil:i∉l:=λe=>h (aOg _ e);cases hfa:f a with
    |true=>rw[List.filter_cons_of_neg (by simp[hfa]),List.filter_cons_of_neg (by simp[tH ha,hfa]),ih2 hil]
    |false=>rw[List.filter_cons_of_pos (by simp[hfa]),List.filter_cons_of_pos (by simp[tH ha,hfa]),ih2 hil]
 exact(key _ List.nodup_range).1 (aN6.2 hi)
theorem aCm{sk:List (Nat×Nat)}{vs:D->List PV}{G:D->(Nat->Bool)->aH->Prop}{bm:List Nat}(hbm:cH ops.toList=bm)(hb:iR ops.toList=true)(hs:QT P N nb ops Q sk vs G bm 0 ops.toList)
  (hfin:∀d H,G d (λ_=>true) H->Q .normal (pL sk (vs d) λ_=>true) H):∀(f:Nat) (listed:Array Bool) (d:D) (H:aH),listed.size=ops.size->((List.range ops.size).filter λi=> !listed.getD i true).length=f->
   (∀j o,ops.toList[j]? =some o->listed.getD j false=true->∀e∈o.after.toList,Region.binds .any e=true->listed.getD e.on false=true)->G d (λj=>listed.getD j true) H->
   kN P N nb ops Q f listed (pL sk (vs d) λj=>listed.getD j true) H:=by
 have hdT:∀(listed:Array Bool) (j:Nat),j<listed.size->∀b c:Bool,listed.getD j b=listed.getD j c:=by
  intro listed j hj b c;rw[aMt,aMt,aMy hj];rfl
 have hdO:∀(listed:Array Bool) (j:Nat),listed.size<=j->∀b:Bool,listed.getD j b=b:=by
  intro listed j hj b;rw[aMt,aMp hj];rfl
 intro f
 induction f with
 |zero=>
  intro listed d H hsz hcnt hcl hG;have hall:(λj=>listed.getD j true)=λ_=>true:=by
   funext j;rcases aMo j ops.size with hj|hj
   ·cases hq:listed.getD j true with
    |true=>rfl
    |false=>
     have hm:j∈(List.range ops.size).filter λi=> !listed.getD i true:=aN5.2 ⟨aN6.2 hj,by rw[hq];rfl⟩;have:=List.length_pos_of_mem hm;omega
   ·exact hdO _ _ z8 _
  rw[hall]at hG⊢;exact RU (hfin d H hG)
 |succ f ih=>
  intro listed d H hsz hcnt hcl hG;refine tY _ rfl ?_ ?_
  ·have hex:∃j,j<ops.size/\listed.getD j false=false:=by
    apply Classical.byContradiction;intro hno;have:((List.range ops.size).filter λi=> !listed.getD i true)= []:=by
     rw[List.filter_eq_nil_iff];intro j hj;rw[aN6]at hj;cases hq:listed.getD j false with
     |true=>rw[hdT _ _ z8 true false,hq];simp
     |false=>exact(hno ⟨j,hj,hq⟩).elim
    rw[this]at hcnt;cases hcnt
   obtain⟨j0,⟨hj0,hl0⟩,hmin⟩:=oZ hex;have hready:cZ ops listed j0=true:=by
    unfold cZ;rw[hdT _ j0 z8 true false,hl0,aMy hj0];simp only[aNx,Bool.true_and,aM6,aMz];rw[Array.all_eq_true'];intro e he;cases hbd:Region.binds .any e with
    |false=>rfl
    |true=>
     have hon:=iL hb (i:=j0) (o:=ops[j0]) (by simp[hj0]) (e:=e) (by simpa using he) hbd;simp only[Bool.not_true,Bool.false_or];cases hq:listed.getD e.on false with
     |true=>rfl
     |false=>have:=hmin e.on ⟨z8,hq⟩;omega
   intro hnil;have:j0∈(List.range ops.size).filter (cZ ops listed):=aN5.2 ⟨aN6.2 hj0,hready⟩;rw[hnil]at this;cases this
  ·intro i hi o ho;obtain⟨hi1,hi2⟩:=aN5.1 hi;rw[aN6]at hi1;unfold cZ at hi2;rw[ho]at hi2;simp only[aMj,aMk,aM6,aMz]at hi2;obtain⟨hnl,hpre⟩:=hi2;rw[Array.all_eq_true']at hpre;have hot:ops.toList[i]? =some o:=by rw[aNk];exact ho
   have hprei:∀e∈o.after.toList,Region.binds .any e=true->listed.getD e.on false=true:=by
    intro e he hbd;have:=hpre e (by simpa using he);rw[hbd]at this;simpa using this
   have hsnd:=lJ ops.toList _ ops.toList [] rfl zz;have hbf:∀j k,(bm.getD k 0).testBit j=true->Bf ops.toList j k:=λj k h=>hsnd.2 k j (by
    have e:List.foldl vX [] ops.toList=bm:=hbm;rw[e];exact h)
   have hpre2:∀j,(bm.getD i 0).testBit j=true->listed.getD j true=true:=by
    intro j hj;have:listed.getD j false=true:=Bf.pre (listed:=λj=>listed.getD j false) (i:=i) (λj' o' ho' hor e he hbd=>by
     rcases hor with hor|rfl
     ·exact hcl j' o' ho' hor e he hbd
     ·rw[hot]at ho';injection ho' with ho';subst ho';exact hprei e he hbd) (hbf j i hj)
    rcases aMo j listed.size with h|h
    ·rw[hdT _ _ h true false];exact this
    ·exact hdO _ _ h _
   have hno:∀k,(bm.getD k 0).testBit i=true->listed.getD k true=false:=by
    intro k hk;have hb':=hbf i k hk;have hlt:k<ops.size:=by
     rcases aMo k ops.size with h|h
     ·exact h
     ·exfalso;have hlen:bm.length=ops.size:=by
       have:=hsnd.1;rw[show List.foldl vX [] ops.toList=bm from hbm]at this;simpa using this
      rw[aNj,aM2 z8]at hk;simp at hk
    cases hq:listed.getD k true with
    |false=>rfl
    |true=>
     have:listed.getD i false=true:=Bf.closed (listed:=λj=>listed.getD j false) hcl hb' (by rw[<-hq];exact hdT _ _ z8 _ _);rw[hdT _ _ z8 false true,hnl]at this;cases this
   have hon:(λj=>(listed.setIfInBounds i true).getD j true)=vC (λj=>listed.getD j true) i:=by
    funext j;rcases Classical.em (j=i)with rfl|hj
    ·rw[xB,aMt,Array.getElem?_setIfInBounds];simp[hi1,hsz]
    ·rw[tH hj,aMt,Array.getElem?_setIfInBounds,if_neg (λe=>hj e.symm),<-aMt]
   have:=ME hs (k:=i) hot (λj=>listed.getD j true) d H (by rw[aNn];exact hnl) (by rw[aNn];exact hpre2) (by rw[aNn];exact hno) (λj hj=>hdO _ _ z8 _) hG;rw[aNn]at this;refine TD this λe T' H' he=> ?_;cases e with
   |normal=>
    obtain⟨d',hG',hw⟩:=he;rw[<-hon]at hG' hw;refine kN.weak (ih (listed.setIfInBounds i true) d' H' (by simpa using hsz) ?_ ?_ hG') hw
    ·have:=aCv (f:=λj=>listed.getD j true) hi1 hnl;rw[<-hon]at this;simp only at this hcnt⊢;omega
    ·intro j o' ho' hj e he hbd;have hge:∀k,listed.getD k false=true->(listed.setIfInBounds i true).getD k false=true:=by
      intro k hk;rw[aMt,Array.getElem?_setIfInBounds]
      split
      ·rename_i he;subst he;simp[hi1,hsz]
      ·rw[<-aMt];exact hk
     rcases Classical.em (j=i)with rfl|hji
     ·rw[hot]at ho';injection ho' with ho';subst ho';exact hge _ (hprei e he hbd)
     ·refine hge _ (hcl j o' ho' ?_ e he hbd);rw[aMt,Array.getElem?_setIfInBounds,if_neg (λe=>hji e.symm),<-aMt]at hj;exact hj
   |_=>exact he
def aFh(n:Nat)(T:aJ):List (Nat×Nat)->List PV->Prop
 | (i,s)::l,v::vs=>(i<n\/T s=v)/\aFh n T l vs
 |_,_=>True
def m0(n:Nat):Nat->Bool:=λj=>Nat.ble n j
theorem aI9{n:Nat}{T:aJ}:∀ {l:List (Nat×Nat)} {vs:List PV},aFh n T l vs->∀x,pL l vs (m0 n) x= .junk\/pL l vs (m0 n) x=T x
 | [],_,_,x=>.inl rfl
 |_::_,[],_,x=>.inl rfl
 | (i,s)::l,v::vs,h,x=>by
  rw[kZ]
  split
  ·rename_i hx;subst hx
   split
   ·rename_i hm;rcases h.1 with h1|h1
    ·have:=Nat.le_of_ble_eq_true hm;omega
    ·exact .inr h1.symm
   ·exact .inl rfl
  ·exact aI9 h.2 x
theorem lM{id:Nat}{T:aJ}{H:aH}(n:Nat)(hok:kT P ops.toList=true)(hn:ops.size=n)(bm:List Nat)(hbm:cH ops.toList=bm)(sk:List (Nat×Nat))(vs:D->List PV)(G:D->(Nat->Bool)->aH->Prop)(d0:D)(hf:aFh n T sk (vs d0))(hG:G d0 (m0 n) H)
  (hs:QT P N nb ops Q sk vs G bm 0 ops.toList) (hfin:∀d H,G d (λ_=>true) H->Q .normal (pL sk (vs d) λ_=>true) H):fO P N nb (.region id ops true) Q T H:=by
 unfold kT at hok;simp only[aMj]at hok;refine eG (aI9 hf) (LN Q hok.1.1 (λops' R' he hR=> ?_) λ_ _ _ h=>h);subst he hR;have hm:(λj=>(Array.replicate ops'.size false).getD j true)=m0 n:=by
  funext j;unfold m0;rw[aMt];rcases aMo j ops'.size with h|h
  ·rw[aMy (by simpa using h)];have:¬Nat.ble n j=true:=λe=>by have:=Nat.le_of_ble_eq_true e;omega
   simp[Bool.eq_false_iff.2 this]
  ·rw[aMp (by simpa using h)];have:Nat.ble n j=true:=Nat.ble_eq_true_of_le z8;simp[this]
 have:=aCm hbm hok.1.2 hs hfin ops'.size (Array.replicate ops'.size false) d0 H zz (by
  rw[List.filter_eq_self.2 (λj hj=>by
   rw[aN6]at hj;rw[aMt,aMy (by simpa using hj)];simp),List.length_range]) (λj o ho hj=>by
  exfalso;rw[aMt]at hj;rcases aMo j ops'.size with h|h
  ·rw[aMy (by simpa using h)]at hj;simp at hj
  ·rw[aMp (by simpa using h)]at hj;cases hj) (by rw[hm];exact hG)
 rwa [hm]at this
end
set_option maxRecDepth 4000
theorem RJ{α:Type}{l:List α}{i:Nat}{a:α}:(l.set i a).length=l.length:=lS
theorem eO:type_of%(@tN):= @tN
theorem gZ:type_of%(@Bool.not_true):= @Bool.not_true
theorem uR:type_of%(@aNx):= @aNx
theorem dU:type_of%(@decide_true):= @decide_true
theorem nD:type_of%(@aNv.{0}):= @aNv.{0}
theorem JX:type_of%(@Option.isNone_some.{0}):= @Option.isNone_some.{0}
theorem vV:type_of%(@Int.toNat_zero):= @Int.toNat_zero
theorem tZ:type_of%(@Bool.or_self):= @Bool.or_self
theorem BP:type_of%(@aOh.{0}):= @aOh.{0}
theorem DU:type_of%(@aNl.{0,0}):= @aNl.{0,0}
theorem PF:type_of%(@Nat.zero_mul):= @Nat.zero_mul
theorem PW:type_of%(@aNm):= @aNm
theorem JT:type_of%(@aNh):= @aNh
theorem EQ:type_of%(@aOa.{0}):= @aOa.{0}
theorem OH:type_of%(@Int.toNat_one):= @Int.toNat_one
theorem zqA:type_of%(@aNn):= @aNn
theorem zqM:type_of%(@aMw.{0,0}):= @aMw.{0,0}
theorem zqq:type_of%(@aN7.{0}):= @aN7.{0}
theorem zqE:type_of%(@List.append_eq.{0}):= @List.append_eq.{0}
theorem zqT:type_of%(@if_true.{1}):= @if_true.{1}
theorem fJ:type_of%((aI @cD.eq_1 @cD.eq_2)):=(aI @cD.eq_1 @cD.eq_2)
theorem JS:type_of%(@if_false.{1}):= @if_false.{1}
theorem NP:type_of%(@ite_self.{1}):= @ite_self.{1}
theorem zrC:type_of%(@List.set_set.{0}):= @List.set_set.{0}
theorem zrD:type_of%(@aNw.{0}):= @aNw.{0}
theorem zrF:type_of%(@aMl.{0}):= @aMl.{0}
theorem zrK:type_of%(@Option.isNone_none.{0}):= @Option.isNone_none.{0}
theorem oF:type_of%((aI @dG.eq_1 @dG.eq_2)):=(aI @dG.eq_1 @dG.eq_2)
theorem nF:type_of%(aI @eO (aI @kZ @QW)):=(aI @eO (aI @kZ @QW))
theorem aS{p q:Prop}(a:p)(b:q):p/\q:=⟨a,b⟩
theorem bR{p q r:Prop}(a:p)(b:q)(c:r):p/\q/\r:=⟨a,b,c⟩
theorem bD{p q r s:Prop}(a:p)(b:q)(c:r)(d:s):p/\q/\r/\s:=⟨a,b,c,d⟩
theorem bL{p q r s t:Prop}(a:p)(b:q)(c:r)(d:s)(e:t):p/\q/\r/\s/\t:=⟨a,b,c,d,e⟩
theorem cF{p q r s t u:Prop}(a:p)(b:q)(c:r)(d:s)(e:t)(f:u):p/\q/\r/\s/\t/\u:=⟨a,b,c,d,e,f⟩
theorem aG{p q r s t u v:Prop}(a:p)(b:q)(c:r)(d:s)(e:t)(f:u)(g:v):p/\q/\r/\s/\t/\u/\v:=⟨a,b,c,d,e,f,g⟩
theorem fI{p:Prop}{X:Prop}(x:X)(h:X->p:=by intro z;simp only[kA,seval,aE,nF,z]<;>with_reducible rfl):p:=h x
theorem DT{p:Prop}{X:Prop}(x:X)(h:X->p:=by intro z;simp only[kC,seval,aE,nF,z]<;>with_reducible rfl):p:=h x
theorem bP{p:Prop}{X:Prop}(x:X)(h:X->p:=by intro z;simp only[kC,seval,aE,nF,z]):p:=h x
theorem bK{p:Prop}{X:Prop}(x:X)(h:X->p:=by intro z;simp only[kC,seval,aE,nF,z]<;>first|done|rfl):p:=h x
theorem dW{p:Prop}{X:Prop}(x:X)(h:X->p:=by intro z;simp only[kC,seval,aE,nF,z]<;>rfl):p:=h x
theorem Zzn{p:Prop}{X:Prop}(x:X)(h:X->p:=by intro z;simp only[jN,seval,aE,nF,z]<;>with_reducible rfl):p:=h x
theorem JQ{p:Prop}{X:Prop}(x:X)(h:X->p:=by intro z;simp only[jN,seval,aE,nF,z]<;>rfl):p:=h x
theorem DQ{p:Prop}{X:Prop}(x:X)(h:X->p:=by intro z;simp only[jP,jO,jN,seval,aE,nF,z]<;>with_reducible rfl):p:=h x
theorem zN{p:Prop}{X:Prop}(x:X)(h:X->p:=by intro z;simp only[kE,seval,aE,nF,z]<;>with_reducible rfl):p:=h x
theorem TP{p:Prop}{X:Prop}(x:X)(h:X->p:=by intro z;simp only[kE,seval,aE,nF,z]):p:=h x
theorem ZY{p:Prop}{X:Prop}(x:X)(h:X->p:=by intro z;simp only[kE,seval,aE,nF,z]<;>first|done|rfl):p:=h x
theorem EY{p:Prop}{X:Prop}(x:X)(h:X->p:=by intro z;simp only[jD,jO,jN,seval,aE,nF,z]<;>with_reducible rfl):p:=h x
theorem XO{p:Prop}{X:Prop}(x:X)(h:X->p:=by intro z;simp only[jD,jO,jN,seval,aE,nF,z]<;>first|done|rfl):p:=h x
theorem JW{p:Prop}{X:Prop}(x:X)(h:X->p:=by intro z;simp only[jX,jO,jN,seval,aE,nF,z]<;>with_reducible rfl):p:=h x
theorem JA{p:Prop}{X:Prop}(x:X)(h:X->p:=by intro z;simp only[jL,jN,seval,aE,nF,z]<;>with_reducible rfl):p:=h x
theorem dJ{p:Prop}{X:Prop}(x:X)(h:X->p:=by intro z;first|rfl| (simp only[jN,seval,aE,nF,z]<;>first|done|with_reducible rfl)):p:=h x
section
variable{P:Program}{N nb:Nat}{ops:Array Oper}{Q:cT}{A X:Prop}{T T':aJ}{H H':aH}{l:List Oper}{o:Oper}
theorem aV{id:Nat}(x:X)(h:Q .normal T' H')(t:fO P N nb (.region id ops false) Q T H->A:=by
  intro z
  repeat refine wS ?_
  exact z) (hs:X->zO P N ops.toList ops.toList (some (T,H))=some (T',H'):=by intro z;simp only[kA,seval,aE,nF,z]<;>with_reducible rfl) (hok:ops.toList.all (λo=>dC N o.op)=true:=by decide):A:=t (eE (hs x) hok h)
theorem eA{id:Nat}(n:Nat)(x:X)(h:bC P N nb ops Q (ops.toList.drop n) T' H')(t:fO P N nb (.region id ops false) Q T H->A:=by
  intro z
  repeat refine wS ?_
  exact z) (hs:X->zO P N ops.toList (ops.toList.take n) (some (T,H))=some (T',H'):=by intro z;simp only[kA,seval,aE,nF,z]<;>with_reducible rfl) (hok:(ops.toList.take n).all (λo=>dC N o.op)=true:=by decide):A:=t (wR (eT n (hs x) hok h))
theorem DS(n:Nat)(x:X)(h:bC P N nb ops Q (l.drop n) T' H')(hs:X->zO P N ops.toList (l.take n) (some (T,H))=some (T',H'):=by intro z;simp only[kA,seval,aE,nF,z]<;>with_reducible rfl)(hok:(l.take n).all (λo=>dC N o.op)=true:=by decide):bC P N nb ops Q l T H:=eT n (hs x) hok h
theorem bH(x:X)(h:Q .normal T' H')(hs:X->zO P N ops.toList l (some (T,H))=some (T',H'):=by intro z;simp only[kA,seval,aE,nF,z]<;>with_reducible rfl)(hok:l.all (λo=>dC N o.op)=true:=by decide):bC P N nb ops Q l T H:=xF (hs x) hok h
theorem qT{f:FuncId}{args:List PV}{r:PV}(x:X)(hgo:bO P f=true)(hc:aR P f args H λr' H''=>r'=r/\H''=H)(h:bC P N nb ops Q l (bT T o.dst r) H)(hcall:X->iC T o.op=some (f,args):=by intro z;simp only[kC,seval,aE,nF,z]<;>first|with_reducible rfl|rfl)(hw:X->aZ ops.toList T N o=some true:=by intro z;simp only[kC,seval,aE,nF,z])(hok:dC N o.op=true:=by decide):bC P N nb ops Q (o::l) T H:=oP (hcall x) (hw x) hok hgo hc h
theorem oW{f:FuncId}{args:List PV}{R:PV->aH->Prop}(x:X)(hgo:bO P f=true)(hc:aR P f args H R)(h:∀r H',R r H'->bC P N nb ops Q l (bT T o.dst r) H')(hcall:X->iC T o.op=some (f,args):=by intro z;simp only[kC,seval,aE,nF,z]<;>first|with_reducible rfl|rfl)(hw:X->aZ ops.toList T N o=some true:=by intro z;simp only[kC,seval,aE,nF,z])(hok:dC N o.op=true:=by decide):bC P N nb ops Q (o::l) T H:=oC (hcall x) (hw x) hok hgo hc h
theorem gG{c:Operand}{c1 c2:Code}{b:Bool}(x:X)(h1:b=true->fO P N nb c1 Q T H)(h2:b=false->fO P N nb c2 Q T H)(t:fO P N nb (.cond c c1 c2) Q T H->A:=by
  intro z
  repeat refine wS ?_
  exact z) (hc:aU N c=true:=by rfl) (hb:X->bS T c= .bool b:=by intro z;simp only[jN,seval,aE,nF,z]<;>with_reducible rfl):A:=t (wC hc (hb x) h1 h2)
theorem pJ{c:Operand}{c1 c2:Code}(x:X)(h:fO P N nb c2 Q T H)(t:fO P N nb (.cond c c1 c2) Q T H->A:=by
  intro z
  repeat refine wS ?_
  exact z) (hc:aU N c=true:=by rfl) (hb:X->bS T c= .bool false:=by intro z;simp only[jN,seval,aE,nF,z]<;>with_reducible rfl):A:=t (wF hc (hb x) h)
theorem VV{c:Operand}{c1 c2:Code}(x:X)(h:fO P N nb c1 Q T H)(t:fO P N nb (.cond c c1 c2) Q T H->A:=by
  intro z
  repeat refine wS ?_
  exact z) (hc:aU N c=true:=by rfl) (hb:X->bS T c= .bool true:=by intro z;simp only[jN,seval,aE,nF,z]<;>with_reducible rfl):A:=t (nX hc (hb x) h)
theorem gQ(live:List Nat){m:List (Nat×PV)}{c:Code}(x:X)(h:fO P N nb c Q (gM m) H)(hl:X->live.map (λd=>(d,T d))=m:=by intro z;simp only[jN,seval,aE,nF,z]<;>with_reducible rfl):fO P N nb c Q T H:=wL live (hl x) h
theorem tJ{id:Nat}{F:aJ}{G':Nat->Bool}(x:X)(h:Q .normal F H')(t:fO P N nb (.region id ops false) Q T H->A:=by
  intro z
  repeat refine wS ?_
  exact z) (hs:X->PT P N ops.toList ops.toList (some (T,BX,H))=some (T',G',H'):=by intro z;simp only[jG,jO,jN,seval,aE,nF,z]<;>with_reducible rfl) (hok:ops.toList.all (λo=>dC N o.op)=true:=by decide) (hf:fT T' G' F:=by repeat (first|exact fT.base _|with_reducible apply fT.keep|apply fT.drop)):A:=t (QD (hs x) hok hf h)
theorem yL(n:Nat){G G':Nat->Bool}(x:X)(h:bC P N nb ops Q (l.drop n) (hZ (.tup []) T' G') H')(hs:X->PT P N ops.toList (l.take n) (some (T,G,H))=some (T',G',H'):=by intro z;simp only[jG,jO,jN,seval,aE,nF,z]<;>with_reducible rfl)(hok:(l.take n).all (λo=>dC N o.op)=true:=by decide):bC P N nb ops Q l (hZ (.tup []) T G) H:=aGl n (hs x) hok h
theorem DM{F:aJ}{G G':Nat->Bool}(x:X)(h:Q .normal F H')(hs:X->PT P N ops.toList l (some (T,G,H))=some (T',G',H'):=by intro z;simp only[jG,jO,jN,seval,aE,nF,z]<;>with_reducible rfl)(hok:l.all (λo=>dC N o.op)=true:=by decide)(hf:fT T' G' F:=by repeat (first|exact fT.base _|with_reducible apply fT.keep|apply fT.drop)):bC P N nb ops Q l (hZ (.tup []) T G) H:=aEl (hs x) hok hf h
theorem lY(n:Nat){k:Nat}{G G':Nat->Bool}(x:X)(h:DP P N ops Q (k+(l.take n).length) (l.drop n) (hZ (.tup []) T' G') H')(hs:X->psq P N ops.toList (l.take n) (some (T,G,H))=some (T',G',H'):=by intro z;simp only[jP,jO,jN,seval,aE,nF,z]<;>with_reducible rfl)(hok:(l.take n).all (λo=>dC N o.op)=true:=by decide):DP P N ops Q k l (hZ (.tup []) T G) H:=IB n (hs x) hok h
theorem iI{k:Nat}{F:aJ}{G G':Nat->Bool}(x:X)(h:Q .normal F H')(hs:X->psq P N ops.toList l (some (T,G,H))=some (T',G',H'):=by intro z;simp only[jP,jO,jN,seval,aE,nF,z]<;>with_reducible rfl)(hok:l.all (λo=>dC N o.op)=true:=by decide)(hf:fT T' G' F:=by repeat (first|exact fT.base _|with_reducible apply fT.keep|apply fT.drop)):DP P N ops Q k l (hZ (.tup []) T G) H:=JP (hs x) hok hf h
theorem pP{k:Nat}{G:Nat->Bool}(x:X)(h:DP P N ops Q (k+1) l (hZ (.tup []) (bT T o.dst (.tup [])) (xR G o.dst false)) H)(hc:X->fK ops.toList T G N o=some false:=by intro z;simp only[kE,seval,aE,nF,z]<;>with_reducible rfl):DP P N ops Q k (o::l) (hZ (.tup []) T G) H:=aBw (hc x) h
theorem oO{G:Nat->Bool}(x:X)(h:bC P N nb ops Q l (hZ (.tup []) (bT T o.dst (.tup [])) (xR G o.dst false)) H)(hc:X->fK ops.toList T G N o=some false:=by intro z;simp only[kE,seval,aE,nF,z]<;>with_reducible rfl):bC P N nb ops Q (o::l) (hZ (.tup []) T G) H:=OB (hc x) h
theorem CE{k:Nat}{G:Nat->Bool}{c:Bool}{f:FuncId}{args:List PV}{r:PV}(x:X)(hgo:bO P f=true)(hp:c=true->aR P f args H λr' H''=>r'=r/\H''=H)(h:DP P N ops Q (k+1) l (hZ (.tup []) (bT T o.dst r) (xR G o.dst c)) H)(hcall:X->iC T o.op=some (f,args):=by intro z;simp only[kE,seval,aE,nF,z]<;>first|with_reducible rfl|rfl)(hc:X->fK ops.toList T G N o=some c:=by intro z;simp only[kE,seval,aE,nF,z]<;>with_reducible rfl)(hg:X->o.op.operands.toList.all (AQ c G)=true:=by intro z;simp only[kE,seval,aE,nF,z])(hok:dC N o.op=true:=by decide):DP P N ops Q k (o::l) (hZ (.tup []) T G) H:=RX (hcall x) (hc x) (hg x) hok hgo hp h
theorem XI{G:Nat->Bool}{c:Bool}{f:FuncId}{args:List PV}{r:PV}(x:X)(hgo:bO P f=true)(hp:c=true->aR P f args H λr' H''=>r'=r/\H''=H)(h:bC P N nb ops Q l (hZ (.tup []) (bT T o.dst r) (xR G o.dst c)) H)(hcall:X->iC T o.op=some (f,args):=by intro z;simp only[kE,seval,aE,nF,z]<;>first|with_reducible rfl|rfl)(hc:X->fK ops.toList T G N o=some c:=by intro z;simp only[kE,seval,aE,nF,z]<;>with_reducible rfl)(hg:X->o.op.operands.toList.all (AQ c G)=true:=by intro z;simp only[kE,seval,aE,nF,z])(hok:dC N o.op=true:=by decide):bC P N nb ops Q (o::l) (hZ (.tup []) T G) H:=CO (hcall x) (hc x) (hg x) hok hgo hp h
theorem sU{id:Nat}(h:Q .normal T' H')(t:fO P N nb (.region id ops false) Q T H->A:=by
  intro z
  repeat refine wS ?_
  exact z) (hs:zO P N ops.toList ops.toList (some (T,H))=some (T',H'):=by simp only[kA,seval,aE,nF]<;>with_reducible rfl) (hok:ops.toList.all (λo=>dC N o.op)=true:=by decide):A:=t (eE hs hok h)
theorem MB{id:Nat}(n:Nat)(h:bC P N nb ops Q (ops.toList.drop n) T' H')(t:fO P N nb (.region id ops false) Q T H->A:=by
  intro z
  repeat refine wS ?_
  exact z) (hs:zO P N ops.toList (ops.toList.take n) (some (T,H))=some (T',H'):=by simp only[kA,seval,aE,nF]<;>with_reducible rfl) (hok:(ops.toList.take n).all (λo=>dC N o.op)=true:=by decide):A:=t (wR (eT n hs hok h))
theorem aFa(n:Nat)(h:bC P N nb ops Q (l.drop n) T' H')(hs:zO P N ops.toList (l.take n) (some (T,H))=some (T',H'):=by simp only[kA,seval,aE,nF]<;>with_reducible rfl)(hok:(l.take n).all (λo=>dC N o.op)=true:=by decide):bC P N nb ops Q l T H:=eT n hs hok h
theorem CJ(h:Q .normal T' H')(hs:zO P N ops.toList l (some (T,H))=some (T',H'):=by simp only[kA,seval,aE,nF]<;>with_reducible rfl)(hok:l.all (λo=>dC N o.op)=true:=by decide):bC P N nb ops Q l T H:=xF hs hok h
theorem aKs{f:FuncId}{args:List PV}{r:PV}(hgo:bO P f=true)(hc:aR P f args H λr' H''=>r'=r/\H''=H)(h:bC P N nb ops Q l (bT T o.dst r) H)(hcall:iC T o.op=some (f,args):=by simp only[kC,seval,aE,nF]<;>first|with_reducible rfl|rfl)(hw:aZ ops.toList T N o=some true:=by simp only[kC,seval,aE,nF])(hok:dC N o.op=true:=by decide):bC P N nb ops Q (o::l) T H:=oP hcall hw hok hgo hc h
theorem aFq{f:FuncId}{args:List PV}{R:PV->aH->Prop}(hgo:bO P f=true)(hc:aR P f args H R)(h:∀r H',R r H'->bC P N nb ops Q l (bT T o.dst r) H')(hcall:iC T o.op=some (f,args):=by simp only[kC,seval,aE,nF]<;>first|with_reducible rfl|rfl)(hw:aZ ops.toList T N o=some true:=by simp only[kC,seval,aE,nF])(hok:dC N o.op=true:=by decide):bC P N nb ops Q (o::l) T H:=oC hcall hw hok hgo hc h
theorem aAl{c:Operand}{c1 c2:Code}{b:Bool}(h1:b=true->fO P N nb c1 Q T H)(h2:b=false->fO P N nb c2 Q T H)(t:fO P N nb (.cond c c1 c2) Q T H->A:=by
  intro z
  repeat refine wS ?_
  exact z) (hc:aU N c=true:=by rfl) (hb:bS T c= .bool b:=by simp only[jN,seval,aE,nF]<;>with_reducible rfl):A:=t (wC hc hb h1 h2)
theorem aK1{c:Operand}{c1 c2:Code}(h:fO P N nb c2 Q T H)(t:fO P N nb (.cond c c1 c2) Q T H->A:=by
  intro z
  repeat refine wS ?_
  exact z) (hc:aU N c=true:=by rfl) (hb:bS T c= .bool false:=by simp only[jN,seval,aE,nF]<;>with_reducible rfl):A:=t (wF hc hb h)
theorem aK0(live:List Nat){m:List (Nat×PV)}{c:Code}(h:fO P N nb c Q (gM m) H)(hl:live.map (λd=>(d,T d))=m:=by simp only[jN,seval,aE,nF]<;>with_reducible rfl):fO P N nb c Q T H:=wL live hl h
theorem aIs{F:aJ}{G G':Nat->Bool}(h:Q .normal F H')(hs:PT P N ops.toList l (some (T,G,H))=some (T',G',H'):=by simp only[jG,jO,jN,seval,aE,nF]<;>with_reducible rfl)(hok:l.all (λo=>dC N o.op)=true:=by decide)(hf:fT T' G' F:=by repeat (first|exact fT.base _|with_reducible apply fT.keep|apply fT.drop)):bC P N nb ops Q l (hZ (.tup []) T G) H:=aEl hs hok hf h
theorem aKc{k:Nat}{F:aJ}{G G':Nat->Bool}(h:Q .normal F H')(hs:psq P N ops.toList l (some (T,G,H))=some (T',G',H'):=by simp only[jP,jO,jN,seval,aE,nF]<;>with_reducible rfl)(hok:l.all (λo=>dC N o.op)=true:=by decide)(hf:fT T' G' F:=by repeat (first|exact fT.base _|with_reducible apply fT.keep|apply fT.drop)):DP P N ops Q k l (hZ (.tup []) T G) H:=JP hs hok hf h
theorem aI0{G:Nat->Bool}{c:Bool}{f:FuncId}{args:List PV}{r:PV}(hgo:bO P f=true)(hp:c=true->aR P f args H λr' H''=>r'=r/\H''=H)(h:bC P N nb ops Q l (hZ (.tup []) (bT T o.dst r) (xR G o.dst c)) H)(hcall:iC T o.op=some (f,args):=by simp only[kE,seval,aE,nF]<;>first|with_reducible rfl|rfl)(hc:fK ops.toList T G N o=some c:=by simp only[kE,seval,aE,nF]<;>with_reducible rfl)(hg:o.op.operands.toList.all (AQ c G)=true:=by simp only[kE,seval,aE,nF])(hok:dC N o.op=true:=by decide):bC P N nb ops Q (o::l) (hZ (.tup []) T G) H:=CO hcall hc hg hok hgo hp h
end
theorem cU{m:Nat->Bool}(i:Nat)(d:Nat){r:PV}{l:List (Nat×Nat)}{vs:List PV}(hl:l.length=vs.length:=by rfl)(hc:aBg i (some d) l=true:=by rfl)(hv:∀v,PS i l vs=some v->v=r:=by exact λv hv=>(Option.some.inj hv).symm)(hn:(l.map Prod.fst).Nodup:=by decide):∀x,pL l vs (vC m i) x= .junk\/pL l vs (vC m i) x=bT (pL l vs m) (some d) r x:=zV (CA (i:=i) (d:=some d) (r:=r) hl hc hv hn)
theorem sP{p:Prop}(h:p:=by first|exact(aN9 _).symm|rfl):p:=h
structure World.Re(w w':World)(b:Nat):Prop where
 os:w'.os=w.os
 tape:w'.tape=w.tape
 output:w'.output=w.output
 size:w.heap.size<=w'.heap.size
 other:∀x,x<w.heap.size->x≠b->w'.heap[x]? =w.heap[x]?
section
variable{E:aK}(h:E.Ok){id:Nat}{cs:List PV}(hi:E.H[id]? =some (.row cs)){w':World}(ht:World.Re E.w w' (E.ρ id))(cs':List PV)
include h hi ht
end
section
variable{P:Program}{N nb:Nat}{Q:cT}
end
end Go.Abs
