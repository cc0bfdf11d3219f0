/- Part 9 of a proof of the law ServerReference: Go data as trees, the walks of the functions that the law reaches, the plain laws. -/
import Derived.Test.YtndpndmhoheloaaGreatDoorGGServerReference
import Derived.Shelf.Strings.Builder1
import Derived.Shelf.Strings.BuilderF
import Derived.Shelf.Strings.BuilderK
import Derived.Lib.FrozenHead2
import Derived.Test.YtndpndmhoheloaaGreatDoorProg
open List renaming all_eq_true->aNz,append_assoc->aOe,append_nil->aN9,cons_append->aMl,drop_eq_getElem_cons->aOi,drop_zero->aOh,getD_eq_getElem?_getD->aNj,getElem?_append_left->aM0,getElem?_append_right->aM1,getElem?_cons_zero->aNw,getElem?_eq_getElem->aNi,getElem?_set_ne->aM5,getElem?_set_self->aM4,getElem_cons_zero->aMn,getElem_mem->aNq,length_append->aNo,length_cons->aM7,length_drop->aNd,length_map->aMw,length_nil->aOa,length_take->aNe,map_append->aN3,map_cons->aNl,map_nil->aOb,mem_append->aN0,mem_cons->aN2,mem_cons_of_mem->aOg,mem_filter->aN5,mem_map->aNy,mem_range->aN6,mem_singleton->aN8,nil_append->aN7,not_mem_nil->aOc,replicate_zero->aOd,set_append_right->aN4,take_length->aOj
open Nat renaming add_mul->aNu,add_zero->aNm,le_refl->aMq,le_trans->aMr,lt_of_lt_of_le->aMs,lt_or_ge->aMo,sub_self->aNt,succ_ne_self->aOf,zero_add->aNn,zero_le->aNs
open Go.Sem renaming run_bind->aM9,run_pure->aNc
open Array renaming getD_eq_getD_getElem?->aMt,getElem?_eq_getElem->aMy,getElem?_eq_none->aMp,getElem?_eq_some_iff->aOk,getElem?_toList->aNk
open Bool renaming and_eq_true->aMj,eq_iff_iff->aN1,false_eq_true->aNh,not_eq_true'->aMk,not_false->aNx
open Go.Result renaming andThen_ok->aNa
open Option renaming getD_some->aMz,map_some->aM6
set_option linter.unusedSectionVars false
set_option linter.unnecessarySimpa false
set_option linter.unusedVariables false
set_option linter.unusedSimpArgs false
namespace Go.Proofs
open Go.Shelf Go.RowKit
theorem Tryz.szB:(Tryz.prog.info? 100).map (·.size)=some 2:=by kernel_rfl
theorem Tryz.infoByte:(Tryz.prog.info? 5).map (λi=>(i.zero,i.size,i.bytes))=some (some (.int .u8 0),1,1):=by kernel_rfl
theorem Tryz.appS(w:World)(b:Nat)(v:Value)(xs:List Value)(hown:w.ownsRowF b 5 1 v xs.length xs)(s:ByteArray)(hb:b<=w.heap.size)(hn:xs.length+s.size<=140737488355328):
  ∃v' w',(Builtin.append_ #[98,9] 98 #[v, .string s]).run Tryz.prog w= .ok v' w'/\w'.ownsRowF b 5 1 v' (xs.length+s.size) (xs++Lib.strCells s)/\w.grownBy w' v.ownBlock/\(v'= .slice none 0 0↔v= .slice none 0 0/\s.size=0)/\(v'.ownBlock=v.ownBlock\/∃x,v'.ownBlock=some x/\w.heap.size<=x):=by
 obtain⟨i,hi,hz,hs,hy⟩:=info_parts Tryz.infoByte;have h63:xs.length+s.size<=maxLen:=by unfold maxLen;omega
 obtain⟨v',w',r1,r2,r3,r4⟩:=Lib.run_append_own_stringF (P:=Tryz.prog) w b 98 9 98 5 i Tryz.underlying98 Tryz.underlying9 hi hz hs hy v xs.length xs hown s h63 hn hb;refine⟨v',w',r1,r2,r3,r4, ?_⟩;rcases hown.2 with⟨rfl,h0⟩| ⟨g,cap,cur,fz,rfl,hbg,hg,hfz,hnc,hcm,hcs,htake⟩
 ·have hx:xs= []:=List.length_eq_zero_iff.1 h0;subst hx;obtain⟨v2,w2,q1,q2,_,_⟩:=Lib.run_append_own_string (P:=Tryz.prog) w w.heap.size 98 9 98 5 i Tryz.underlying98 Tryz.underlying9 hi hz hs hy (.slice none 0 0) 0 [] ⟨rfl, .inl ⟨rfl,rfl⟩⟩ s (by simpa using h63) (by simpa using hn) (aMq _);rw[q1]at r1;injection r1 with e1 e2;subst e1 e2;rcases q2.2 with⟨rfl,h⟩| ⟨g,cap,cur,rfl,hx,_⟩
  ·exact .inl rfl
  ·exact .inr ⟨g,rfl,hx⟩
 ·have hxl:xs.length=xs.length:=rfl
  by_cases hroom:xs.length+s.size<=cap
  ·have q1:=Lib.run_append_room_stringF (P:=Tryz.prog) w 98 9 98 5 i Tryz.underlying98 Tryz.underlying9 hi hs g xs.length cap cur fz hg (by simpa using hfz) s hroom (by rw[hcs];simp;omega);rw[q1]at r1;injection r1 with e1 e2;subst e1;exact .inl rfl
  ·have holds:∀j u,xs[j]? =some u->w.cell? ((⟨g,0,none⟩:Addr).add j)=some u:=hown.cells (g:=g) rfl;have q1:=Lib.run_append_grow_string (P:=Tryz.prog) w 98 9 98 5 i (.int .u8 0) Tryz.underlying98 Tryz.underlying9 hi hz ⟨g,0,none⟩ xs.length cap xs (by rw[hs];simp) holds s z8 z8 (by rw[hy];exact growslice_fits z8 z8);rw[q1]at r1;injection r1 with e1 e2;subst e1;exact .inr ⟨_,rfl,aMq _⟩
set_option maxHeartbeats 1000000 in
set_option maxRecDepth 100000 in
theorem Tryz.ccUsed(b:Nat)(w:World)(h0:w.cell? ⟨b,0,none⟩=some (.pointer (some ⟨b,0,none⟩))):
  Calls Tryz.prog 74 #[.pointer (some ⟨b,0,none⟩)] w λe w'=>e= .returned (.tuple #[])/\w'=w:=by
 obtain⟨j,hj,_⟩:=Option.map_eq_some_iff.1 Tryz.szB;have mixed:Tryz.prog.follows .mixedOrders=true:=by kernel_rfl
 have t72:=Tryz.underlying100;have a72:=Tryz.isAgg100;have z72:=Tryz.sizeOf100;have v72:=Tryz.zeroValue100;have u72:=run_underlying Tryz.underlying100;have t70:=Tryz.underlying97;have a70:=Tryz.isAgg97;have z70:=Tryz.sizeOf97;have v70:=Tryz.zeroValue97;have u70:=run_underlying Tryz.underlying97;have t4:=Tryz.underlying4;have a4:=Tryz.isAgg4;have z4:=Tryz.sizeOf4;have v4:=Tryz.zeroValue4;have u4:=run_underlying Tryz.underlying4;have t164:=Tryz.underlying157;have a164:=Tryz.isAgg157;have z164:=Tryz.sizeOf157;have v164:=Tryz.zeroValue157;have u164:=run_underlying Tryz.underlying157
 go_enter Tryz.func74,Tryz.ntmps74
 go_wp2
 rw[Lib.run_neq_ptr_same w _ Tryz.underlying97 hj]
 go_wp2
 go_end0
 exact⟨rfl,rfl⟩
set_option maxHeartbeats 1000000 in
set_option maxRecDepth 100000 in
theorem Tryz.ccFresh(b:Nat)(w:World)(h0:w.cell? ⟨b,0,none⟩=some (.pointer none))(hsh:w.shape? b=some (100,2))(hfz:w.frozen? ⟨b,0,none⟩=false):
  Calls Tryz.prog 74 #[.pointer (some ⟨b,0,none⟩)] w λe w'=>e= .returned (.tuple #[])/\w'=w.setCell ⟨b,0,none⟩ (.pointer (some ⟨b,0,none⟩)):=by
 obtain⟨j,hj,hjs⟩:=Option.map_eq_some_iff.1 Tryz.szB;have mixed:Tryz.prog.follows .mixedOrders=true:=by kernel_rfl
 have t72:=Tryz.underlying100;have a72:=Tryz.isAgg100;have z72:=Tryz.sizeOf100;have v72:=Tryz.zeroValue100;have u72:=run_underlying Tryz.underlying100;have t70:=Tryz.underlying97;have a70:=Tryz.isAgg97;have z70:=Tryz.sizeOf97;have v70:=Tryz.zeroValue97;have u70:=run_underlying Tryz.underlying97;have t4:=Tryz.underlying4;have a4:=Tryz.isAgg4;have z4:=Tryz.sizeOf4;have v4:=Tryz.zeroValue4;have u4:=run_underlying Tryz.underlying4;have t164:=Tryz.underlying157;have a164:=Tryz.isAgg157;have z164:=Tryz.sizeOf157;have v164:=Tryz.zeroValue157;have u164:=run_underlying Tryz.underlying157
 go_enter Tryz.func74,Tryz.ntmps74
 go_wp2
 rw[Lib.run_to_unsafe w ⟨b,0,none⟩ Tryz.underlying97 Tryz.underlying157 hj (by rw[hjs];decide) hsh (Nat.zero_lt_succ 1)];simp only[Result.andThen];rw[Oper.upon_value]
 go_wp2
 rw[run_callFunc_extern Tryz.func99 (by kernel_rfl) (by kernel_rfl) (by kernel_rfl) (e:=Extern.AbiNoEscape.same) (by kernel_rfl)];rw[Lib.run_noEscape];simp only[Result.andThen];rw[Oper.upon_value]
 go_wp2
 rw[Lib.run_from_unsafe w ⟨b,0,none⟩ Tryz.underlying157 Tryz.underlying97 hj hsh (by kernel_rfl)];simp only[Result.andThen];rw[Oper.upon_value]
 go_wp2
 go_end0
 exact⟨rfl,rfl⟩
def PBu(b:Nat)(l:List UInt8)(w:World)(g:Option Nat):Prop:=∃p v,(p= .pointer none\/p= .pointer (some ⟨b,0,none⟩))/\w.heap[b]? =some (.cells #[p,v] 100 (0,0))/\w.ownsRowF b 5 1 v l.length (Lib.byteCells l)/\v.ownBlock≠some b/\v.ownBlock=g
structure Tn(b:Nat)(g:Option Nat)(w w':World):Prop where
 os:w'.os=w.os
 tape:w'.tape=w.tape
 output:w'.output=w.output
 size:w.heap.size<=w'.heap.size
 block:∀k,k<w.heap.size->k≠b->some k≠g->w'.heap[k]? =w.heap[k]?
theorem Tn.set{b:Nat}{g:Option Nat}{w w':World}(h:Tn b g w w')(off:Nat)(v:Value):Tn b g w (w'.setCell ⟨b,off,none⟩ v):=
 ⟨h.os,h.tape,h.output,by simp[World.setCell,h.size],λk hk hb hg=>by rw[Below.heap_setCell _ _ _ _ (λe=>hb e)];exact h.block k hk hb hg⟩
theorem Tn.grown{b:Nat}{g:Option Nat}{w w1 w':World}(h:Tn b g w w1)(hg:w1.grownBy w' g):Tn b g w w':=
 ⟨hg.os.trans h.os,hg.tape.trans h.tape,hg.output.trans h.output,aMr h.size hg.size,λk hk hb he=>by rw[hg.block k (aMs hk h.size) he];exact h.block k hk hb he⟩
theorem Tn.refl(b:Nat)(g:Option Nat)(w:World):Tn b g w w:=⟨rfl,rfl,rfl,aMq _,λ_ _ _ _=>rfl⟩
theorem Tryz.cc(b:Nat)(l:List UInt8)(w:World)(g:Option Nat)(h:PBu b l w g):
  Calls Tryz.prog 74 #[.pointer (some ⟨b,0,none⟩)] w λe w'=>e= .returned (.tuple #[])/\(∃v,w'.heap[b]? =some (.cells #[.pointer (some ⟨b,0,none⟩),v] 100 (0,0))/\w'.ownsRowF b 5 1 v l.length (Lib.byteCells l)/\v.ownBlock≠some b/\v.ownBlock=g)/\Tn b g w w':=by
 obtain⟨p,v,hp,hb,hown,hne,hg⟩:=h;have c0:w.cell? ⟨b,0,none⟩=some p:=by rw[Lib.cell_of_heap hb];rfl
 rcases hp with rfl|rfl
 ·have hA:Lib.BuilderAtF 100 5 b b (.pointer none) (Lib.byteCells l) w:=⟨aMq _,v,hb,by rw[Lib.byteCells_length];exact hown,hne⟩;refine(Tryz.ccFresh b w c0 hA.shape hA.frozen0).mono ?_;rintro e w' ⟨rfl,rfl⟩;have hlt:b<w.heap.size:=(aOk.1 hb).1;have hsz:(w.setCell ⟨b,0,none⟩ (.pointer (some ⟨b,0,none⟩))).heap.size=w.heap.size:=by simp[World.setCell]
  refine⟨rfl,⟨v, ?_, ?_,hne,hg⟩,(Tn.refl b g w).set 0 _⟩
  ·have:(w.setCell ⟨b,0,none⟩ (.pointer (some ⟨b,0,none⟩))).heap[b]? =some (.cells #[.pointer (some ⟨b,0,none⟩),v] 100 (0,0)):=by
    simp only[World.setCell,Array.getElem?_modify,if_true,hb];rfl
   exact this
  ·exact hown.kept (row:=some b) ⟨rfl,rfl,rfl,by rw[hsz];exact aMq _,λk hk he=>by rw[Below.heap_setCell _ _ _ _ (λe=>he (by rw[e]))]⟩ (.inr hne)
 ·refine(Tryz.ccUsed b w c0).mono ?_;rintro e w' ⟨rfl,rfl⟩;exact⟨rfl,⟨v,hb,hown,hne,hg⟩,Tn.refl b g _⟩
theorem Tryz.wpAppS{ops:Array Oper}{rest:List Oper}{o:Oper}{a:Act}{w:World}{Q:Exit->Act->World->Prop}(hgd:o.guard=none)(s x:Operand)(ho:o.op= .call {callee:=.builtin .append,args:= #[s,x],argTypes:= #[98,9]})(hot:o.type=98)
  (b:Nat) (v:Value) (xs:List Value) (hs:a.eval s=v) (hown:w.ownsRowF b 5 1 v xs.length xs) (st:ByteArray) (hx:a.eval x= .string st) (hb:b<=w.heap.size) (hn:xs.length+st.size<=140737488355328)
  (h:∀v' w',w'.ownsRowF b 5 1 v' (xs.length+st.size) (xs++Lib.strCells st)->w.grownBy w' v.ownBlock->(v'= .slice none 0 0↔v= .slice none 0 0/\st.size=0)->(v'.ownBlock=v.ownBlock\/∃x,v'.ownBlock=some x/\w.heap.size<=x)->wpList Tryz.prog ops Q rest (a.put o.dst v') w'):wpList Tryz.prog ops Q (o::rest) a w:=by
 refine wpList_plain hgd λK hK=> ?_;obtain⟨v',w',hr,h2,h3,h4,h5⟩:=Tryz.appS w b v xs hown st hb hn;unfold Oper.wp execOp;simp only[ho,hot,resolve,invoke,builtin,aM9,aNc,aNa,List.map_toArray,aNl,aOb,hs,hx,hr];exact hK _ _ (h v' w' h2 h3 h4 h5)
set_option maxHeartbeats 2000000 in
set_option maxRecDepth 100000 in
theorem Tryz.ws(b:Nat)(l s:List UInt8)(w:World)(g:Option Nat)(h:PBu b l w g)(hn:l= []->g=none)(hlen:l.length+s.length<=140737488355328):
  Calls Tryz.prog 50 #[.pointer (some ⟨b,0,none⟩), .string ⟨s.toArray⟩] w λe w'=>e= .returned (.tuple #[.int .i64 s.length, .nilIface])/\∃g',PBu b (l++s) w' g'/\Tn b g w w'/\(l++s= []->g'=none)/\(g'=g\/∃x,g'=some x/\w.heap.size<=x):=by
 have mixed:Tryz.prog.follows .mixedOrders=true:=by kernel_rfl
 have t72:=Tryz.underlying100;have a72:=Tryz.isAgg100;have z72:=Tryz.sizeOf100;have v72:=Tryz.zeroValue100;have u72:=run_underlying Tryz.underlying100;have t70:=Tryz.underlying97;have a70:=Tryz.isAgg97;have z70:=Tryz.sizeOf97;have v70:=Tryz.zeroValue97;have u70:=run_underlying Tryz.underlying97;have t4:=Tryz.underlying4;have a4:=Tryz.isAgg4;have z4:=Tryz.sizeOf4;have v4:=Tryz.zeroValue4;have u4:=run_underlying Tryz.underlying4;have t164:=Tryz.underlying157;have a164:=Tryz.isAgg157;have z164:=Tryz.sizeOf157;have v164:=Tryz.zeroValue157;have u164:=run_underlying Tryz.underlying157;have t37:=Tryz.underlying98;have a37:=Tryz.isAgg98;have z37:=Tryz.sizeOf98;have v37:=Tryz.zeroValue98;have u37:=run_underlying Tryz.underlying98;have t9:=Tryz.underlying9;have a9:=Tryz.isAgg9;have z9:=Tryz.sizeOf9;have v9:=Tryz.zeroValue9;have u9:=run_underlying Tryz.underlying9;have t5:=Tryz.underlying5;have a5:=Tryz.isAgg5;have z5:=Tryz.sizeOf5;have v5:=Tryz.zeroValue5;have u5:=run_underlying Tryz.underlying5;have t128:=Tryz.underlying104;have a128:=Tryz.isAgg104;have z128:=Tryz.sizeOf104;have v128:=Tryz.zeroValue104;have u128:=run_underlying Tryz.underlying104;have e240:∀args w,(callFunc 74 args).run Tryz.prog w= .ok (.enter 74 args) w:=enters_of Tryz.func74 (by kernel_rfl) rfl
 go_enter Tryz.func50,Tryz.ntmps50
 go_wp2_with (go_at_fn 74;refine(Tryz.cc b l _ g h).mono ?_)
 rintro e w1 ⟨rfl,⟨v,hbk,hown,hne,hg⟩,hT1⟩;subst hg;have c0:w1.cell? ⟨b,0,none⟩=some (.pointer (some ⟨b,0,none⟩)):=by rw[Lib.cell_of_heap hbk];rfl
 have c1:w1.cell? ⟨b,1,none⟩=some v:=by rw[Lib.cell_of_heap hbk];rfl
 have hlt:b<w1.heap.size:=(aOk.1 hbk).1;have hss:(ByteArray.mk s.toArray).size=s.length:=by simp[ByteArray.size]
 go_wp2_with (at_builtin;refine Tryz.wpAppS rfl _ _ rfl rfl b _ (Lib.byteCells l) rfl (by rw[Lib.byteCells_length];exact hown) ⟨s.toArray⟩ rfl z8 (by rw[Lib.byteCells_length,hss];exact hlen) ?_)
 intro v' w2 hown' hgrow hnil hfr;have hb2:w2.heap[b]? =some (.cells #[.pointer (some ⟨b,0,none⟩),v] 100 (0,0)):=by
  rw[hgrow.block b hlt (λe=>hne e.symm)];exact hbk
 have d0:w2.cell? ⟨b,0,none⟩=some (.pointer (some ⟨b,0,none⟩)):=by rw[Lib.cell_of_heap hb2];rfl
 have d1:w2.cell? ⟨b,1,none⟩=some v:=by rw[Lib.cell_of_heap hb2];rfl
 have f1:w2.frozen? ⟨b,1,none⟩=false:=Lib.frozen_of_heap hb2 1;obtain⟨ao,n',cap,rfl⟩:∃ao n' cap,v'= .slice ao n' cap:=by
  rcases hown'.2 with⟨hv,_⟩| ⟨g,cap,cur,fz,hv,_⟩
  ·exact⟨_,_,_,hv⟩
  ·exact⟨_,_,_,hv⟩
 go_wp2
 go_ret2
 have hvb:(Value.slice ao n' cap).ownBlock≠some b:=by
  rcases hfr with h| ⟨x,h,hx⟩
  ·rw[h];exact hne
  ·rw[h];intro e;injection e with e;have:w1.heap.size<=x:=hx;omega
 have hsz:w1.heap.size<=w2.heap.size:=hgrow.size;refine⟨by simp[hss,goInt],(Value.slice ao n' cap).ownBlock,⟨_, .slice ao n' cap, .inr rfl, ?_, ?_,hvb,rfl⟩, ?_, ?_, ?_⟩
 ·simp only[World.setCell,Array.getElem?_modify,if_true,hb2];rfl
 ·have e1:Lib.byteCells (l++s)=Lib.byteCells l++Lib.strCells ⟨s.toArray⟩:=by simp[Lib.byteCells,Lib.strCells]
  rw[e1,aNo];rw[Lib.byteCells_length]at hown'
  try rw[hss]at hown'
  exact hown'.kept (row:=some b) ⟨rfl,rfl,rfl,by simp[World.setCell],λk hk he=>by rw[Below.heap_setCell _ _ _ _ (λe=>he (by rw[e]))]⟩ (.inr hvb)
 ·exact(hT1.grown hgrow).set 1 _
 ·intro he;obtain⟨rfl,rfl⟩:=List.append_eq_nil_iff.1 he;have hv:v= .slice none 0 0:=by
   rcases hown.2 with⟨h,_⟩| ⟨g,cap,cur,fz,h,_⟩
   ·exact h
   ·have:=hn rfl;rw[h]at this;cases this
  rw[hnil.2 ⟨hv,by simp[ByteArray.size]⟩];rfl
 ·rcases hfr with h| ⟨x,h,hx⟩
  ·exact .inl h
  ·exact .inr ⟨x,h,aMr hT1.size hx⟩
set_option maxHeartbeats 2000000 in
set_option maxRecDepth 100000 in
theorem Tryz.bstr(b:Nat)(l:List UInt8)(w:World)(g:Option Nat)(h:PBu b l w g)(hn:l= []->g=none):
  Calls Tryz.prog 51 #[.pointer (some ⟨b,0,none⟩)] w λe w'=>e= .returned (.string ⟨l.toArray⟩)/\Tn b g w w':=by
 obtain⟨p,v,hp,hbk,hown,hne,hg⟩:=h;have mixed:Tryz.prog.follows .mixedOrders=true:=by kernel_rfl
 have t72:=Tryz.underlying100;have a72:=Tryz.isAgg100;have z72:=Tryz.sizeOf100;have v72:=Tryz.zeroValue100;have u72:=run_underlying Tryz.underlying100;have t70:=Tryz.underlying97;have a70:=Tryz.isAgg97;have z70:=Tryz.sizeOf97;have v70:=Tryz.zeroValue97;have u70:=run_underlying Tryz.underlying97;have t37:=Tryz.underlying98;have a37:=Tryz.isAgg98;have z37:=Tryz.sizeOf98;have v37:=Tryz.zeroValue98;have u37:=run_underlying Tryz.underlying98;have t127:=Tryz.underlying133;have a127:=Tryz.isAgg133;have z127:=Tryz.sizeOf133;have v127:=Tryz.zeroValue133;have u127:=run_underlying Tryz.underlying133;have t3:=Tryz.underlying3;have a3:=Tryz.isAgg3;have z3:=Tryz.sizeOf3;have v3:=Tryz.zeroValue3;have u3:=run_underlying Tryz.underlying3;have t9:=Tryz.underlying9;have a9:=Tryz.isAgg9;have z9:=Tryz.sizeOf9;have v9:=Tryz.zeroValue9;have u9:=run_underlying Tryz.underlying9;have t5:=Tryz.underlying5;have a5:=Tryz.isAgg5;have z5:=Tryz.sizeOf5;have v5:=Tryz.zeroValue5;have u5:=run_underlying Tryz.underlying5;have c1:w.drew.cell? ⟨b,1,none⟩=some v:=by
  have:w.drew.heap[b]? =some (.cells #[p,v] 100 (0,0)):=hbk;rw[Lib.cell_of_heap this];rfl
 rcases hown.2 with⟨rfl,h0⟩| ⟨g',cap,cur,fz,rfl,hbg,hg',hfz,hnc,hcm,hcs,htake⟩
 ·obtain rfl:l= []:=List.length_eq_zero_iff.1 h0;have hSD:(Builtin.unsafeSliceData_ #[98] 133 #[.slice none 0 0]).run Tryz.prog w.drew= .ok (.pointer none) w.drew:=rfl;have hUS:∀W,(Builtin.unsafeString_ #[133,3] 9 #[.pointer none, .int .i64 0]).run Tryz.prog W= .ok (.string .empty) W:=λW=>Lib.run_unsafeString_none W _ _ _ none
  go_enter Tryz.func51,Tryz.ntmps51
  go_wp2
  go_region_o
  all_goals (go_wp2;go_ret;exact⟨rfl,rfl,rfl,rfl,aMq _,λ_ _ _ _=>rfl⟩)
 ·have hl0:l≠ []:=λe=>by have:=hn e;rw[<-hg]at this;cases this
  have hl1:l.length≠0:=λe=>hl0 (List.length_eq_zero_iff.1 e);have hgg:w.drew.heap[g']? =some (.cells cur 5 fz):=hg';have hSD:(Builtin.unsafeSliceData_ #[98] 133 #[.slice (some ⟨g',0,none⟩) l.length cap]).run Tryz.prog w.drew= .ok (.pointer (some ⟨g',0,none⟩)) w.drew:=Lib.run_unsafeSliceData_row _ _ _ _ _ _ z8;have hUS:(Builtin.unsafeString_ #[133,3] 9 #[.pointer (some ⟨g',0,none⟩), .int .i64 l.length]).run Tryz.prog w.drew= .ok (.string ⟨l.toArray⟩) (w.drew.freeze ⟨g',0,none⟩ l.length):=by
   refine Lib.run_unsafeString_row w.drew 133 3 9 5 Tryz.underlying133 (by kernel_rfl) g' cur.size (by simp[World.shape?,hgg]) l hl0 z8 (by unfold maxLen at hcm;omega) ?_;intro j x hx;exact hown.cells (g:=g') rfl j (.int .u8 x.toNat) (by simp[Lib.byteCells,hx])
  have hfin:Tn b g w (w.drew.freeze ⟨g',0,none⟩ l.length):=by
   subst hg;have hq:∀k,k≠g'->(w.drew.freeze ⟨g',0,none⟩ l.length).heap[k]? =w.heap[k]? :=λk hk=>by
    unfold World.freeze
    split
    ·rfl
    ·simp only[Array.getElem?_modify,if_neg (Ne.symm hk)];rfl
   refine⟨?_, ?_, ?_, ?_,λk hk hb he=>hq k λe=>he (by rw[e];rfl)⟩<;>(unfold World.freeze;split<;>first|rfl|exact aMq _|exact Nat.le_of_eq (Array.size_modify).symm)
  clear hn hl0 hl1 hg
  go_enter Tryz.func51,Tryz.ntmps51
  go_wp2
  go_region_o
  all_goals (go_wp2;go_ret;exact⟨rfl,hfin⟩)
end Go.Proofs
namespace Go.Abs
open Go.Proofs Go.RowKit
theorem aK.leN.cut{m n:Nat}{A B:aK}(h:A.leN m B)(hn:n<=m):A.leN n B:=⟨h.os,h.tape,h.output,h.size,h.other,h.cell,λid hi hb=>h.bornv id (aMs hi hn) hb,h.born⟩
structure Bx(E0:aK)(nb id:Nat)(l:List UInt8)(E:aK):Prop where
 le:E0.leN nb E
 born:E.view.born id
 pb:∃g,PBu (E.ρ id) l E.w g/\(l= []->g=none)/\∀x,(x=E.ρ id\/g=some x)->E0.w.heap.size<=x/\x<E.w.heap.size/\¬E.owns x/\E.κ x= .mut
theorem aGm{b:Nat}{l:List UInt8}{w w':World}{g:Option Nat}(h:PBu b l w g)(hb:w'.heap[b]? =w.heap[b]?)(hg:∀x,g=some x->w'.heap[x]? =w.heap[x]?):PBu b l w' g:=by
 obtain⟨p,v,h1,h2,h3,h4,h5⟩:=h;refine⟨p,v,h1,hb.trans h2,⟨h3.1, ?_⟩,h4,h5⟩;rcases h3.2 with q| ⟨x,cap,cur,fz,hv,k1,k2,k3⟩
 ·exact .inl q
 ·exact .inr ⟨x,cap,cur,fz,hv,k1,(hg x (by rw[<-h5,hv];rfl)).trans k2,k3⟩
theorem aHa{E0:aK}{nb nb' id:Nat}{l:List UInt8}(h1:nb<=nb')(h2:id<nb'):OL nb' (Bx E0 nb id l):=by
 intro E E' h ho hle ho';obtain⟨g,hp,hn,hx⟩:=h.pb;obtain⟨b1,b2,_⟩:=hle.bornv id h2 h.born;have hr:E'.ρ id=E.ρ id:=b2;have key:∀x,(x=E.ρ id\/g=some x)->E'.κ x=E.κ x/\E'.w.heap[x]? =E.w.heap[x]? :=λx q=>by
  obtain⟨k1,k2,k3,k4⟩:=hx x q;exact hle.other x k2 k3
 refine⟨h.le.trans (hle.cut h1),b1,g, ?_,hn,λx q=> ?_⟩
 ·rw[hr];exact aGm hp (key _ (.inl rfl)).2 λx e=>(key x (.inr e)).2
 ·rw[hr]at q;obtain⟨k1,k2,k3,k4⟩:=hx x q;exact⟨k1,aMs k2 hle.size,λo=>k3 (hle.born x k2 o),(key x q).1.trans k4⟩
theorem vW{b:Nat}{g:Option Nat}{w w':World}(h:Tn b g w w'):aIu (λk=>k=b\/g=some k) w w':=
 ⟨h.os,h.tape,h.output,h.size,λk hk hn=>h.block k hk (λe=>hn (.inl e)) λe=>hn (.inr e.symm)⟩
theorem YZ{V:cG}{vargs:Array Value}{id:Nat}{ps:List PV}(h:RL V vargs (.optr id 0::ps)):vargs[0]? =some (.pointer (some ⟨V.rho id,0,none⟩)):=by
 have h0:=h.2 0 zz;have hs:0<vargs.size:=by rw[h.1];simp
 simp only[aMn]at h0;rw[aMt,aMy hs,aMz]at h0;rw[aMy hs];generalize vargs[0]=v at h0;cases h0;rfl
theorem aIv{E0:aK}{nb id:Nat}{l s:List UInt8}{H:aH}(hlen:l.length+s.length<=140737488355328)(E:aK)(vargs:Array Value)(hC:Bx E0 nb id l E)(ho:E.Ok)(hH:E.H=H)(hrl:RL E.view vargs [.optr id 0, .str s]):
  Calls Tryz.prog 50 vargs E.w λe w'=>∃(E':aK) (v:Value) (r:PV),e= .returned v/\E'.w=w'/\Bx E0 nb id (l++s) E'/\E'.Ok/\E.view.le E'.view/\aQ E'.view v r/\(r= .tup [.int .i64 s.length, .ifc none]/\E'.H=H):=by
 obtain⟨g,hp,hn,hx⟩:=hC.pb;have hv:vargs= #[.pointer (some ⟨E.ρ id,0,none⟩), .string ⟨s.toArray⟩]:=by
  have h0:=YZ hrl;have h1:=hrl.2 1 zz;have hs:vargs.size=2:=by rw[hrl.1];rfl
  simp only[List.getElem_cons_succ,aMn]at h1;rw[aMt,aMy z8,aMz]at h1;have h2:vargs[1]= .string ⟨s.toArray⟩:=by
   generalize vargs[1]=y at h1;cases h1 with
   |str z=>simp
  apply Array.ext
  ·simp[hs]
  ·intro i hi _
   match i,hi with
   |0,_=>have:=h0;rw[aMy z8]at this;exact Option.some.inj this
   |1,_=>exact h2
   |n+2,hi=>omega
 rw[hv];refine(Tryz.ws (E.ρ id) l s E.w g hp hn hlen).mono ?_;rintro e w' ⟨rfl,g',hp',ht,hn',hg⟩;have hown:∀k,(k=E.ρ id\/g=some k)->¬E.owns k/\E.κ k= .mut:=λk q=>⟨(hx k q).2.2.1,(hx k q).2.2.2⟩;have hok:=ho.turn (vW ht) hown;have hv:=aK.turn_view ho (vW ht) hown;refine⟨E.turn w', .tuple #[.int .i64 s.length, .nilIface], .tup [.int .i64 s.length, .ifc none],rfl,rfl,⟨aK.turn_le ho (vW ht) hown hC.le λk q=>(hx k q).1,hC.born,g',hp',hn',λx q=> ?_⟩,hok,hv, ?_,rfl,hH⟩
 rotate_left
 ·exact .tup _ _ rfl λi hi=>by
   match i,hi with
   |0,_=>exact .int _ _
   |1,_=>exact .nili
 have hb:(E.turn w').ρ id=E.ρ id:=rfl;rw[hb]at q;rcases hg with rfl| ⟨y,rfl,hy⟩
 ·obtain⟨k1,k2,k3,k4⟩:=hx x q;exact⟨k1,aMs k2 ht.size,k3,by simp only[aK.turn,if_pos k2];exact k4⟩
 ·rcases q with rfl|q
  ·obtain⟨k1,k2,k3,k4⟩:=hx _ (.inl rfl);exact⟨k1,aMs k2 ht.size,k3,by simp only[aK.turn,if_pos k2];exact k4⟩
  ·injection q with q;subst q;refine⟨aMr hC.le.size hy, ?_,λo=> ?_,by simp only[aK.turn,if_neg (Nat.not_lt.2 hy)]⟩
   ·obtain⟨p,v,_,_,h3,_,h5⟩:=hp';rcases h3.2 with⟨q0,q⟩| ⟨z,cap,cur,fz,hv,_,k2,_⟩
    ·rw[q0]at h5;cases h5
    ·rw[hv]at h5;injection h5 with h5;have h5':z=y:=h5;subst h5';exact(aOk.1 k2).1
   ·have:=aK.owns_lt ho (vW ht) hown (b:=y) o;omega
theorem aHx{E0:aK}{nb id:Nat}{l:List UInt8}{H:aH}(E:aK)(vargs:Array Value)(hC:Bx E0 nb id l E)(ho:E.Ok)(hH:E.H=H)(hrl:RL E.view vargs [.optr id 0]):
  Calls Tryz.prog 51 vargs E.w λe w'=>∃(E':aK) (v:Value) (r:PV),e= .returned v/\E'.w=w'/\E0.leN nb E'/\E'.Ok/\E.view.le E'.view/\aQ E'.view v r/\(r= .str l/\E'.H=H):=by
 obtain⟨g,hp,hn,hx⟩:=hC.pb;have hv:vargs= #[.pointer (some ⟨E.ρ id,0,none⟩)]:=by
  have h0:=YZ hrl;have hs:vargs.size=1:=by rw[hrl.1];rfl
  apply Array.ext
  ·simp[hs]
  ·intro i hi _
   match i,hi with
   |0,_=>have:=h0;rw[aMy z8]at this;exact Option.some.inj this
   |n+1,hi=>omega
 rw[hv];refine(Tryz.bstr (E.ρ id) l E.w g hp hn).mono ?_;rintro e w' ⟨rfl,ht⟩;have hown:∀k,(k=E.ρ id\/g=some k)->¬E.owns k/\E.κ k= .mut:=λk q=>⟨(hx k q).2.2.1,(hx k q).2.2.2⟩;exact⟨E.turn w', .string ⟨l.toArray⟩, .str l,rfl,rfl,aK.turn_le ho (vW ht) hown hC.le λk q=>(hx k q).1,ho.turn (vW ht) hown,aK.turn_view ho (vW ht) hown,by simpa using aQ.str (V:=(E.turn w').view) ⟨l.toArray⟩,rfl,hH⟩
theorem aGx{N:Nat}{ops:Array Oper}{K:Exit->Act->World->Prop}{T:aJ}{H:aH}{E0:aK}{nb d:Nat}{o:Oper}{l:List Oper}(hnb:nb<=H.length)(hop:o.op= .alloc 100)(hd:o.dst=some d)(hw:aZ ops.toList T N o=some true)
  (h:XLU Tryz.prog N (Bx E0 nb H.length []) K ops l (upd T d (.optr H.length 0)) (H++ [.glob 0 []])):XLU Tryz.prog N (λE=>E0.leN nb E) K ops (o::l) T H:=by
 intro E a hC ho hH ht;subst hH;have hu:E.ext.H[E.H.length]? =some .unborn:=by simp[aK.ext]
 let E1:=E.ext.newRow E.H.length #[.pointer none, .slice none 0 0] 100 [.nilp, .slice [] .none]
 have hle1:E.le E1:=E.ext_le.trans (aK.newRow_le ho.ext hu _ _ _);have hok1:E1.Ok:=ho.ext.newRow hu _ _ _ rfl λi hl=>by
  match i,hl with
  |0,_=>exact .nilp
  |1,_=>exact .nils _ (by first|trivial|simp[nQ])
 have hlen:E.H.length<(E.H++ [AObj.unborn]).length:=zz
 have hr1:E1.H[E.H.length]? =some (.row [.nilp, .slice [] .none]):=by
  show((E.H++ [AObj.unborn]).set _ _)[_]? =_;exact aM4 hlen
 have hrho:E1.ρ E.H.length=E.w.heap.size:=by simp[E1,aK.newRow,aK.ext]
 have hle2:=hle1.trans (aK.forget_le hok1 hr1);have hok2:=hok1.forget hr1;have hH2:(E1.forget E.H.length).H=E.H++ [.glob 0 []]:=by
  show((E.H++ [AObj.unborn]).set _ _).set _ _=_;rw[List.set_set,aN4 _ _ (aMq _)];simp
 have hborn:(E1.forget E.H.length).view.born E.H.length:=⟨.glob 0 [],by rw[hH2];simp,zz⟩;have hwh:(E1.forget E.H.length).w.heap[E.w.heap.size]? =some (.cells #[.pointer none, .slice none 0 0] 100 (0,0)):=heap_alloc_new _ _;have hB:Bx E0 nb E.H.length [] (E1.forget E.H.length):=by
  refine⟨hC.trans (hle2.leN nb),hborn,none,⟨_,_, .inl rfl, ?_,⟨rfl, .inl ⟨rfl,rfl⟩⟩,(by simp[Value.ownBlock]),rfl⟩,λ_=>rfl,λx q=> ?_⟩
  ·show(E1.forget E.H.length).w.heap[E1.ρ E.H.length]? =_;rw[hrho];exact hwh
  ·rcases q with rfl|q
   ·show E0.w.heap.size<=E1.ρ E.H.length/\_;obtain⟨_,_,_,_,_,k⟩:=hok1.rows _ _ hr1;refine⟨by rw[hrho];exact hC.size, ?_,λq=>(aK.forget_owns hok1 hr1 q).2 rfl,k⟩;show E1.ρ E.H.length<_;rw[hrho];exact(aOk.1 hwh).1
   ·cases q
 refine dS (bY ht hw) ?_;have hrun:(execOp a.eval o).run Tryz.prog E.w= .ok (.value (.pointer (some ⟨E.w.heap.size,0,none⟩))) (E1.forget E.H.length).w:=by
  unfold execOp;rw[hop];simp only[Instr.alloc,aM9,Tryz.zeroValue100,aNa,newVar,newRow,run_newObj,aNc];rfl
 unfold Oper.wp;rw[hrun];have hptr:aQ (E1.forget E.H.length).view (.pointer (some ⟨E.w.heap.size,0,none⟩)) (.optr E.H.length 0):=by
  have:=aQ.optr (V:=(E1.forget E.H.length).view) E.H.length 0 hborn;rw[show(E1.forget E.H.length).view.rho E.H.length=E.w.heap.size from hrho]at this;exact this
 have ht2:=(ht.mono hle2.view).put o.dst hptr;rw[hd]at ht2;exact h _ _ hB hok2 hH2 (by rw[hd];exact ht2)
end Go.Abs
set_option maxRecDepth 4000
set_option maxHeartbeats 1000000
namespace Go.Abs
open Go.Proofs Go.Memo
def RQ(n:Int)(e:Te)(pe:Int):Bool:=decide (e.st<=pe)||decide (e.en<e.st)||decide (e.en>n)
def KW(e:Te)(len:Int):Int:=IntKind.i64.wrap (len+IntKind.i64.wrap ((e.text.length:Int) -IntKind.i64.wrap (e.en-e.st)))
def teV(n:Int):List Te->Int->Int->Int
 | [],_,len=>if len>2000 then 2 else 0
 |e::es,pe,len=>if RQ n e pe=true then 3 else teV n es e.en (KW e len)
def sL(src:List UInt8)(es:List Te):Int:=if(decide ((src.length:Int)>2000)||decide ((es.length:Int)>50))=true then 2 else teV (src.length:Int) es (-1) (src.length:Int)
theorem aCy(src:List UInt8)(es:List Te)(hx:es.length<=maxLen)(H:aH):aR Tryz.prog 49 [.str src, .slice (es.map Te.enc) .none] H λr H'=>r=aE (sL src es)/\H'=H:=by
 unfold sL;refine eW (N:=59) Tryz.func49 rfl rfl zz (.int _ _) λhb'=> ?_;refine aV (aS qM qK) ?_;refine tJ (cF y3 y9 NO pQ qM qK) ?_;refine gG (aS qM qK) (λbt16=> ?_) (λbt16=> ?_)
 ·
  rw[if_pos bt16];refine aV (aS qM qK) ?_
  repeat refine wS ?_
  refine wT ⟨.inr rfl,_,_,rfl, ?_,sP⟩;rfl
 ·
  rw[if_neg (by rw[bt16];simp)]
  repeat refine wS ?_
  refine wK ?_;refine aV (bR y9 qM qK) ?_;refine aV (bD NO pQ qM qK) ?_
  repeat refine wS ?_
  refine iQ (σ:=Int×Int) (es.length) (λ(q:Int×Int)=> [(0, .str src),(19, .slice (es.map Te.enc) .none),(5,aE q.1),(6,aE q.2)]) [0,19,5,6] (H) (λ(q:Int×Int)=> []) (λ(i:Nat) (q:Int×Int)=>teV (src.length:Int) es (-1) (src.length:Int)=teV (src.length:Int) (es.drop i) q.1 q.2) ((-1,(src.length:Int))) ([]) rfl rfl rfl rfl rfl rfl rfl rfl rfl z7 z7 z7 (λ_=>rfl) (hx) ⟨(dJ (aS qM qK)),(dJ (aS qM qK)),(dJ (aS qM qK)),(dJ (aS qM qK)),(dJ (aS qM qK)),(dJ (aS qM qK)),trivial⟩ (dJ (aS qM qK)) (rfl) (λ_ _ _=>by first|exact aNs _| (simp only[aNo];omega)) ?_ ?_ ?_
  ·exact λi s hg=>⟨by first|exact dN _| (simp only[aN9];assumption)| (refine kI hb' zz ?_;repeat (first|exact dN _|exact trivial|exact eK _| (refine iJ.cons ?_ ?_)| (refine dT (by first|exact Md.bel _ _|exact Rq.bel _ _|exact Rs.bel _ _|exact Te.bel _ _|exact fP _ _|exact gK _ _|exact jV _ _|exact jQ _ _|exact bM _ _|exact eX _ _ _ _|exact eF _ _ _|exact bF.int _ _|exact bF.bool _|exact bF.str _|exact bF.nilp|exact bF.nilfn|exact bF.optr _ _ zz|exact cM _|exact cP _|exact cV _ _|assumption) ?_))),by repeat (first|exact jJ.nil|refine jJ.cons (by first|exact Md.bel _ _|exact Rq.bel _ _|exact Rs.bel _ _|exact Te.bel _ _|exact fP _ _|exact gK _ _|exact jV _ _|exact jQ _ _|exact bM _ _|exact eX _ _ _ _|exact eF _ _ _|exact bF.int _ _|exact bF.bool _|exact bF.str _|exact bF.nilp|exact bF.nilfn|exact bF.optr _ _ zz|exact cM _|exact cP _|exact cV _ _|assumption) ?_)⟩
  ·intro i q hi hg;obtain⟨pe,len⟩:=q;have g1:=fS hi;have g2:=dF Te.enc hi;obtain⟨e,he⟩:∃e,e=es[i]:=⟨_,rfl⟩;rw[<-he]at g2;have hd:es.drop i=e::es.drop (i+1):=by rw[he];exact aOi hi
   rw[hd,teV]at hg;simp only at hg;refine aV (aG NO pQ qM qK g1 g2 Te.enc_eq) ?_;refine tJ (aG y3 y9 pQ qM qK g1 (aS g2 Te.enc_eq)) ?_;refine gG (bL qM qK g1 g2 Te.enc_eq) (λbt42=> ?_) (λbt42=> ?_)
   ·
    rw[hg,if_pos (by simpa[RQ,Bool.or_assoc]using bt42)];refine gQ [0,5,6,19,20,21] (bL qM qK g1 g2 Te.enc_eq) ?_;refine aV (bL qM qK g1 g2 Te.enc_eq) ?_
    repeat refine wS ?_
    refine wT ⟨.inr rfl,_,_,rfl, ?_,sP⟩;rfl
   ·
    rw[if_neg (by simpa[RQ,Bool.or_assoc]using bt42)]at hg
    repeat refine wS ?_
    refine wK ?_;refine gQ [0,5,6,8,19,20,21] (bL qM qK g1 g2 Te.enc_eq) ?_;refine aV (aG y3 pQ qM qK g1 g2 Te.enc_eq) ?_;refine aV (aG y3 y9 pQ qM qK g1 (aS g2 Te.enc_eq)) ?_;exact⟨⟨rfl,rfl,trivial⟩,(e.en,KW e len),_,⟨rfl,rfl,rfl,rfl,trivial⟩,JQ (aS qM qK),hg⟩
  ·intro q hg;obtain⟨pe,len⟩:=q;rw[List.drop_length]at hg;simp only[teV]at hg;refine aV (bR y3 qM qK) ?_;refine gG (aS qM qK) (λbt58=> ?_) (λbt58=> ?_)
   ·
    rw[hg,if_pos (of_decide_eq_true bt58)];refine aV (aS qM qK) ?_
    repeat refine wS ?_
    refine wT ⟨.inr rfl,_,_,rfl, ?_,sP⟩;rfl
   ·
    rw[hg,if_neg (of_decide_eq_false bt58)]
    repeat refine wS ?_
    refine wK ?_;refine aV (aS qM qK) ?_
    repeat refine wS ?_
    refine wT ⟨.inr rfl,_,_,rfl, ?_,sP⟩;rfl
end Go.Abs
set_option linter.unusedSectionVars false
namespace Go.Abs
section
variable{P:Program}{N nb:Nat}{ops:Array Oper}{C C':aK->Prop}{K:Exit->Act->World->Prop}{T:aJ}{H:aH}
def xK(P:Program)(N nb:Nat)(ops:Array Oper)(C:aK->Prop)(K:Exit->Act->World->Prop)(k:Nat)(T:aJ)(H:aH):Prop:=
 ∀(E0:aK) (fuel t:Nat) (listed:Array Bool) (E:aK) (a:Act),C E0->E0.Ok->listed.size=ops.size->((List.range ops.size).filter λi=> !listed.getD i true).length<=fuel->(∀j,j<ops.size->listed.getD j false=decide (j<k))->
  E0.leN nb E->E.Ok->E.H=H->eR E.view N a T->wpOps P ops K (lH ops fuel t listed) a E.w
theorem UO{m n:Nat}(hb:iR ops.toList=true)(hs:mH ops.toList (cH ops.toList)=true)(hn:m+n<=ops.size)
  (hbar:((List.range ops.size).all λj=>decide (j<m+n)||(List.range n).all λi=>((cH ops.toList).getD j 0).testBit (m+i))=true)
  (h:BU P N ops (xK P N nb ops C K (m+n)) m ((ops.toList.drop m).take n) [] T H):xK P N nb ops C K m T H:=by
 intro E0 fuel t listed E a hC0 ho0 hsz hcnt hl hle ho hH ht;obtain⟨S,q1,q2,q3⟩:=vN (x:=(T,H)) (m:=m) _ m [] [] zz (λi s h=>by simp at h) (λi o h=>by
  rw[List.getElem?_take]at h
  split at h
  ·rw[List.getElem?_drop]at h;exact h
  ·cases h) (λi s h=>by simp at h) (λs h=>by simp at h) (λi j s s' _ h=>by simp at h) (λi s h=>by simp at h) h
 have hlen:S.length=n:=by rw[q1];simp;omega
 have hbar':∀j i,m+S.length<=j->j<ops.size->m<=i->i<m+S.length->((cH ops.toList).getD j 0).testBit i=true:=by
  intro j i h1 h2 h3 h4;rw[aNz]at hbar;have:=hbar j (aN6.2 h2);rw[decide_eq_false (by omega:¬j<m+n),Bool.false_or,aNz]at this;have:=this (i-m) (aN6.2 z8)
  rwa [show m+(i-m)=i by omega]at this
 have hD:cY (λj=>listed.getD j false) m S (T,H)=(T,H):=oY S m _ λj hj=>by rw[hl _ z8];exact decide_eq_false z8
 refine NI hb hs q2 z8 hbar' E0 ?_ _ fuel t listed E a hsz hcnt (aMq _) (pS hb hsz hl) (λj hj=>by rw[hl j z8];exact decide_eq_true hj) ?_ hle ho (by rw[hD];exact hH) (by rw[hD];exact ht)
 ·intro fuel t listed E a hsz hcnt hl hle ho hH ht;rw[hlen]at hl;exact q3 E0 fuel t listed E a hC0 ho0 hsz hcnt hl hle ho hH ht
 ·intro j hj;rcases aMo j ops.size with h|h
  ·rw[hl j h];exact decide_eq_false z8
  ·rw[aMt,aMp z8];rfl
theorem xK.weak{k:Nat}{T2:aJ}(h:xK P N nb ops C K k T2 H)(hw:∀i,T2 i= .junk\/T2 i=T i):xK P N nb ops C K k T H:=
 λE0 fuel t listed E a hC0 ho0 hsz hcnt hl hle ho hH ht=>h E0 fuel t listed E a hC0 ho0 hsz hcnt hl hle ho hH (mL ht hw)
theorem ST{m:Nat}(n:Nat){bm:List Nat}(hok:kT P ops.toList=true)(hn:decide (m+n<=ops.size)=true)(hbm:cH ops.toList=bm)(hbar:OE m n 0 bm=true)
  (h:DP P N ops (λ_=>xK P N nb ops C K (m+n)) m ((ops.toList.drop m).take n) (hZ (.tup []) T BX) H):xK P N nb ops C K m T H:=by
 have hok':=hok;unfold kT at hok';simp only[aMj]at hok';refine UO hok'.1.2 hok'.2 (of_decide_eq_true hn) ?_ ?_
 ·rw[hbm,aNz];intro j hj;have hlen:bm.length=ops.size:=by rw[<-hbm,rS];simp
  rcases aMo j (m+n)with h|h
  ·rw[decide_eq_true h];rfl
  ·rw[decide_eq_false (by omega:¬j<m+n),Bool.false_or,aNz];intro i hi;exact rH bm 0 hbar j (by rw[hlen];exact aN6.1 hj) z8 i (aN6.1 hi)
 ·refine BU.mono ?_ _ _ _ _ _ (xD _ _ _ _ _ (h [] (by intro p hp;cases hp)));rintro T1 H1 ⟨T2,h1,h2⟩;exact h2.weak h1
theorem NU{k:Nat}{o:Oper}(hC:OL nb C)(hb:iR ops.toList=true)(hok:ops.toList[k]? =some o)(hlast:ops.size=k+1)
  (h:XLU P N C K ops [o] T H):xK P N nb ops C K k T H:=by
 intro E0 fuel t listed E a hC0 ho0 hsz hcnt hl hle ho hH ht;have hbar':∀j,k<j->j<ops.size->((cH ops.toList).getD j 0).testBit k=true:=λj h1 h2=>z8
 have hk:k<ops.size:=by have:=lG hok;simpa using this
 have hdT:∀(j:Nat),j<ops.size->∀b c:Bool,listed.getD j b=listed.getD j c:=by
  intro j hj b c;rw[aMt,aMt,aMy z8];rfl
 have hcl:=pS hb hsz hl;have hok':ops[k]? =some o:=by rw[aNk]at hok;exact hok
 have hready:∀j,j<ops.size->cZ ops listed j=decide (j=k):=by
  intro j hj;rcases Nat.lt_trichotomy j k with hlt|rfl|hgt
  ·rw[decide_eq_false (by omega:¬j=k)];unfold cZ;rw[hdT j hj true false,hl j hj,decide_eq_true hlt];rfl
  ·rw[decide_eq_true rfl];unfold cZ;rw[hdT j hj true false,hl j hj,decide_eq_false (Nat.lt_irrefl _),aMy hj];simp only[aNx,Bool.true_and,aM6,aMz];rw[Array.all_eq_true'];intro e he;cases hbd:Region.binds .any e with
   |false=>rfl
   |true=>
    have hon:=iL hb (i:=j) (o:=ops[j]) (by simp[hj]) (e:=e) (by simpa using he) hbd;rw[hl e.on z8,decide_eq_true hon];rfl
  ·rw[decide_eq_false (by omega:¬j=k)];cases hr:cZ ops listed j with
   |false=>rfl
   |true=>
    unfold cZ at hr;rw[hdT j hj true false,aMy hj]at hr;simp only[aMj,aMk,aM6,aMz]at hr;obtain⟨_,hpre⟩:=hr;rw[Array.all_eq_true']at hpre;have hso0:ops.toList[j]? =some ops[j]:=by rw[aNk,aMy hj]
    have hbf:Bf ops.toList k j:=(lJ ops.toList _ ops.toList [] rfl zz).2 _ _ (hbar' j hgt hj);have:=Bf.pre (listed:=λj=>listed.getD j false) (i:=j) (λj' o' hoo hj' e he hbd=>by
     rcases hj' with hj'|rfl
     ·exact hcl j' o' hoo hj' e he hbd
     ·rw[hso0]at hoo;cases hoo;have:=hpre e (by simpa using he);rw[hbd]at this;simpa using this) hbf
    rw[hl k hk,decide_eq_false (Nat.lt_irrefl _)]at this;cases this
 have hfilt:(List.range ops.size).filter (cZ ops listed)= [k]:=by
  have e1:(List.range ops.size).filter (cZ ops listed)=(List.range ops.size).filter (λj=>decide (j=k)):=List.filter_congr λj hj=>hready j (aN6.1 hj);rw[e1];have hnd:((List.range ops.size).filter λj=>decide (j=k)).Nodup:=List.nodup_range.sublist List.filter_sublist;have hm:∀x,x∈(List.range ops.size).filter (λj=>decide (j=k))↔x=k:=by
   intro x;rw[aN5,aN6];constructor
   ·rintro⟨_,h⟩;exact of_decide_eq_true h
   ·rintro rfl;exact⟨hk,decide_eq_true rfl⟩
  generalize (List.range ops.size).filter (λj=>decide (j=k))=L at hnd hm
  match L,hnd,hm with
  | [],_,hm=>exact absurd ((hm k).2 rfl) zz
  | [x],_,hm=>rw[(hm x).1 zz]
  |x::y::l,hnd,hm=>
   have h1:=(hm x).1 zz;have h2:=(hm y).1 zz;rw[List.nodup_cons]at hnd;exact absurd (by rw[h1,h2];simp) hnd.1
 have hfuel:∃f,fuel=f+1:=by
  have hm:k∈(List.range ops.size).filter λi=> !listed.getD i true:=by
   rw[aN5];exact⟨aN6.2 hk,by rw[hdT k hk true false,hl k hk,decide_eq_false (Nat.lt_irrefl _)];rfl⟩
  have:=List.length_pos_of_mem hm;exact⟨fuel-1,z8⟩
 obtain⟨fuel,rfl⟩:=hfuel;have hnil:∀t,lH ops fuel t (listed.setIfInBounds k true)= []:=by
  intro t;cases fuel with
  |zero=>rfl
  |succ f=>
   unfold lH;have hz:(List.range ops.size).filter (cZ ops (listed.setIfInBounds k true))= []:=by
    rw[List.filter_eq_nil_iff];intro j hj;rw[aN6]at hj;unfold cZ;have:(listed.setIfInBounds k true).getD j true=true:=by
     rw[aMt,Array.getElem?_setIfInBounds]
     split
     ·rename_i e;subst e;simp[hsz,hk]
     ·rename_i e;rw[<-aMt,hdT j hj true false,hl j hj];exact decide_eq_true z8
    rw[this];simp
   rw[hz];rfl
 unfold lH;rw[hfilt];simp only[List.length_singleton,Nat.mod_one,aNw];rw[hnil,vT];simp only[List.filterMap_cons,hok',List.filterMap_nil];exact h E a (hC E0 E hC0 ho0 hle ho) ho hH ht
theorem aCo{id:Nat}(hC:OL nb C)(hf:P.follows .mixedOrders=true)(h:xK P N nb ops C K 0 T H):XU P N C K (.region id ops true) T H:=by
 intro E a hc ho hH ht;refine wp_region_draw λt=> ?_;rw[hf];simp only[Region.schedule,Bool.true_or,if_true,Region.linearise,NH,List.reverse_nil,aN7];refine h E ops.size t (Array.replicate ops.size false) E.drew a hc ho zz (aMr (List.length_filter_le _ _) zz) (λj hj=> ?_) (E.drew_le.leN nb) ho.drew hH ht;rw[aMt,aMy (by simpa using hj)];simp
end
open Go.Proofs Go.Memo Go.RowKit
def VT(src:List UInt8):List Te->Nat->List UInt8
 | [],off=>src.drop off
 |e::es,off=>((src.take e.st.toNat).drop off++e.text)++VT src es e.en.toNat
def ZJ(n:Int):Nat->List Te->Prop
 |_,[]=>True
 |off,e::es=>(off:Int)<=e.st/\e.st<=e.en/\e.en<=n/\ZJ n e.en.toNat es
def teL:List Te->Int
 | []=>0
 |e::es=>((e.text.length:Int) - (e.en-e.st))+teL es
def KH(src:List UInt8)(es:List Te):List UInt8:=if sL src es=0 then VT src es 0 else []
theorem ZB{n:Int}(h0:0<=n)(hn:n<=2000):∀(es:List Te) (pe len B:Int),teV n es pe len=0-> -1<=pe->(∀e∈es,e.text.length<=140737488355328)-> -B<=len->len<=B->B+es.length*281474976710656<=4611686018427387904->ZJ n pe.toNat es/\len+teL es<=2000
 | [],pe,len,B,h,hp,ht,h1,h2,h3=>by
  simp only[teV]at h;refine⟨trivial, ?_⟩;simp only[teL]
  split at h
  ·cases h
  ·omega
 |e::es,pe,len,B,h,hp,ht,h1,h2,h3=>by
  simp only[teV]at h
  split at h
  ·cases h
  ·rename_i hb;simp only[RQ,Bool.or_eq_true,decide_eq_true_eq,not_or]at hb;obtain⟨⟨q1,q2⟩,q3⟩:=hb;have htx:=ht e zz;have hB:B+281474976710656<=4611686018427387904:=by
    simp only[aM7]at h3;have:(0:Int)<=(es.length:Int)*281474976710656:=z8
    push_cast at h3
    omega
   have hw:KW e len=len+((e.text.length:Int) - (e.en-e.st)):=by
    unfold KW;rw[cL (n:=e.en-e.st) z8 z8,cL (n:=(e.text.length:Int) - (e.en-e.st)) z8 z8,cL z8 z8]
   obtain⟨k1,k2⟩:=ZB h0 hn es e.en (KW e len) (B+281474976710656) h z8 (λx hx=>ht x (by simp[hx])) (by rw[hw];omega) (by rw[hw];omega) (by simp only[aM7]at h3;push_cast at h3;omega);refine⟨⟨z8,z8,z8,k1⟩, ?_⟩;simp only[teL];rw[hw]at k2;omega
theorem QR{src:List UInt8}:∀(es:List Te) (off:Nat),off<=src.length->ZJ (src.length:Int) off es->((VT src es off).length:Int)=(src.length:Int) -off+teL es
 | [],off,h,_=>by simp only[VT,teL,aNd];omega
 |e::es,off,h,⟨h1,h2,h3,h4⟩=>by
  have ih:=QR es e.en.toNat z8 h4;simp only[VT,teL,aNo,aNd,aNe];omega
theorem QY{src:List UInt8}{es:List Te}(h:sL src es=0):src.length<=2000/\es.length<=50/\teV (src.length:Int) es (-1) (src.length:Int)=0:=by
 unfold sL at h
 split at h
 ·cases h
 ·rename_i hb;simp only[Bool.or_eq_true,decide_eq_true_eq,not_or]at hb;exact⟨z8,z8,h⟩
theorem aF5{src:List UInt8}{es:List Te}(h:sL src es=0)(ht:∀e∈es,e.text.length<=140737488355328):ZJ (src.length:Int) 0 es/\(VT src es 0).length<=2000:=by
 obtain⟨h1,h2,h3⟩:=QY h;obtain⟨k1,k2⟩:=ZB z8 z8 es (-1) (src.length:Int) 2000 h3 z8 ht z8 z8 z8;have k3:=QR es 0 (aNs _) k1;exact⟨k1,z8⟩
theorem sZ{E0:aK}{nb nb':Nat}(h:nb<=nb'):OL nb' (λE=>E0.leN nb E):=λE E' hC ho hle _=>hC.trans (hle.cut h)
theorem SE(src:List UInt8)(es:List Te)(hx:es.length<=maxLen)(ht:∀e∈es,e.text.length<=140737488355328)(H:aH):aR Tryz.prog 25 [.str src, .slice (es.map Te.enc) .none] H λr H'=>r= .tup [.str (KH src es),aE (sL src es)]/\H.length<=H'.length/\∀j,j<H.length->H'[j]? =H[j]? :=by
 refine aA1 (N:=40) Tryz.func25 rfl rfl zz λhb' E0 ho0 hH0=> ?_
 repeat (refine jT ?_)
 refine mV (sZ (aMq _)) ?_;refine eE (fI eO) z7 ?_;refine jY ?_
 repeat (refine jT ?_)
 refine mV (sZ (aMq _)) ?_;refine wR ?_;refine aFa 2 ?_;refine aKs aJm (aCy src es hx _) ?_;refine CJ ?_;refine jY ?_
 repeat (refine jT ?_)
 refine mV (sZ (aMq _)) ?_;refine eE (fI eO) z7 ?_;refine jY ?_
 by_cases hv:sL src es=0
 rotate_left
 ·repeat (refine jT ?_)
  refine mV (sZ (aMq _)) ?_;refine nX rfl (by simp only[jN,seval,aE,decide_eq_true_eq];first|done|exact decide_eq_true hv|simp[hv]) ?_;refine sU ?_;refine wT ?_;intro E a hC ho hH ht;refine⟨E,_,rfl,hC,ho,ht, .inr rfl,_,rfl, ?_⟩;rw[hH];refine⟨?_,aMq _,λ_ _=>rfl⟩;unfold KH;rw[if_neg hv];rfl
 obtain⟨hch,hlen⟩:=aF5 hv ht;obtain⟨hs1,hs2,_⟩:=QY hv
 repeat (refine jT ?_)
 refine mV (sZ (aMq _)) ?_;refine wF rfl (by simp only[jN,seval,aE,decide_eq_true_eq];first|done|exact decide_eq_false (by simp[hv])|simp[hv]) ?_;refine wK ?_;refine jY ?_
 repeat (refine jT ?_)
 refine OU ?_;refine aGx (aMq _) rfl rfl rfl ?_;refine HW ?_;refine jY ?_;have hst:∀l,OL (H.length+1) (Bx E0 H.length H.length l):=λl=>aHa z8 z8
 repeat (refine jT ?_)
 refine mV (hst []) ?_;refine eE (fI (cF y3 y9 NO pQ qM qK)) z7 ?_;refine jY ?_
 repeat (refine jT ?_)
 refine mV (hst []) ?_;refine eE (fI (cF y3 y9 NO pQ qM qK)) z7 ?_;refine jY ?_
 repeat (refine jT ?_)
 refine KL ?_;refine aEz [(0, .str src),(7, .optr H.length 0),(8, .int .i64 ((0:Nat):Int)),(17, .slice (es.map Te.enc) .none),(18, .int .i64 (es.length:Int)),(19, .int .i64 ((0:Nat):Int))] (by intro p hp;simp only[aN2,aOc,or_false]at hp;rcases hp with rfl|rfl|rfl|rfl|rfl|rfl<;>rfl) ?_;refine aBq (λn E T=>∃k off out,n=es.length-k/\k<=es.length/\off<=src.length/\T=gM [(0, .str src),(7, .optr H.length 0),(8, .int .i64 ((off:Nat):Int)),(17, .slice (es.map Te.enc) .none),(18, .int .i64 (es.length:Int)),(19, .int .i64 ((k:Nat):Int))]/\Bx E0 H.length H.length out E/\H.length<E.H.length/\(∀j,j<H.length->E.H[j]? =H[j]?)/\VT src es 0=out++VT src (es.drop k) off/\ZJ (src.length:Int) off (es.drop k)) es.length ?_ ?_
 ·intro E hC ho hH;refine⟨0,0,[],z8,aNs _,aNs _,rfl,hC,by rw[hH];simp,λj hj=>by rw[hH];exact aM0 hj,zz,hch⟩
 intro n E a T ⟨k,off,out,hn,hk,hoff,hT,hbx,hl1,hsm,hta,hcd⟩ ho htr;subst hT;generalize hH1:E.H=H1 at hl1 hsm;refine(?_:XU Tryz.prog 40 (Bx E0 H.length H.length out) _ _ _ H1) E a hbx ho hH1 htr;clear hbx htr ho hH1 a E;have hlt:(VT src es 0).length=out.length+(VT src (es.drop k) off).length:=by rw[hta,aNo]
 repeat (refine jT ?_)
 refine mV (hst out) ?_;refine eE (fI (cF y3 y9 NO pQ qM qK)) z7 ?_;refine jY ?_
 by_cases hc:k<es.length
 ·have gc:decide (((k:Nat):Int)<(es.length:Int))=true:=decide_eq_true z8
  repeat (refine jT ?_)
  refine mV (hst out) ?_;refine nX rfl (Zzn gc) ?_;refine wK ?_;refine jY ?_;have g1:=fS hc;have g2:=dF Te.enc hc;obtain⟨e,he⟩:∃e,e=es[k]:=⟨_,rfl⟩;rw[<-he]at g2;have hd:es.drop k=e::es.drop (k+1):=by rw[he];exact aOi hc
  rw[hd]at hta hcd hlt;obtain⟨c1,c2,c3,c4⟩:=hcd;simp only[VT]at hta hlt;obtain⟨sn,hsn⟩:∃sn:Nat,e.st=(sn:Int):=⟨e.st.toNat,z8⟩;obtain⟨fn,hfn⟩:∃fn:Nat,e.en=(fn:Int):=⟨e.en.toNat,z8⟩;rw[hsn,hfn]at c2;rw[hsn]at c1 hta hlt;rw[hfn]at c3 c4 hta hlt;rw[tN]at c4;simp only[tN]at hta hlt
  repeat (refine jT ?_)
  refine KL ?_
  repeat (refine jT ?_)
  refine mV (hst out) ?_;refine eE (fI (aG y3 y9 NO pQ qM qK (bR g1 g2 Te.enc_eq))) z7 ?_;refine jY ?_
  repeat (refine jT ?_)
  have NN:((0:Int)<=(sn:Int)/\(sn:Int)<=(src.length:Int))=True:=by simp;omega
  have OM:((0:Int)<=(off:Int)/\(off:Int)<=(sn:Int))=True:=by simp;omega
  obtain⟨pc,hpc⟩:∃p,p=(src.take sn).drop off++e.text:=⟨_,rfl⟩;rw[<-hpc]at hta hlt;have hpl:out.length+pc.length<=2000:=by
   have:=hlt;rw[aNo]at this;omega
  have gs3:(((src.take sn).drop off).length+e.text.length<=maxLen)=True:=by
   have:maxLen=9223372036854775807:=z7
   have:=congrArg List.length hpc;rw[aNo]at this;simp only[eq_iff_iff,iff_true];omega
  refine aCo (hst out) (by kernel_rfl) ?_;refine ST 8 (bm:= [0,0,0,4,15,0,32,127,255]) (by kernel_rfl) z7 (by kernel_rfl) (by kernel_rfl) ?_;refine lY 4 (aG y3 y9 pQ jS qM qK (bD hsn NN OM gs3)) ?_;refine lY 1 (aG y3 y9 pQ jS qM qK (bD hsn NN OM gs3)) ?_;refine iI (aG y3 y9 pQ jS qM qK (bD hsn NN OM gs3)) ?_;refine NU (hst out) (by kernel_rfl) rfl rfl ?_;refine HO (C':=Bx E0 H.length H.length (out++pc)) (args:= [.optr H.length 0, .str pc]) (R:=λr H'=>r= .tup [.int .i64 pc.length, .ifc none]/\H'=H1++ [.row [.int .i64 (sn:Int), .int .i64 e.en, .str e.text]]) (by rw[hpc];simp only[kC,seval,aE]) (bP eO) z7 aD1 (λE vargs hC ho hH hrl=>aIv z8 E vargs hC ho hH hrl) ?_;rintro _ _ ⟨rfl,rfl⟩;refine HW ?_;refine jY ?_;have hst2:=hst (out++pc);have gld:(H1++ [AObj.row [.int .i64 (sn:Int), .int .i64 e.en, .str e.text]])[H1.length]? =some (.row [.int .i64 (sn:Int), .int .i64 e.en, .str e.text]):=zz
  repeat (refine jT ?_)
  refine mV hst2 ?_;refine eE (fI (aG y3 y9 NO pQ qM qK gld)) z7 ?_;refine jY ?_;have gw:IntKind.i64.wrap (((k:Nat):Int)+1)=((k+1:Nat):Int):=by
   have:maxLen=9223372036854775807:=z7
   rw[cL z8 z8];omega
  repeat (refine jT ?_)
  refine mV hst2 ?_;refine eE (fI (aG y3 y9 NO pQ qM qK gw)) z7 ?_;intro E a hC ho hH ht;refine⟨es.length- (k+1),E,_,z8,rfl,⟨k+1,fn,out++pc,rfl,z8,z8,rfl,hC,by rw[hH];simp;omega,λj hj=>by rw[hH,aM0 z8];exact hsm j hj,by rw[hta];simp,c4⟩,ho,ht.sel (JI _ ?_)⟩;rw[hfn];intro p hp;simp only[aN2,aOc,or_false]at hp;rcases hp with rfl|rfl|rfl|rfl|rfl|rfl<;>rfl
 ·have gc:decide (((k:Nat):Int)<(es.length:Int))=false:=decide_eq_false z8
  repeat (refine jT ?_)
  refine mV (hst out) ?_;refine wF rfl (Zzn gc) ?_;refine dO ?_;refine jY ?_;obtain rfl:k=es.length:=z8
  rw[List.drop_length]at hta hlt;simp only[VT]at hta hlt;have NN:((0:Int)<=(src.length:Int)/\(src.length:Int)<=(src.length:Int))=True:=zz
  have OM:((0:Int)<=(off:Int)/\(off:Int)<=(src.length:Int))=True:=by simp;omega
  repeat (refine jT ?_)
  refine OU ?_;refine KG (hst out) (bP eO) z7 (fI (cF y3 y9 NO pQ qM qK)) ?_;refine KG (hst out) (bP eO) z7 (fI (cF y3 y9 NO pQ qM qK)) ?_;refine KG (hst out) (bP eO) z7 (by simp only[kA,seval,aE,y3,y9,NO,pQ,qM,qK,NN,OM,tN,aOj,Option.isNone_none,if_true,pZ]<;>with_reducible rfl) ?_;refine HO (C':=Bx E0 H.length H.length (out++src.drop off)) (args:= [.optr H.length 0, .str (src.drop off)]) (R:=λr H'=>r= .tup [.int .i64 (src.drop off).length, .ifc none]/\H'=H1) (bP eO) (bP eO) z7 aD1 (λE vargs hC ho hH hrl=>aIv z8 E vargs hC ho hH hrl) ?_;rintro _ HY ⟨rfl,eY⟩;rw[eY];clear eY HY;refine HW ?_;refine jY ?_
  repeat (refine jT ?_)
  refine OU ?_;refine HO (C':=λE=>E0.leN H.length E) (R:=λr H'=>r= .str (out++src.drop off)/\H'=H1) (bP eO) (bP eO) z7 aJi (λE vargs hC ho hH hrl=>aHx E vargs hC ho hH hrl) ?_;rintro _ HY ⟨rfl,eY⟩;rw[eY];clear eY HY;refine KG (sZ (aMq _)) (bP eO) z7 (fI (cF y3 y9 NO pQ qM qK)) ?_;refine KG (sZ (aMq _)) (bP eO) z7 (fI (cF y3 y9 NO pQ qM qK)) ?_;refine HW ?_;refine jY ?_;refine mV (sZ (aMq _)) ?_;refine wT ?_;intro E a hC ho hH ht;refine⟨E,_,rfl,hC,ho,ht, .inr rfl,_,rfl, ?_⟩;rw[hH];refine⟨?_,z8,hsm⟩;unfold KH;rw[if_pos hv,hta,hv];rfl
end Go.Abs
namespace Go.Abs
section
variable{P:Program}{N nb:Nat}{ops:Array Oper}{Q:cT}
end
theorem AV{P:Program}{N:Nat}{ops:Array Oper}{Q:cT}{k:Nat}{o:Oper}{l:List Oper}{T:aJ}{G:Nat->Bool}{H:aH}{t y':TypeId}{x y:Operand}{ks:List FT}{ps qs:List PV}(F:xT P t ks)
  (hop:o.op= .binOp .neq t x y y') (hx:bS T x= .agg ps) (hy:bS T y= .agg qs) (fx:xP ks ps=true) (fy:xP ks qs=true) (hc:fK ops.toList T G N o=some true) (hg:o.op.operands.toList.all (AQ true G)=true) (okx:aU N x=true) (oky:aU N y=true)
  (h:DP P N ops Q (k+1) l (hZ (.tup []) (bT T o.dst (.bool (!kM ps qs))) (xR G o.dst true)) H):DP P N ops Q k (o::l) (hZ (.tup []) T G) H:=by
 refine lQ hc hg (λE A ho he=> ?_) h;have rx:=he x (by rw[hop];simp[Op.operands]) okx;have ry:=he y (by rw[hop];simp[Op.operands]) oky;rw[hx]at rx;rw[hy]at ry;generalize hvx:A.eval x=vx at rx;generalize hvy:A.eval y=vy at ry;cases rx with
 |agg xs _ a1 a2=>
  cases ry with
  |agg ys _ b1 b2=>
   have g:∀w,(eqGuard .neq t x y (.agg xs) (.agg ys)).run P w= .ok () w:=λw=>by
    unfold eqGuard;simp only[aM9,run_program,aNa,F.gu,aNx,if_true,Sem.run_ite,aNc]
    split<;>rfl
   refine⟨.bool (!kM ps qs), ?_, .bool _⟩;unfold execOp;rw[hop];simp only[aM9,hvx,hvy,g,aNa,binOp,LY F (.agg xs _ a1 a2) (.agg ys _ b1 b2) (rG fx) (rG fy) (λi h h1 h2=>⟨tD fx i h h1,tD fy i h h2⟩),aNc]
open Go.Proofs Go.Memo
theorem aIj:xT Tryz.prog 50 [.str, .str]:=⟨⟨_,Tryz.underlying50,rfl,λi h h2=>by
 match i,h2 with
 |0,_=>exact⟨zz,rfl,Tryz.underlying9⟩
 |1,_=>exact⟨zz,rfl,Tryz.underlying9⟩⟩,by kernel_rfl,by kernel_rfl⟩
theorem aJ9:xT Tryz.prog 32 [.int, .int, .int, .int, .str]:=⟨⟨_,Tryz.underlying32,rfl,λi h h2=>by
 match i,h2 with
 |0,_=>exact⟨zz,rfl,Tryz.underlying3⟩
 |1,_=>exact⟨zz,rfl,Tryz.underlying3⟩
 |2,_=>exact⟨zz,rfl,Tryz.underlying3⟩
 |3,_=>exact⟨zz,rfl,Tryz.underlying3⟩
 |4,_=>exact⟨zz,rfl,Tryz.underlying9⟩⟩,by kernel_rfl,by kernel_rfl⟩
theorem aC0(s:Md):kM s.enc.cells s.enc.cells=true:=by simp[Md.enc_cells,kM,yZ]
theorem aB9(s:Rq):kM s.enc.cells s.enc.cells=true:=by simp[Rq.enc_cells,kM,yZ]
theorem aFl(us:List Int)(hx:us.length<=maxLen):PC Tryz.prog 36 [.slice (us.map aE) .none, .slice (us.map aE) .none] (.bool true):=by
 refine kG (N:=26) Tryz.func36 rfl rfl zz (by simp[fP,gK,bM]) (.bool _) ?_;refine aV (aS dU gZ) ?_;refine aV (bD y3 lW dU gZ) ?_;refine pJ (aS dU gZ) ?_
 repeat refine wS ?_
 refine wK ?_;refine aV (bD y3 lW dU gZ) ?_
 repeat refine wS ?_
 refine iQ (σ:=Unit) (us.length) (λ(u_:Unit)=> [(0, .slice (us.map aE) .none),(1, .slice (us.map aE) .none)]) [0,1] ([]) (λ(u_:Unit)=> []) (λ(i:Nat) (u_:Unit)=>True) (()) ([]) rfl rfl rfl rfl rfl rfl rfl rfl rfl z7 z7 z7 (λ_=>rfl) (hx) ⟨(dJ (aS dU gZ)),(dJ (aS dU gZ)),(dJ (aS dU gZ)),(dJ (aS dU gZ)),trivial⟩ (dJ (aS dU gZ)) zz (λ_ _ _=>by first|exact aNs _| (simp only[aNo];omega)) ?_ ?_ ?_
 ·exact λi s hg=>⟨by first|exact dN _| (simp only[aN9];assumption)| (refine kI hb' zz ?_;repeat (first|exact dN _|exact trivial|exact eK _| (refine iJ.cons ?_ ?_)| (refine dT (by first|exact Md.bel _ _|exact Rq.bel _ _|exact Rs.bel _ _|exact Te.bel _ _|exact fP _ _|exact gK _ _|exact jV _ _|exact jQ _ _|exact bM _ _|exact eX _ _ _ _|exact eF _ _ _|exact bF.int _ _|exact bF.bool _|exact bF.str _|exact bF.nilp|exact bF.nilfn|exact bF.optr _ _ zz|exact cM _|exact cP _|exact cV _ _|assumption) ?_))),by repeat (first|exact jJ.nil|refine jJ.cons (by first|exact Md.bel _ _|exact Rq.bel _ _|exact Rs.bel _ _|exact Te.bel _ _|exact fP _ _|exact gK _ _|exact jV _ _|exact jQ _ _|exact bM _ _|exact eX _ _ _ _|exact eF _ _ _|exact bF.int _ _|exact bF.bool _|exact bF.str _|exact bF.nilp|exact bF.nilfn|exact bF.optr _ _ zz|exact cM _|exact cP _|exact cV _ _|assumption) ?_)⟩
 ·intro i u_ hi hg;have g1:=fS hi;have g2:=dF aE hi;refine aV (bD dU gZ g1 g2) ?_
  repeat refine wS ?_
  refine eJ (by kernel_rfl) ?_;refine iI (cF y3 lW dU gZ g1 g2) ?_;refine pJ (bD dU gZ g1 g2) ?_
  repeat refine wS ?_
  refine wK ?_;exact⟨⟨rfl,rfl,trivial⟩,(),[],⟨rfl,rfl,trivial⟩,rfl,trivial⟩
 ·intro u_ hg;refine aV (aS dU gZ) ?_
  repeat refine wS ?_
  refine wT ⟨.inr rfl,_,rfl, ?_⟩;rfl
theorem aJw(us:List Md)(hx:us.length<=maxLen):PC Tryz.prog 13 [.slice (us.map Md.enc) .none, .slice (us.map Md.enc) .none] (.bool true):=by
 refine kG (N:=26) Tryz.func13 rfl rfl zz (by simp[fP,gK,bM]) (.bool _) ?_;refine aV (aS dU gZ) ?_;refine aV (bL y3 lZ jI dU gZ) ?_;refine pJ (aS dU gZ) ?_
 repeat refine wS ?_
 refine wK ?_;refine aV (bD lZ jI dU gZ) ?_
 repeat refine wS ?_
 refine iQ (σ:=Unit) (us.length) (λ(u_:Unit)=> [(0, .slice (us.map Md.enc) .none),(1, .slice (us.map Md.enc) .none)]) [0,1] ([]) (λ(u_:Unit)=> []) (λ(i:Nat) (u_:Unit)=>True) (()) ([]) rfl rfl rfl rfl rfl rfl rfl rfl rfl z7 z7 z7 (λ_=>rfl) (hx) ⟨(dJ (aS dU gZ)),(dJ (aS dU gZ)),(dJ (aS dU gZ)),(dJ (aS dU gZ)),trivial⟩ (dJ (aS dU gZ)) zz (λ_ _ _=>by first|exact aNs _| (simp only[aNo];omega)) ?_ ?_ ?_
 ·exact λi s hg=>⟨by first|exact dN _| (simp only[aN9];assumption)| (refine kI hb' zz ?_;repeat (first|exact dN _|exact trivial|exact eK _| (refine iJ.cons ?_ ?_)| (refine dT (by first|exact Md.bel _ _|exact Rq.bel _ _|exact Rs.bel _ _|exact Te.bel _ _|exact fP _ _|exact gK _ _|exact jV _ _|exact jQ _ _|exact bM _ _|exact eX _ _ _ _|exact eF _ _ _|exact bF.int _ _|exact bF.bool _|exact bF.str _|exact bF.nilp|exact bF.nilfn|exact bF.optr _ _ zz|exact cM _|exact cP _|exact cV _ _|assumption) ?_))),by repeat (first|exact jJ.nil|refine jJ.cons (by first|exact Md.bel _ _|exact Rq.bel _ _|exact Rs.bel _ _|exact Te.bel _ _|exact fP _ _|exact gK _ _|exact jV _ _|exact jQ _ _|exact bM _ _|exact eX _ _ _ _|exact eF _ _ _|exact bF.int _ _|exact bF.bool _|exact bF.str _|exact bF.nilp|exact bF.nilfn|exact bF.optr _ _ zz|exact cM _|exact cP _|exact cV _ _|assumption) ?_)⟩
 ·intro i u_ hi hg;have g1:=fS hi;have g2:=dF Md.enc hi;have hs:=aC0 us[i];refine aV (bL dU gZ g1 g2 Md.enc_len) ?_
  repeat refine wS ?_
  refine eJ (by kernel_rfl) ?_;refine lY 8 (aG lZ jI dU gZ g1 g2 Md.enc_len) ?_;refine AV (ps:=us[i].enc.cells) (qs:=us[i].enc.cells) aIj rfl (bK eO) (bK eO) rfl rfl (ZY eO) (ZY eO) z7 z7 ?_;rw[hs];refine iI (bL dU gZ g1 g2 Md.enc_len) ?_;refine pJ (bL dU gZ g1 g2 Md.enc_len) ?_
  repeat refine wS ?_
  refine wK ?_;exact⟨⟨rfl,rfl,trivial⟩,(),[],⟨rfl,rfl,trivial⟩,rfl,trivial⟩
 ·intro u_ hg;refine aV (aS dU gZ) ?_
  repeat refine wS ?_
  refine wT ⟨.inr rfl,_,rfl, ?_⟩;rfl
theorem aJ2(us:List Rq)(hx:us.length<=maxLen):PC Tryz.prog 15 [.slice (us.map Rq.enc) .none, .slice (us.map Rq.enc) .none] (.bool true):=by
 refine kG (N:=26) Tryz.func15 rfl rfl zz (by simp[fP,gK,bM]) (.bool _) ?_;refine aV (aS dU gZ) ?_;refine aV (bL y3 jH qU dU gZ) ?_;refine pJ (aS dU gZ) ?_
 repeat refine wS ?_
 refine wK ?_;refine aV (bD jH qU dU gZ) ?_
 repeat refine wS ?_
 refine iQ (σ:=Unit) (us.length) (λ(u_:Unit)=> [(0, .slice (us.map Rq.enc) .none),(1, .slice (us.map Rq.enc) .none)]) [0,1] ([]) (λ(u_:Unit)=> []) (λ(i:Nat) (u_:Unit)=>True) (()) ([]) rfl rfl rfl rfl rfl rfl rfl rfl rfl z7 z7 z7 (λ_=>rfl) (hx) ⟨(dJ (aS dU gZ)),(dJ (aS dU gZ)),(dJ (aS dU gZ)),(dJ (aS dU gZ)),trivial⟩ (dJ (aS dU gZ)) zz (λ_ _ _=>by first|exact aNs _| (simp only[aNo];omega)) ?_ ?_ ?_
 ·exact λi s hg=>⟨by first|exact dN _| (simp only[aN9];assumption)| (refine kI hb' zz ?_;repeat (first|exact dN _|exact trivial|exact eK _| (refine iJ.cons ?_ ?_)| (refine dT (by first|exact Md.bel _ _|exact Rq.bel _ _|exact Rs.bel _ _|exact Te.bel _ _|exact fP _ _|exact gK _ _|exact jV _ _|exact jQ _ _|exact bM _ _|exact eX _ _ _ _|exact eF _ _ _|exact bF.int _ _|exact bF.bool _|exact bF.str _|exact bF.nilp|exact bF.nilfn|exact bF.optr _ _ zz|exact cM _|exact cP _|exact cV _ _|assumption) ?_))),by repeat (first|exact jJ.nil|refine jJ.cons (by first|exact Md.bel _ _|exact Rq.bel _ _|exact Rs.bel _ _|exact Te.bel _ _|exact fP _ _|exact gK _ _|exact jV _ _|exact jQ _ _|exact bM _ _|exact eX _ _ _ _|exact eF _ _ _|exact bF.int _ _|exact bF.bool _|exact bF.str _|exact bF.nilp|exact bF.nilfn|exact bF.optr _ _ zz|exact cM _|exact cP _|exact cV _ _|assumption) ?_)⟩
 ·intro i u_ hi hg;have g1:=fS hi;have g2:=dF Rq.enc hi;have hs:=aB9 us[i];refine aV (bL dU gZ g1 g2 Rq.enc_len) ?_
  repeat refine wS ?_
  refine eJ (by kernel_rfl) ?_;refine lY 8 (aG jH qU dU gZ g1 g2 Rq.enc_len) ?_;refine AV (ps:=us[i].enc.cells) (qs:=us[i].enc.cells) aJ9 rfl (bK eO) (bK eO) rfl rfl (ZY eO) (ZY eO) z7 z7 ?_;rw[hs];refine iI (bL dU gZ g1 g2 Rq.enc_len) ?_;refine pJ (bL dU gZ g1 g2 Rq.enc_len) ?_
  repeat refine wS ?_
  refine wK ?_;exact⟨⟨rfl,rfl,trivial⟩,(),[],⟨rfl,rfl,trivial⟩,rfl,trivial⟩
 ·intro u_ hg;refine aV (aS dU gZ) ?_
  repeat refine wS ?_
  refine wT ⟨.inr rfl,_,rfl, ?_⟩;rfl
theorem aAr(us:List Rs)(hx:us.length<=maxLen)(hn:∀r∈us,r.nums.length<=maxLen):PC Tryz.prog 12 [.slice (us.map Rs.enc) .none, .slice (us.map Rs.enc) .none] (.bool true):=by
 refine kG (N:=94) Tryz.func12 rfl rfl zz (by simp[jV]) (.bool _) ?_;refine aV (aS dU gZ) ?_;refine aV (bL y3 y35 qO dU gZ) ?_;refine pJ (aS dU gZ) ?_
 repeat refine wS ?_
 refine wK ?_;refine aV (bD y35 qO dU gZ) ?_
 repeat refine wS ?_
 refine iQ (σ:=Unit) (us.length) (λ(u_:Unit)=> [(0, .slice (us.map Rs.enc) .none),(1, .slice (us.map Rs.enc) .none)]) [0,1] ([]) (λ(u_:Unit)=> []) (λ(i:Nat) (u_:Unit)=>True) (()) ([]) rfl rfl rfl rfl rfl rfl rfl rfl rfl z7 z7 z7 (λ_=>rfl) (hx) ⟨(dJ (aS dU gZ)),(dJ (aS dU gZ)),(dJ (aS dU gZ)),(dJ (aS dU gZ)),trivial⟩ (dJ (aS dU gZ)) zz (λ_ _ _=>by first|exact aNs _| (simp only[aNo];omega)) ?_ ?_ ?_
 ·exact λi s hg=>⟨by first|exact dN _| (simp only[aN9];assumption)| (refine kI hb' zz ?_;repeat (first|exact dN _|exact trivial|exact eK _| (refine iJ.cons ?_ ?_)| (refine dT (by first|exact Md.bel _ _|exact Rq.bel _ _|exact Rs.bel _ _|exact Te.bel _ _|exact fP _ _|exact gK _ _|exact jV _ _|exact jQ _ _|exact bM _ _|exact eX _ _ _ _|exact eF _ _ _|exact bF.int _ _|exact bF.bool _|exact bF.str _|exact bF.nilp|exact bF.nilfn|exact bF.optr _ _ zz|exact cM _|exact cP _|exact cV _ _|assumption) ?_))),by repeat (first|exact jJ.nil|refine jJ.cons (by first|exact Md.bel _ _|exact Rq.bel _ _|exact Rs.bel _ _|exact Te.bel _ _|exact fP _ _|exact gK _ _|exact jV _ _|exact jQ _ _|exact bM _ _|exact eX _ _ _ _|exact eF _ _ _|exact bF.int _ _|exact bF.bool _|exact bF.str _|exact bF.nilp|exact bF.nilfn|exact bF.optr _ _ zz|exact cM _|exact cP _|exact cV _ _|assumption) ?_)⟩
 ·intro i u_ hi hg;have g1:=fS hi;have g2:=dF Rs.enc hi;obtain⟨a,ha⟩:∃a,a=us[i]:=⟨_,rfl⟩;have han:=hn us[i] (aNq hi);rw[<-ha]at g2 han;refine aV (bL dU gZ g1 g2 Rs.enc_eq) ?_
  repeat refine wS ?_
  refine eJ (by kernel_rfl) ?_;refine lY 74 (aG y3 y9 y35 EN lW qO (aG dU gZ g1 g2 Rs.enc_eq @zqE (aS @zrF @zqq))) ?_;refine CE (aG dU gZ g1 g2 Rs.enc_eq @zqE (aS @zrF @zqq)) aHo (λhc=>(aFl a.nums han _)) ?_;refine iI (aG dU gZ g1 g2 Rs.enc_eq @zqE (aS @zrF @zqq)) ?_;refine pJ (bL dU gZ g1 g2 Rs.enc_eq) ?_
  repeat refine wS ?_
  refine wK ?_;exact⟨⟨rfl,rfl,trivial⟩,(),[],⟨rfl,rfl,trivial⟩,rfl,trivial⟩
 ·intro u_ hg;refine aV (aS dU gZ) ?_
  repeat refine wS ?_
  refine wT ⟨.inr rfl,_,rfl, ?_⟩;rfl
end Go.Abs
namespace Go.Abs
open Go.Proofs Go.Memo
theorem aF7(xs:List Md)(hx:xs.length*32<=2^47)(H:aH):aR Tryz.prog 69 [.slice (xs.map Md.enc) .none] H (λr H'=>r= .slice (xs.map Md.enc) (xN xs H.length)/\H'=pN xs 2 H):=by
 have em:maxLen=9223372036854775807:=z7
 refine aF (N:=5) Tryz.func69 rfl rfl zz λhb'=> ?_;refine sU ?_;refine MB 1 ?_;show bC _ _ _ _ _ _ _ (pN ([]:List Md) 2 H);refine kV (enc:=Md.enc) (xs:= []) (ys:=xs) (sz:=2) (tl:=.none) Md.enc_len nO (bP eO) rfl z7 z7 (dW eO) (dW eO) dZ rfl z7 (by simpa using hx) (by simp;omega) (by rw[dZ];rfl) rJ rfl ?_;simp only[aN7];refine CJ ?_
 repeat refine wS ?_
 refine wT ⟨.inr rfl,_,rfl, ?_⟩;exact⟨rfl,rfl⟩
theorem aJn(xs:List Int)(hx:xs.length*8<=2^47)(H:aH):aR Tryz.prog 70 [.slice (xs.map aE) .none] H (λr H'=>r= .slice (xs.map aE) (xN xs H.length)/\H'=pN xs 1 H):=by
 have em:maxLen=9223372036854775807:=z7
 refine aF (N:=5) Tryz.func70 rfl rfl zz λhb'=> ?_;refine sU ?_;refine MB 1 ?_;show bC _ _ _ _ _ _ _ (pN ([]:List Int) 1 H);refine kV (enc:=aE) (xs:= []) (ys:=xs) (sz:=1) (tl:=.none) qI sJ (bP eO) rfl z7 z7 (dW eO) (dW eO) eD rfl z7 (by simpa using hx) (by simp;omega) (by rw[eD];rfl) zX rfl ?_;simp only[aN7];refine CJ ?_
 repeat refine wS ?_
 refine wT ⟨.inr rfl,_,rfl, ?_⟩;exact⟨rfl,rfl⟩
theorem WF(xs:List Rq)(hx:xs.length*48<=2^47)(H:aH):aR Tryz.prog 35 [.slice (xs.map Rq.enc) .none] H (λr H'=>r= .slice (xs.map Rq.enc) (xN xs H.length)/\H'=pN xs 5 H):=by
 have em:maxLen=9223372036854775807:=z7
 refine aF (N:=5) Tryz.func35 rfl rfl zz λhb'=> ?_;refine sU ?_;refine MB 1 ?_;show bC _ _ _ _ _ _ _ (pN ([]:List Rq) 5 H);refine kV (enc:=Rq.enc) (xs:= []) (ys:=xs) (sz:=5) (tl:=.none) Rq.enc_len AR (bP eO) rfl z7 z7 (dW eO) (dW eO) kD rfl z7 (by simpa using hx) (by simp;omega) (by rw[kD];rfl) CT rfl ?_;simp only[aN7];refine CJ ?_
 repeat refine wS ?_
 refine wT ⟨.inr rfl,_,rfl, ?_⟩;exact⟨rfl,rfl⟩
theorem aBl(xs:List Rq){cv:PV}{cid:List Nat}{H:aH}(hk:vK Rq.enc 5 H cv xs cid)(hx:xs.length<=1000000):aR Tryz.prog 38 [cv] H (λr H'=>(∃tl,r= .slice (xs.map Rq.enc) tl)/\H.length<=H'.length/\∀j,j<H.length->H'[j]? =H[j]?):=by
 have em:maxLen=9223372036854775807:=z7
 have hln:=hk.len;refine aF (N:=8) Tryz.func38 rfl rfl zz λhb'=> ?_;refine sU ?_;rcases hk.cases2 with⟨rfl,rfl,rfl⟩| ⟨ic,c,pre,rest,rfl,rfl,hHr,hcc,hm1,hm2⟩
 ·
  repeat refine wS ?_
  refine wR ?_;refine eT 1 (by simp only[kA,seval,aE,aOb,cK]<;>with_reducible rfl) z7 ?_;refine pV (es:= []) (tl:=.full) rfl (dW eO) rfl z7 (by rw[kD];rfl) (λb hb=> ?_);refine oN ?_
  repeat refine wS ?_
  refine wC rfl (by simp only[jN,seval,aE,aOb,cK]<;>with_reducible rfl) (λb0=> ?_) (λb0=> ?_)
  ·
   repeat refine wS ?_
   refine eE (by simp only[kA,seval,aE,aOb,cK]<;>with_reducible rfl) z7 ?_
   repeat refine wS ?_
   refine wT ⟨.inr rfl,_,rfl, ?_⟩;exact⟨⟨_,rfl⟩,aMq _,λ_ _=>rfl⟩
  ·
   repeat refine wS ?_
   refine wK ?_
   repeat refine wS ?_
   refine eE (by simp only[kA,seval,jH,qU,aE,aOb,cK]<;>with_reducible rfl) z7 ?_
   repeat refine wS ?_
   refine wT ⟨.inr rfl,_,rfl, ?_⟩;exact⟨⟨_,rfl⟩,aMq _,λ_ _=>rfl⟩
 ·
  refine MB 1 ?_;refine JC rfl (dW eO) rfl z7 (by rw[kD];rfl) ?_;refine oN ?_;refine aK1 ?_
  repeat refine wS ?_
  refine wK ?_;rcases Nat.eq_zero_or_pos xs.length with h0|h0
  ·
   obtain rfl:=List.length_eq_zero_iff.1 h0;refine eA 2 (aS jH qU) ?_;refine VL (bP eO) rfl z7 z7 (dW eO) (dW eO) kD (by rw[kD];rfl) ?_;refine CJ ?_
   repeat refine wS ?_
   refine wT ⟨.inr rfl,_,rfl, ?_⟩;exact⟨⟨_,rfl⟩,aMq _,λ_ _=>rfl⟩
  ·
   have hsl:(aL (xs.map Rq.enc)).length=xs.length*5:=fD Rq.enc_len xs;refine wV ?_;refine eA 2 (aS jH qU) ?_;refine EF (n:=xs.length) (src:=aL (xs.map Rq.enc)) H.length zz (bP eO) rfl z7 z7 (dW eO) (λE v ho hE hv=> ?_) h0 (by show _*48<=_;omega) z8 hsl z7 kD (by rw[kD];rfl) CT rfl ?_
   ·obtain⟨ad,rfl,arrs,r1,r2⟩:=kL (P:=Tryz.prog) (id:=ic) (off:=pre.length) (n:=xs.length) (c:=c) (k:=xs.length) (sz:=5) ho (by rw[hE];exact(aM0 (lG hHr)).trans hHr) (by simp only[aNo,hsl];omega) (by have:=hv;simp only[kC,seval,aE]at this;exact this);rw[List.drop_left,<-hsl,List.take_left]at r2;exact⟨ad,c,arrs,rfl,r1,r2⟩
   intro c2 rest2 hc1 hc2 hrest;have hrl:rest2.length=(c2-xs.length)*5:=by rw[hrest];simp[aW,PV.cells]
   rw[aN4 _ _ (aMq _),aNt];refine CJ ?_;refine iN (xs:=xs) Rq.enc_len z7 2 (.of (rest:=rest2) rfl zz (by rw[hrl,<-aNu];congr 1;omega) hc2) rfl λHQ hlQ hsQ=> ?_
   repeat refine wS ?_
   refine wT ⟨.inr rfl,_,rfl, ?_⟩;exact⟨⟨_,rfl⟩,by rw[hlQ];simp,λj hj=>(hsQ j (by simp;omega)).trans (aM0 hj)⟩
end Go.Abs
namespace Go.Abs
open Go.Proofs Go.Memo
theorem UC{bA n sr:Nat}{S:fX}{tl1 tl2:bE}{pv:PV}{loc:QK->Nat}{st:Memo.St}{G:eL}{pid:List Nat}{H:aH}(hS:jR bA n sr S tl1 tl2 pv loc st G pid H)(hl:S.ms.length<=8):aR Tryz.prog 14 [.optr sr 0] H (λr H'=>(∃tl,r= .slice (S.ms.map Md.enc) tl)/\H.length<=H'.length/\∀j,j<H.length->H'[j]? =H[j]?):=by
 have hrow:=hS.row;simp only[bV,aE]at hrow;have hrowL:=bU hrow;refine aF (N:=8) Tryz.func14 rfl rfl zz λhb'=> ?_;refine aV (aS hrow hrowL) ?_;refine eA 4 (bL lZ jI uS hrow hrowL) ?_;refine oW (aS hrow hrowL) YU (IS S.ms z8 _) ?_;rintro r H1 ⟨cid,k1,k2,k3,k4⟩;refine bH (aS hrow hrowL) ?_;refine iN (xs:=S.ms) Md.enc_len z7 2 k1 rfl λHQ hlQ hsQ=> ?_
 repeat refine wS ?_
 refine wT ⟨.inr rfl,_,rfl, ?_⟩;exact⟨⟨_,rfl⟩,by rw[hlQ];exact k3,λj hj=>(hsQ j (λh=>by have:=k2 j h;omega)).trans (k4 j hj)⟩
theorem GK{bA n sr:Nat}{S:fX}{tl1 tl2:bE}{pv:PV}{loc:QK->Nat}{st:Memo.St}{G:eL}{pid:List Nat}{H:aH}(hS:jR bA n sr S tl1 tl2 pv loc st G pid H)(hl:S.ps.length<=1000000):aR Tryz.prog 16 [.optr sr 0] H (λr H'=>(∃tl,r= .slice (S.ps.map Rq.enc) tl)/\H.length<=H'.length/\∀j,j<H.length->H'[j]? =H[j]?):=by
 have hrow:=hS.row;simp only[bV,aE]at hrow;have hrowL:=bU hrow;obtain⟨hpc0,hpc,hpj⟩:=hS.p.one;refine aF (N:=8) Tryz.func16 rfl rfl zz λhb'=> ?_;refine aV (bD hrow hrowL hpj hpc) ?_;refine eA 4 (aG jH qU uS hrow hrowL hpj hpc) ?_;refine kW (DT (bD hrow hrowL hpj hpc)) (bP (bD hrow hrowL hpj hpc)) z7 aHl (aBl S.ps hS.p hl) ?_;rintro r H1 ⟨⟨tl,rfl⟩,k3,k4⟩;refine bH (bD hrow hrowL hpj hpc) ?_
 repeat refine wS ?_
 refine wT ⟨.inr rfl,_,rfl, ?_⟩;exact⟨⟨_,rfl⟩,k3,k4⟩
def MM(S:fX)(name:List UInt8):Int×Int:=if cN (aO name) S.ms<0 then(0,5)else(S.vs.getD (cN (aO name) S.ms).toNat 0,0)
theorem FM{bA n sr:Nat}{S:fX}{tl1 tl2:bE}{pv:PV}{loc:QK->Nat}{st:Memo.St}{G:eL}{pid:List Nat}{H:aH}(hS:jR bA n sr S tl1 tl2 pv loc st G pid H)(name:List UInt8)(hl:S.ms.length<=maxLen)(hlv:S.vs.length=S.ms.length):aR Tryz.prog 17 [.optr sr 0, .str name] H (λr H'=>r= .tup [aE (MM S name).1,aE (MM S name).2]/\H'=H):=by
 have hrow:=hS.row;simp only[bV,aE]at hrow;have hrowL:=bU hrow;unfold MM;refine eW (N:=19) Tryz.func17 rfl rfl zz (.tup _ (by simp[bF.int,aE])) λhb'=> ?_;refine aV (aS hrow hrowL) ?_;refine eA 2 (aS hrow hrowL) ?_;refine qT (aS hrow hrowL) MG (xJ hS name hl) ?_;refine bH (aS hrow hrowL) ?_;refine aV (bR y3 hrow hrowL) ?_;refine gG (aS hrow hrowL) (λbt11=> ?_) (λbt11=> ?_)
 ·
  rw[if_pos (of_decide_eq_true bt11)];refine aV (aS hrow hrowL) ?_
  repeat refine wS ?_
  refine wT ⟨.inr rfl,_,_,(bI (.tmp 4) (.tmp 5) rfl (aM z7) (aM z7)), ?_,sP⟩;rfl
 ·
  have hi0:=of_decide_eq_false bt11;rw[if_neg hi0];obtain⟨k,hk⟩:∃k:Nat,cN (aO name) S.ms=(k:Int):=⟨(cN (aO name) S.ms).toNat,z8⟩;have hkl:k<S.ms.length:=by have:=rZ (p:=aO name) (xs:=S.ms) z8;omega
  have gk:((0:Int)<=(k:Int)/\(k:Int)<(S.vs.length:Int))=True:=by simp;omega
  have ge:=dF aE (xs:=S.vs) (i:=k) z8;have hgd:S.vs.getD k 0=S.vs[k]'z8:=by rw[aNj,aNi z8];rfl
  rw[hk,tN,hgd]
  repeat refine wS ?_
  refine wK ?_;refine aV (aG y3 lW uS hrow hrowL hk (aS gk ge)) ?_
  repeat refine wS ?_
  refine wT ⟨.inr rfl,_,_,(bI (.tmp 4) (.tmp 5) rfl (aM z7) (aM z7)), ?_,sP⟩;rfl
def vB(S:fX)(t1 t2 t3:bE):AObj:=.row [.slice (S.ms.map Md.enc) t1, .slice (S.vs.map aE) t2, .slice (S.ps.map Rq.enc) t3,aE S.rev, .fn (.func 6) [] [], .fn (.func 24) [] [], .fn (.func 25) [] []]
structure JV(mr:Nat)(S:fX)(t1 t2 t3:bE)(H:aH):Prop where
 row:H[mr]? =some (vB S t1 t2 t3)
 t1:uT t1
 t2:uT t2
 t3:uT t3
theorem yB{n:Nat}{es:List PV}{t:bE}(h:bF n (.slice es .none))(ht:uT t):bF n (.slice es t):=by
 cases h with
 |slice _ _ h1 h2=>exact .slice _ _ h1 (λid e=>by subst e;exact ht.elim)
theorem aGc(H:aH):aR Tryz.prog 7 [] H (λr H'=>r= .optr H.length 0/\H'=H++ [vB ⟨[],[],[],0⟩ .full .full .full]):=by
 refine aF (N:=3) Tryz.func7 rfl rfl zz λhb'=> ?_;refine sU ?_;refine aV sV ?_
 repeat refine wS ?_
 refine wT ⟨.inr rfl,_,rfl, ?_⟩;exact⟨rfl,rfl⟩
theorem SH{mr:Nat}{M:fX}{t1 t2 t3:bE}{H:aH}(hM:JV mr M t1 t2 t3 H)(client id:Int)(hl:M.ps.length<=maxLen):aR Tryz.prog 34 [.optr mr 0,aE client,aE id] H (λr H'=>r=aE (cN (sT client id) M.ps)/\H'=H):=by
 have hrow:=hM.row;simp only[vB,aE]at hrow;have hrowL:=bU hrow;refine eW (N:=31) Tryz.func34 rfl rfl zz (.int _ _) λhb'=> ?_;refine aV (aS hrow hrowL) ?_;refine aV (bL jH qU sV hrow hrowL) ?_
 repeat refine wS ?_
 refine iQ (σ:=Unit) (M.ps.length) (λ(s:Unit)=> [(12, .slice (M.ps.map Rq.enc) t3),(1,aE client),(2,aE id)]) [12,1,2] (H) (λ(s:Unit)=> []) (λ(i:Nat) (s:Unit)=>(M.ps.take i).any (sT client id)=false) (()) ([]) rfl rfl rfl rfl rfl rfl rfl rfl rfl z7 z7 z7 (λ_=>rfl) (hl) ⟨(dJ (aS hrow hrowL)),(dJ (aS hrow hrowL)),(dJ (aS hrow hrowL)),(dJ (aS hrow hrowL)),(dJ (aS hrow hrowL)),trivial⟩ (dJ (aS hrow hrowL)) zz (λ_ _ _=>by first|exact aNs _| (simp only[aNo];omega)) ?_ ?_ ?_
 ·exact λi s hg=>⟨by first|exact dN _| (simp only[aN9];assumption)| (refine kI hb' zz ?_;repeat (first|exact dN _|exact trivial|exact eK _| (refine iJ.cons ?_ ?_)| (refine dT (by first|exact yB (fP _ _) hM.t1|exact yB (bM _ _) hM.t2|exact yB (gK _ _) hM.t3|exact Md.bel _ _|exact Rq.bel _ _|exact Rs.bel _ _|exact Te.bel _ _|exact fP _ _|exact gK _ _|exact jV _ _|exact jQ _ _|exact bM _ _|exact eX _ _ _ _|exact eF _ _ _|exact bF.int _ _|exact bF.bool _|exact bF.str _|exact bF.nilp|exact bF.nilfn|exact bF.optr _ _ zz|exact cM _|exact cP _|exact cV _ _|assumption) ?_))),by repeat (first|exact jJ.nil|refine jJ.cons (by first|exact yB (fP _ _) hM.t1|exact yB (bM _ _) hM.t2|exact yB (gK _ _) hM.t3|exact Md.bel _ _|exact Rq.bel _ _|exact Rs.bel _ _|exact Te.bel _ _|exact fP _ _|exact gK _ _|exact jV _ _|exact jQ _ _|exact bM _ _|exact eX _ _ _ _|exact eF _ _ _|exact bF.int _ _|exact bF.bool _|exact bF.str _|exact bF.nilp|exact bF.nilfn|exact bF.optr _ _ zz|exact cM _|exact cP _|exact cV _ _|assumption) ?_)⟩
 ·intro i s hi hg;have g1:=fS hi;have g2:=dF Rq.enc hi;obtain⟨a,ha⟩:∃a,a=M.ps[i]:=⟨_,rfl⟩;rw[<-ha]at g2;refine aV (aG jH qU hrow hrowL g1 g2 Rq.enc_eq) ?_;refine tJ (aG y3 jH hrow hrowL g1 g2 Rq.enc_eq) ?_;refine gG (bL hrow hrowL g1 g2 Rq.enc_eq) (λbt28=> ?_) (λbt28=> ?_)
  ·
   have h17:sT client id M.ps[i]=true:=by rw[<-ha];exact bt28
   rw[oQ hi h17 hg];refine gQ [1,2,7,12,13,14] (bL hrow hrowL g1 g2 Rq.enc_eq) ?_;refine aV (bL hrow hrowL g1 g2 Rq.enc_eq) ?_
   repeat refine wS ?_
   refine wT ⟨.inr rfl,_,_,rfl, ?_,sP⟩;rfl
  ·
   have h17:sT client id M.ps[i]=false:=by rw[<-ha];exact bt28
   repeat refine wS ?_
   refine wK ?_;exact⟨⟨rfl,rfl,trivial⟩,(),_,⟨rfl,rfl,rfl,trivial⟩,JQ eO,iG hi hg h17⟩
 ·intro s hg;rw[aOj]at hg;refine aV (aS hrow hrowL) ?_
  repeat refine wS ?_
  refine wT ⟨.inr rfl,_,_,rfl, ?_,sP⟩;rw[nR hg];rfl
end Go.Abs
namespace Go.Abs
open Go.Proofs Go.Memo
def edE(S:fX)(name:List UInt8)(ver:Int)(es:List Te):Int:=if cN (aO name) S.ms<0 then 5 else if S.vs.getD (cN (aO name) S.ms).toNat 0≠ver then 11 else sL (mX S.ms name) es
theorem aFc{bA n sr:Nat}{S:fX}{tl1 tl2:bE}{pv:PV}{loc:QK->Nat}{st:Memo.St}{G:eL}{pid:List Nat}{H:aH}(hS:jR bA n sr S tl1 tl2 pv loc st G pid H)(name:List UInt8)(ver:Int)(es:List Te)(hx:es.length<=maxLen)(htx:∀e∈es,e.text.length<=140737488355328)(hl:S.ms.length<=8)(hlv:S.vs.length=S.ms.length)(hn:∀m∈S.ms,m.name.length<=maxLen)(hnm:name.length<=maxLen)(hst:∀j (h:j<S.ms.length),eM S.ms name<=j->¬Lib.compareBytes S.ms[j].name name<0)(hd0:∀q,(st.cell q).d=0)(hnow:st.now+3000<2^62)(hrev:0<=S.rev/\S.rev<2^40):aR Tryz.prog 28 [.optr sr 0, .str name,aE ver, .slice (es.map Te.enc) .none] H (λr H'=>(edE S name ver es≠0/\r=aE (edE S name ver es)/\jR bA n sr S tl1 tl2 pv loc st G pid H'/\dE (bW sr G pid) (bW sr G pid) H H')\/(edE S name ver es=0/\XN bA n sr S tl1 tl2 pv loc st G pid (qY S.ms name (KH (mX S.ms name) es)) (wU S.ms S.vs name) r H'/\dE (bW sr G pid) (bW sr G pid) H H')):=by
 have hrow:=hS.row;simp only[bV,aE]at hrow;have hrowL:=bU hrow;have hml:S.ms.length<=maxLen:=by
  have em:maxLen=9223372036854775807:=z7
  omega
 obtain⟨EE,hEE⟩:∃x,x=edE S name ver es:=⟨_,rfl⟩;rw[<-hEE];unfold edE at hEE;refine aF (N:=48) Tryz.func28 rfl rfl zz λhb'=> ?_;refine aV (aS hrow hrowL) ?_;refine eA 2 (aS hrow hrowL) ?_;refine qT (aS hrow hrowL) MG (xJ hS name hml) ?_;refine bH (aS hrow hrowL) ?_
 repeat refine wS ?_
 refine bJ ?_;refine aV (bR y3 hrow hrowL) ?_;refine gG (aS hrow hrowL) (λbt15=> ?_) (λbt15=> ?_)
 ·
  rw[if_pos (of_decide_eq_true bt15)]at hEE;refine aV (aS hrow hrowL) ?_
  repeat refine wS ?_
  refine wT ⟨.inr rfl,_,rfl, ?_⟩;exact .inl ⟨by rw[hEE];decide,by rw[hEE];rfl,hS,dE.refl _ _⟩
 ·
  have hi0:=of_decide_eq_false bt15;rw[if_neg hi0]at hEE;obtain⟨k,hk⟩:∃k:Nat,cN (aO name) S.ms=(k:Int):=⟨(cN (aO name) S.ms).toNat,z8⟩;have hkl:k<S.ms.length:=by have:=rZ (p:=aO name) (xs:=S.ms) z8;omega
  have gk:((0:Int)<=(k:Int)/\(k:Int)<(S.vs.length:Int))=True:=by simp;omega
  have gkm:((0:Int)<=(k:Int)/\(k:Int)<(S.ms.length:Int))=True:=by simp;omega
  have ge:=dF aE (xs:=S.vs) (i:=k) z8;have gm:=dF Md.enc (xs:=S.ms) (i:=k) z8;have hgd:S.vs.getD k 0=S.vs[k]'z8:=by rw[aNj,aNi z8];rfl
  have hsa:mX S.ms name=(S.ms[k]'hkl).src:=by unfold mX;rw[hk,tN,aNj,aNi hkl];rfl
  rw[hk,tN,hgd,hsa]at hEE;rw[hsa];obtain⟨src,hsrc⟩:∃src,src=(S.ms[k]'hkl).src:=⟨_,rfl⟩;rw[<-hsrc]at hEE⊢;obtain⟨nm,hnm2⟩:∃nm,nm=(S.ms[k]'hkl).name:=⟨_,rfl⟩;rw[show Md.enc (S.ms[k]'hkl)= .agg [.str nm, .str src]from by rw[hnm2,hsrc];rfl]at gm;refine aV (aG y3 lW uS hrow hrowL hk (aS gk ge)) ?_;refine gG (aS hrow hrowL) (λbt18=> ?_) (λbt18=> ?_)
  ·
   rw[if_pos (by simpa using bt18)]at hEE;refine gQ [] (aS hrow hrowL) ?_;refine aV (aS hrow hrowL) ?_
   repeat refine wS ?_
   refine wT ⟨.inr rfl,_,rfl, ?_⟩;exact .inl ⟨by rw[hEE];decide,by rw[hEE];rfl,hS,dE.refl _ _⟩
  ·
   rw[if_neg (by simpa using bt18)]at hEE
   repeat refine wS ?_
   refine wK ?_;refine gQ [0,1,3,9] (aS hrow hrowL) ?_;refine eA 9 (aG y9 lZ jI uS hrow hrowL (bR hk gkm gm)) ?_;refine oW (bL hrow hrowL hk gkm gm) aEo (SE src es hx htx _) ?_;rintro r H1 ⟨rfl,l1,s1⟩;have hS1:=hS.fr (s1 0 (lG hS.go)) λid hi=>s1 id (hS.lt id hi);have f1:dE (bW sr G pid) (bW sr G pid) H H1:=⟨l1,λid q1 _=>s1 id q1,λ_ q _=>q⟩;rw[<-hEE];refine bH (bL hrow hrowL hk gkm gm) ?_;refine gQ [0,1,10,11] (aS hrow hrowL) ?_;refine aV (bR EN hrow hrowL) ?_;refine gG (aS hrow hrowL) (λbt42=> ?_) (λbt42=> ?_)
   ·
    have hne:EE≠0:=by simpa using bt42
    refine aV (aS hrow hrowL) ?_
    repeat refine wS ?_
    refine wT ⟨.inr rfl,_,rfl, ?_⟩;exact .inl ⟨hne,rfl,hS1,f1⟩
   ·
    have he0:EE=0:=by simpa using bt42
    repeat refine wS ?_
    refine wK ?_;refine eA 3 (aS hrow hrowL) ?_;refine oW (aS hrow hrowL) aDl (RG hS1 name (KH src es) hl hlv hn hnm hst hd0 hnow hrev) ?_;rintro r H2 ⟨hR,f2⟩;refine bH (aS hrow hrowL) ?_
    repeat refine wS ?_
    refine wT ⟨.inr rfl,_,rfl, ?_⟩;exact .inr ⟨he0,hR,f1.trans f2⟩
end Go.Abs
namespace Go.Abs
open Go.Proofs Go.Memo
def RpR(S:fX)(st:Memo.St)(ms:List Md)(vs:List Int)(S':fX)(st':Memo.St)(code:Int):Prop:=
 (gV ms≠0/\code=gV ms/\S'=S/\st'=st)\/(gV ms=0/\code=0/\S'=⟨ms,vs,S.ps,S.rev+1⟩/\st'=mU ms st ms.length)
def PH(S:fX)(st:Memo.St)(S':fX)(st':Memo.St):Prop:=S'=S/\st'=st
def HaR(S:fX)(st:Memo.St)(val:Rq->Nat->QV)(Good:Nat->Memo.St->Prop)(e:Ev)(S':fX)(st':Memo.St)(code:Int)(rs:List Rs):Prop:=
 (e.kind=1/\rs= []/\RpR S st (qY S.ms e.name e.text) (wU S.ms S.vs e.name) S' st' code)\/
 (e.kind=2/\rs= []/\((cN (aO e.name) S.ms<0/\code=5/\PH S st S' st')\/∃i,i<S.ms.length/\cN (aO e.name) S.ms=(i:Int)/\RpR S st (S.ms.eraseIdx i) (S.vs.eraseIdx i) S' st' code))\/
 (e.kind=3/\rs= []/\((edE S e.name e.ver e.edits≠0/\code=edE S e.name e.ver e.edits/\PH S st S' st')\/(edE S e.name e.ver e.edits=0/\RpR S st (qY S.ms e.name (KH (mX S.ms e.name) e.edits)) (wU S.ms S.vs e.name) S' st' code)))\/
 (e.kind=4/\rs= []/\code=(rQ S.ps e.req).1/\PH ⟨S.ms,S.vs,(rQ S.ps e.req).2,S.rev⟩ st S' st')\/
 (e.kind=5/\rs=(if(rT S.ps e.req.cl e.req.id).1=0 then [⟨e.req.cl,e.req.id,12,S.rev,[],[]⟩]else [])/\code=(rT S.ps e.req.cl e.req.id).1/\PH ⟨S.ms,S.vs,(rT S.ps e.req.cl e.req.id).2,S.rev⟩ st S' st')\/
 (e.kind=6/\((e.n<0/\code=1/\rs= []/\PH S st S' st')\/(0<=e.n/\code=0/\∃k,k<=S.ps.length/\(e.n<=k\/k=S.ps.length)/\rs=(S.ps.take k).map (qL S val)/\S'=⟨S.ms,S.vs,S.ps.drop k,S.rev⟩/\∃j,j<=S.ps.length+1/\Good j st')))\/
 (e.kind=7/\rs= []/\((e.n<0/\code=1/\PH S st S' st')\/(0<=e.n/\code=0/\S'=S/\∃f,(∀q r,f q=some r->st.res q=some r)/\st'= {st with res:=f})))\/
 ((∀k:Int,1<=k->k<=7->e.kind≠k)/\rs= []/\code=7/\PH S st S' st')
def evOk(e:Ev):Prop:=e.n<=9223372036854775807/\e.name.length<=maxLen/\e.edits.length<=maxLen/\∀x∈e.edits,x.text.length<=140737488355328
theorem aAq{bA n sr:Nat}{S:fX}{tl1 tl2:bE}{pv:PV}{loc:QK->Nat}{st:Memo.St}{G:eL}{pid:List Nat}{H:aH}(hS:jR bA n sr S tl1 tl2 pv loc st G pid H)(e:Ev)(hev:evOk e)(hl:S.ms.length<=8)(hlv:S.vs.length=S.ms.length)(hn:∀m∈S.ms,m.name.length<=maxLen)(hst:∀j (h:j<S.ms.length),eM S.ms e.name<=j->¬Lib.compareBytes S.ms[j].name e.name<0)(hd0:∀q,(st.cell q).d=0)(hnow:st.now+3000<2^62)(hrev:0<=S.rev/\S.rev<2^40)(hpl:S.ps.length<=20)(val:Rq->Nat->QV)(Good:Nat->Memo.St->Prop)(fu:Nat)(hup:∀j s,Good j s->Good (j+1) s)(hg0:Good 0 st)(hstep:∀N,IX S val Good fu st.comps N)(hclk:st.clk<4611686018427387904)(hfin:∃Ks:List QK,Ks.length<=1000000/\∀k r,st.res k=some r->k∈Ks):aR Tryz.prog 9 [.optr sr 0,e.enc] H (λr H'=>∃S' st' code rs t1 t2 pv' loc' G' pid',HaR S st val Good e S' st' code rs/\r= .tup [.slice (rs.map Rs.enc) .none,aE code]/\jR bA n sr S' t1 t2 pv' loc' st' G' pid' H'/\dE (bW sr G pid) (bW sr G' pid') H H'):=by
 have hrow:=hS.row;simp only[bV,aE]at hrow;have hrowL:=bU hrow;have hml:S.ms.length<=maxLen:=by
  have em:maxLen=9223372036854775807:=z7
  omega
 obtain⟨hen,hnm,hex,htx⟩:=hev;have hS1:=hS.app [.row e.enc.cells];have f0:dE (bW sr G pid) (bW sr G pid) H (H++ [.row e.enc.cells]):=dE.app _ _ _ hS.lt;rw[Ev.enc_cells]at hS1 f0;refine aF (N:=70) Tryz.func9 rfl rfl zz λhb'=> ?_;refine aV (bL qQ qK qR hrow hrowL) ?_;refine aV (cF y3 qQ qK qR hrow hrowL) ?_
 repeat refine wS ?_
 refine bJ ?_;refine aV (bL y3 qK qR hrow hrowL) ?_;refine gG (bD qK qR hrow hrowL) (λbt8=> ?_) (λbt8=> ?_)
 ·
  have hk:=of_decide_eq_true bt8;refine eA 5 (cF y9 qQ qK qR hrow hrowL) ?_;refine oW (bD qK qR hrow hrowL) aDl (RG hS1 e.name e.text hl hlv hn hnm hst hd0 hnow hrev) ?_;rintro r HZ ⟨hR,fR⟩;refine bH (bD qK qR hrow hrowL) ?_
  repeat refine wS ?_
  refine wT ⟨.inr rfl,_,(bI (.tmp 4) (.tmp 5) rfl (aM z7) (aM z7)), ?_⟩;rcases hR with⟨q1,q2,q3⟩| ⟨q1,q2,q3⟩
  ·exact⟨S,st,_,[],tl1,tl2,pv,loc,G,pid, .inl ⟨hk,rfl, .inl ⟨q1,rfl,rfl,rfl⟩⟩,by rw[q2];rfl,q3,f0.trans fR⟩
  ·exact⟨_,_,_,[],_,_,_,_,_,_, .inl ⟨hk,rfl, .inr ⟨q1,rfl,rfl,rfl⟩⟩,by rw[q2];rfl,q3,f0.trans fR⟩
 ·
  have n1:=of_decide_eq_false bt8;refine aV (bL y3 qK qR hrow hrowL) ?_;refine gG (bD qK qR hrow hrowL) (λbt16=> ?_) (λbt16=> ?_)
  ·
   have hk:=of_decide_eq_true bt16;refine eA 3 (cF y9 qQ qK qR hrow hrowL) ?_;refine oW (bD qK qR hrow hrowL) aH6 (aAf hS1 e.name hl hlv hn hd0 hnow hrev) ?_;rintro r HZ hR0;refine bH (bD qK qR hrow hrowL) ?_
   repeat refine wS ?_
   refine wT ⟨.inr rfl,_,(bI (.tmp 4) (.tmp 5) rfl (aM z7) (aM z7)), ?_⟩;rcases hR0 with⟨q0,rfl,q2⟩| ⟨i,hi,hii,hR,fR⟩
   ·rw[q2];exact⟨S,st,5,[],tl1,tl2,pv,loc,G,pid, .inr (.inl ⟨hk,rfl, .inl ⟨q0,rfl,rfl,rfl⟩⟩),rfl,hS1,f0⟩
   rcases hR with⟨q1,q2,q3⟩| ⟨q1,q2,q3⟩
   ·exact⟨S,st,_,[],tl1,tl2,pv,loc,G,pid, .inr (.inl ⟨hk,rfl, .inr ⟨i,hi,hii, .inl ⟨q1,rfl,rfl,rfl⟩⟩⟩),by rw[q2];rfl,q3,f0.trans fR⟩
   ·exact⟨_,_,_,[],_,_,_,_,_,_, .inr (.inl ⟨hk,rfl, .inr ⟨i,hi,hii, .inr ⟨q1,rfl,rfl,rfl⟩⟩⟩),by rw[q2];rfl,q3,f0.trans fR⟩
  ·
   have n2:=of_decide_eq_false bt16;refine aV (bL y3 qK qR hrow hrowL) ?_;refine gG (bD qK qR hrow hrowL) (λbt22=> ?_) (λbt22=> ?_)
   ·
    have hk:=of_decide_eq_true bt22;refine eA 7 (aG y3 y9 NO qQ pQ qK (bR qR hrow hrowL)) ?_;refine oW (bD qK qR hrow hrowL) aIo (aFc hS1 e.name e.ver e.edits hex htx hl hlv hn hnm hst hd0 hnow hrev) ?_;rintro r HZ hR0;refine bH (bD qK qR hrow hrowL) ?_
    repeat refine wS ?_
    refine wT ⟨.inr rfl,_,(bI (.tmp 4) (.tmp 5) rfl (aM z7) (aM z7)), ?_⟩;rcases hR0 with⟨q0,rfl,q2,q3⟩| ⟨q0,hR,fR⟩
    ·exact⟨S,st,_,[],tl1,tl2,pv,loc,G,pid, .inr (.inr (.inl ⟨hk,rfl, .inl ⟨q0,rfl,rfl,rfl⟩⟩)),rfl,q2,f0.trans q3⟩
    rcases hR with⟨q1,q2,q3⟩| ⟨q1,q2,q3⟩
    ·exact⟨S,st,_,[],tl1,tl2,pv,loc,G,pid, .inr (.inr (.inl ⟨hk,rfl, .inr ⟨q0, .inl ⟨q1,rfl,rfl,rfl⟩⟩⟩)),by rw[q2];rfl,q3,f0.trans fR⟩
    ·exact⟨_,_,_,[],_,_,_,_,_,_, .inr (.inr (.inl ⟨hk,rfl, .inr ⟨q0, .inr ⟨q1,rfl,rfl,rfl⟩⟩⟩)),by rw[q2];rfl,q3,f0.trans fR⟩
   ·
    have n3:=of_decide_eq_false bt22;refine aV (bL y3 qK qR hrow hrowL) ?_;refine gG (bD qK qR hrow hrowL) (λbt32=> ?_) (λbt32=> ?_)
    ·
     have hk:=of_decide_eq_true bt32;refine eA 3 (cF jH qQ qK qR hrow hrowL) ?_;refine oW (bD qK qR hrow hrowL) aIf (TF hS1 e.req hpl) ?_;rintro r HZ ⟨pv',pid',rfl,q2,q3⟩;refine bH (bD qK qR hrow hrowL) ?_
     repeat refine wS ?_
     refine wT ⟨.inr rfl,_,(bI (.tmp 4) (.tmp 5) rfl (aM z7) (aM z7)), ?_⟩;exact⟨_,st,_,[],tl1,tl2,pv',loc,G,pid', .inr (.inr (.inr (.inl ⟨hk,rfl,rfl,rfl,rfl⟩))),rfl,q2,f0.trans q3⟩
    ·
     have n4:=of_decide_eq_false bt32;refine aV (bL y3 qK qR hrow hrowL) ?_;refine gG (bD qK qR hrow hrowL) (λbt38=> ?_) (λbt38=> ?_)
     ·
      have hk:=of_decide_eq_true bt38;refine gQ [0,3] (bD qK qR hrow hrowL) ?_;refine eA 7 (aG y3 jH qQ qK qR hrow hrowL) ?_;refine oW (bD qK qR hrow hrowL) aHm (YE hS1 e.req.cl e.req.id hpl) ?_;rintro r HZ ⟨pv',pid',rs,rfl,q1,q2,q3⟩;refine bH (bD qK qR hrow hrowL) ?_
      repeat refine wS ?_
      refine wT ⟨.inr rfl,_,(bI (.tmp 4) (.tmp 5) rfl (aM z7) (aM z7)), ?_⟩;exact⟨_,st,_,rs,tl1,tl2,pv',loc,G,pid', .inr (.inr (.inr (.inr (.inl ⟨hk,q1,rfl,rfl,rfl⟩)))),rfl,q2,f0.trans q3⟩
     ·
      have n5:=of_decide_eq_false bt38;refine gQ [0,3,7] (bD qK qR hrow hrowL) ?_;refine aV (bL y3 qK qR hrow hrowL) ?_;refine gG (bD qK qR hrow hrowL) (λbt50=> ?_) (λbt50=> ?_)
      ·
       have hk:=of_decide_eq_true bt50;refine eA 3 (cF y3 qQ qK qR hrow hrowL) ?_;refine oW (bD qK qR hrow hrowL) aJd (aHw hS1 e.n fu hml hpl Good hup hg0 val (hstep e.n)) ?_;rintro r HZ hR0;obtain⟨S',st',code,rs,t1,t2,pv',loc',G',pid',hHR,rfl,hSv,fR⟩:∃S' st' code rs t1 t2 pv' loc' G' pid',HaR S st val Good e S' st' code rs/\r= .tup [.slice (rs.map Rs.enc) .none,aE code]/\jR bA n sr S' t1 t2 pv' loc' st' G' pid' HZ/\dE (bW sr G pid) (bW sr G' pid') H HZ:=by
        rcases hR0 with⟨hn,rfl,q2,q3⟩| ⟨hn,k,st2,loc',G',pv',pid',k1,k2,hG,rfl,q2,q3⟩
        ·exact⟨S,st,1,[],tl1,tl2,pv,loc,G,pid, .inr (.inr (.inr (.inr (.inr (.inl ⟨hk, .inl ⟨hn,rfl,rfl,rfl,rfl⟩⟩))))),rfl,q2,f0.trans q3⟩
        ·exact⟨_,st2,0,_,tl1,tl2,pv',loc',G',pid', .inr (.inr (.inr (.inr (.inr (.inl ⟨hk, .inr ⟨hn,rfl,k,k1,k2,rfl,rfl,hG⟩⟩))))),rfl,q2,f0.trans q3⟩
       refine bH (bD qK qR hrow hrowL) ?_
       repeat refine wS ?_
       refine wT ⟨.inr rfl,_,(bI (.tmp 4) (.tmp 5) rfl (aM z7) (aM z7)), ?_⟩;exact⟨S',st',code,rs,t1,t2,pv',loc',G',pid',hHR,rfl,hSv,fR⟩
      ·
       have n6:=of_decide_eq_false bt50;refine aV (bL y3 qK qR hrow hrowL) ?_;refine gG (bD qK qR hrow hrowL) (λbt58=> ?_) (λbt58=> ?_)
       ·
        have hk:=of_decide_eq_true bt58;refine aV (cF y3 qQ qK qR hrow hrowL) ?_;refine gG (bD qK qR hrow hrowL) (λbt62=> ?_) (λbt62=> ?_)
        ·
         have hn0:=of_decide_eq_true bt62;refine aV (bD qK qR hrow hrowL) ?_
         repeat refine wS ?_
         refine wT ⟨.inr rfl,_,(bI (.tmp 4) (.tmp 5) rfl (aM z7) (aM z7)), ?_⟩;exact⟨S,st,1,[],tl1,tl2,pv,loc,G,pid, .inr (.inr (.inr (.inr (.inr (.inr (.inl ⟨hk,rfl, .inl ⟨hn0,rfl,rfl,rfl⟩⟩)))))),rfl,hS1,f0⟩
        ·
         have hn0:0<=e.n:=by have:=of_decide_eq_false bt62;omega
         obtain⟨cap,hcap⟩:∃cap:Nat,e.n=(cap:Int):=⟨e.n.toNat,z8⟩;rw[hcap]at hS1 f0
         repeat refine wS ?_
         refine wK ?_
         repeat refine wS ?_
         refine dV 0 (by kernel_rfl) ?_;simp only[aOd,aN9];refine eZ 6 (bm:= [0,1,3,7,0,16,63]) (by kernel_rfl) z7 (by kernel_rfl) (by kernel_rfl) ?_;refine iI (aG y3 qQ qV uS qK qR (bR hrow hrowL hcap)) ?_;refine gJ (k:=6) (bm:= [0,1,3,7,0,16,63]) (by kernel_rfl) rfl (by kernel_rfl) (by kernel_rfl) ?_;refine oC (DT (aS qK qR)) rfl z7 aJp ((id (aF6 (yP bA n) cap z8 loc [] st false G _ hclk hfin hS1.w):aR _ _ [.optr (n+4) 0, .int .i64 (cap:Int)] _ _)) ?_;rintro r HZ ⟨f,m,rfl,hff,w',fR⟩;obtain⟨hSv,fR⟩:=hS1.call w' fR;refine oN ?_;show iP _ _ _ _ _ _ _ _;refine eV ?_;refine aV (bD qK qR hrow hrowL) ?_
         repeat refine wS ?_
         refine wT ⟨.inr rfl,_,(bI (.tmp 4) (.tmp 5) rfl (aM z7) (aM z7)), ?_⟩;exact⟨S,_,0,[],tl1,tl2,pv,loc,G,pid, .inr (.inr (.inr (.inr (.inr (.inr (.inl ⟨hk,rfl, .inr ⟨hn0,rfl,rfl,f,hff,rfl⟩⟩)))))),rfl,hSv,f0.trans fR⟩
       ·
        have n7:=of_decide_eq_false bt58
        repeat refine wS ?_
        refine wK ?_;refine aV (bD qK qR hrow hrowL) ?_
        repeat refine wS ?_
        refine wT ⟨.inr rfl,_,(bI (.tmp 4) (.tmp 5) rfl (aM z7) (aM z7)), ?_⟩;exact⟨S,st,7,[],tl1,tl2,pv,loc,G,pid, .inr (.inr (.inr (.inr (.inr (.inr (.inr (⟨λk h1 h2 h=>z8,rfl,rfl,rfl,rfl⟩))))))),rfl,hS1,f0⟩
end Go.Abs
namespace Go.Abs
open Go.Proofs Go.Memo
def oJ(M:fX)(rq:Rq):Rs:=if 0<=cN (aO rq.name) M.ms then⟨rq.cl,rq.id,(eI M.ms rq).err,M.rev,(eI M.ms rq).nums,(eI M.ms rq).text⟩else⟨rq.cl,rq.id,5,M.rev,[],[]⟩
theorem JV.fr{mr:Nat}{M:fX}{t1 t2 t3:bE}{H H':aH}(h:JV mr M t1 t2 t3 H)(e:H'[mr]? =H[mr]?):JV mr M t1 t2 t3 H':=⟨e.trans h.row,h.t1,h.t2,h.t3⟩
theorem aFn{mr:Nat}{M:fX}{t1 t2 t3:bE}{H:aH}(hM:JV mr M t1 t2 t3 H)(k:Nat)(hk:k<=M.ps.length)(hp:M.ps.length<=1000)(hm:M.ms.length<=1000):aR Tryz.prog 11 [.optr mr 0,aE (k:Int)] H (λr H'=>r= .slice (((M.ps.take k).map (oJ M)).map Rs.enc) .none/\(∃t3',JV mr ⟨M.ms,M.vs,M.ps.drop k,M.rev⟩ t1 t2 t3' H')/\H.length<=H'.length/\∀j,j<H.length->j≠mr->H'[j]? =H[j]?):=by
 have hrow:=hM.row;simp only[vB,aE]at hrow;have hrowL:=bU hrow;have hml:=lG hrow;have em:maxLen=9223372036854775807:=z7
 have gk1:((0:Int)<=(k:Int)/\(k:Int)<=(M.ps.length:Int))=True:=by simp;omega
 have gkt:(M.ps.map Rq.enc).take k=(M.ps.take k).map Rq.enc:=List.map_take.symm;have gkn:(M.ps.take k).length=k:=by simp;omega
 have gal:(∀e∈M.ps.map Rq.enc,e.cells.length=5)=True:=eq_true λe he=>by obtain⟨v,_,rfl⟩:=aNy.1 he;exact Rq.enc_len v
 obtain⟨tr,gtr,htr⟩:∃tr,(if t3=bE.full then bE.full else bE.none)=tr/\uT tr:=⟨_,rfl,by split<;>trivial⟩;have gdr:((M.ps.map Rq.enc).take M.ps.length).drop k=(M.ps.drop k).map Rq.enc:=by rw[List.take_of_length_le zz,List.map_drop]
 obtain⟨tk,gtl,htk⟩:∃tk,(if k=M.ps.length/\t3=bE.full then bE.full else bE.none)=tk/\uT tk:=⟨_,rfl,by split<;>trivial⟩;refine aF (N:=65) Tryz.func11 rfl rfl zz λhb'=> ?_;refine aV (bR qW hrow hrowL) ?_;refine aV (bR qW hrow hrowL) ?_;refine aV (aG jH qU sV qW hrow hrowL (aG gk1 gkt gkn gal @JX JT (bD false_and @JS @zqT gtl))) ?_
 repeat refine wS ?_
 refine bJ ?_;refine fF (σ:=Nat×PV×List Nat) (λ(z:Nat×PV×List Nat)=> [(0, .optr mr 0),(1,aE (k:Int)),(14, .slice ((M.ps.take k).map Rq.enc) tk),(15,aE (k:Int)),(16,aE (z.1:Int)),(5,z.2.1)]) (λ(z:Nat×PV×List Nat)=>λH1=>z.1<=k/\fV Rs.enc 6 H1 z.2.1 ((M.ps.take z.1).map (oJ M)) z.2.2/\(∀i∈z.2.2,H.length<=i)/\H.length<=H1.length/\∀j,j<H.length->H1[j]? =H[j]?) (λ(z:Nat×PV×List Nat)=>k-z.1) ((0, .slice [] .full,[])) ⟨(dJ (bR qW hrow hrowL)),(dJ (bR qW hrow hrowL)),(dJ (bR qW hrow hrowL)),(dJ (bR qW hrow hrowL)),(dJ (bR qW hrow hrowL)),(dJ (bR qW hrow hrowL)),trivial⟩ (⟨aNs _, .nil,(λi hi=>by cases hi),aMq _,λ_ _=>rfl⟩) ?_;intro z H1 hg;obtain⟨i,cv,cid⟩:=z;obtain⟨HA,rfl⟩:∃HA,HA=H1:=⟨_,rfl⟩;obtain⟨hik,hcv,hci,hlA,hsA⟩:=hg;simp only at hik hcv hci hlA hsA;have hrA:=(hsA mr hml).trans hrow;have hrAL:=bU hrA;have c3:(HA.length+1==mr)=false:=by simp;omega
 have c4:(mr==HA.length+1)=false:=by simp;omega
 refine aV (cF y3 qW hrow hrowL hrA hrAL) ?_;refine gG (bL qW hrow hrowL hrA hrAL) (λbt17=> ?_) (λbt17=> ?_)
 ·
  have hlt:i<k:=by have:=of_decide_eq_true bt17;omega
  have g1:((0:Int)<=(i:Int)/\(i:Int)<((M.ps.take k).length:Int))=True:=by rw[gkn];simp;omega
  have g2:=dF Rq.enc (xs:=M.ps.take k) (i:=i) z8;rw[List.getElem_take]at g2;obtain⟨rq,hrq⟩:∃r,r=M.ps[i]'z8:=⟨_,rfl⟩;rw[<-hrq,Rq.enc_eq]at g2;have gw:IntKind.i64.wrap ((i:Int)+1)=((i+1:Nat):Int):=by rw[cL z8 z8];omega
  repeat refine wS ?_
  refine wK ?_
  repeat refine wS ?_
  refine bJ ?_;refine aV (aG jH qU qW hrow hrowL hrA (bR hrAL g1 g2)) ?_;refine aV (cF qO qW hrow hrowL hrA hrAL) ?_
  repeat refine wS ?_
  refine eJ (by kernel_rfl) ?_;refine lY 6 (aG y9 jH lZ sV jI qW (bD hrow hrowL hrA hrAL)) ?_;refine CE (bL qW hrow hrowL hrA hrAL) KJ (λhc=>wQ M.ms rq.name z8 _) ?_;refine iI (cF y3 qW hrow hrowL hrA hrAL) ?_;refine gG (bL qW hrow hrowL hrA hrAL) (λb1=> ?_) (λb1=> ?_)
  ·
   repeat refine wS ?_
   obtain⟨a,ha⟩:∃a,a=eI M.ms rq:=⟨_,rfl⟩;have hsk:=NK M.ms rq z8;rw[Rq.enc_eq,<-ha,Rs.enc_eq]at hsk;refine iU 0 rfl (by kernel_rfl) ?_;refine eP 9 rfl (DQ (aG y26 jH lZ sV jI qW (bD hrow hrowL hrA hrAL))) z7 z7 z7 ?_;refine wN rfl (zN (bL qW hrow hrowL hrA hrAL)) (zN (bL qW hrow hrowL hrA hrAL)) (TP (bL qW hrow hrowL hrA hrAL)) z7 aFu (λhc L=>hsk _) ?_;refine mR (by first| (simp only[LS,HS,aOe,aMl,aN7,hrow,hrowL,hrA,hrAL]<;>with_reducible rfl)|rfl) ?_;refine iO (bm:= [0,1,3,7,0,16,48,112,0,511,1023]) (fresh:=0) (by kernel_rfl) (JW (cF qO qW hrow hrowL hrA hrAL)) z7 (by repeat (first|exact fT.base _|with_reducible apply fT.keep|apply fT.drop)) ?_;refine gQ [0,1,5,7,8,14,15,16] (bL qW hrow hrowL hrA hrAL) ?_
   repeat refine wS ?_
   refine kP 0 (by kernel_rfl) ?_;refine yQ (bm:= [0,1,0,4,0,16,48,112,3,259,783,1807,4095,8191]) 10 (fresh:=0) (by kernel_rfl) (EY (aG y3 jH sV qO qW hrow (bL hrowL hrA hrAL c3 c4))) z7 z7 ?_;refine pR (bm:= [0,1,0,4,0,16,48,112,3,259,783,1807,4095,8191]) (fresh:=0) (by kernel_rfl) (EY (aG y3 qO qW hrow hrowL hrA (bR hrAL c3 c4))) z7 ?_;refine eA 3 (aG y35 qO qW hrow hrowL hrA hrAL) ?_;refine dX (enc:=Rs.enc) (sz:=6) Rs.enc_len HJ z7 (cv:=cv) (xs:=(M.ps.take i).map (oJ M)) (cid:=cid) (bP qW) rfl z7 z7 (bK qW) (bK qW) (hcv.fr λj hj=>aM0 (hcv.lt j hj)) wJ rfl (by show(_+1)*72<=_;simp;omega) (by simp;omega) (by rw[wJ];rfl) KU rfl ?_;intro cv2 cid2 HB hk2 hi2 hl2 hs2;simp only[aNo,aM7,aOa,aNn]at hi2 hl2 hs2;refine bH (bL qW hrow hrowL hrA hrAL) ?_;refine gQ [0,1,5,14,15,16] (bL qW hrow hrowL hrA hrAL) ?_;refine aV (aG y3 qW hrow hrowL hrA hrAL gw) ?_
   try simp only[bQ,cB]
   have hre:oJ M rq=⟨rq.cl,rq.id,a.err,M.rev,a.nums,a.text⟩:=by unfold oJ;rw[if_pos (of_decide_eq_true b1),<-ha]
   exact⟨(i+1,cv2,cid2),by show _<_;omega,(by repeat (first|exact trivial|refine⟨rfl, ?_⟩)),hlt,by rw[List.take_succ_eq_append_getElem z8,aN3,<-hrq,List.map_singleton,hre];exact hk2,λj hj=>(hi2 j hj).elim (λh=>hci j h) (λh=>z8),by show H.length<=HB.length;omega,λj hj=>((hs2 j z8 (λh=>by have:=hci j h;omega)).trans (aM0 z8)).trans (hsA j hj)⟩
  ·
   repeat refine wS ?_
   refine wK ?_
   repeat refine wS ?_
   refine kP 0 (by kernel_rfl) ?_;refine yQ (bm:= [0,1,0,4,0,16,48,112,3,259,783,1807,4095,8191]) 10 (fresh:=0) (by kernel_rfl) (EY (aG y3 jH sV qO qW hrow (bL hrowL hrA hrAL c3 c4))) z7 z7 ?_;refine pR (bm:= [0,1,0,4,0,16,48,112,3,259,783,1807,4095,8191]) (fresh:=0) (by kernel_rfl) (EY (aG y3 qO qW hrow hrowL hrA (bR hrAL c3 c4))) z7 ?_;refine gQ [0,1,5,8,14,15,16] (bL qW hrow hrowL hrA hrAL) ?_;refine eA 3 (aG y35 qO qW hrow hrowL hrA hrAL) ?_;refine dX (enc:=Rs.enc) (sz:=6) Rs.enc_len HJ z7 (cv:=cv) (xs:=(M.ps.take i).map (oJ M)) (cid:=cid) (bP qW) rfl z7 z7 (bK qW) (bK qW) (hcv.fr λj hj=>aM0 (hcv.lt j hj)) wJ rfl (by show(_+1)*72<=_;simp;omega) (by simp;omega) (by rw[wJ];rfl) KU rfl ?_;intro cv2 cid2 HB hk2 hi2 hl2 hs2;simp only[aNo,aM7,aOa,aNn]at hi2 hl2 hs2;refine bH (bL qW hrow hrowL hrA hrAL) ?_;refine aV (aG y3 qW hrow hrowL hrA hrAL gw) ?_
   try simp only[bQ,cB]
   have hre:oJ M rq=⟨rq.cl,rq.id,5,M.rev,[],[]⟩:=by unfold oJ;rw[if_neg (of_decide_eq_false b1)]
   exact⟨(i+1,cv2,cid2),by show _<_;omega,(by repeat (first|exact trivial|refine⟨rfl, ?_⟩)),hlt,by rw[List.take_succ_eq_append_getElem z8,aN3,<-hrq,List.map_singleton,hre];exact hk2,λj hj=>(hi2 j hj).elim (λh=>hci j h) (λh=>z8),by show H.length<=HB.length;omega,λj hj=>((hs2 j z8 (λh=>by have:=hci j h;omega)).trans (aM0 z8)).trans (hsA j hj)⟩
 ·
  have hge:=of_decide_eq_false bt17;obtain rfl:i=k:=z8
  repeat refine wS ?_
  refine dO ?_;simp only[bQ,cB,reduceIte,Nat.reduceEqDiff,aOf,if_true,if_false]
  repeat refine wS ?_
  refine iN (xs:=(M.ps.take i).map (oJ M)) Rs.enc_len z7 5 hcv rfl λHQ hlQ hsQ=> ?_;have hrQ:=(hsQ mr (λh=>by have:=hci mr h;omega)).trans hrA;have nq:(mr=HQ.length)=False:=by simp;omega
  refine eE (fI (aG jH qU sV qW hrow hrowL (aG hrA hrAL nq hrQ gk1 gal (aG @JX @zrK JT false_and and_false @JS (bR @zqT gtr gdr))))) z7 ?_;refine aV (bL qW hrow hrowL hrA hrAL) ?_
  repeat refine wS ?_
  refine wT ⟨.inr rfl,_,rfl, ?_⟩;exact⟨rfl,⟨tr,aM4 z8,hM.t1,hM.t2,htr⟩,by simp;omega,λj hj hn=>(aM5 (Ne.symm hn)).trans ((hsQ j (λh=>by have:=hci j h;omega)).trans (hsA j hj))⟩
end Go.Abs
namespace Go.Abs
open Go.Proofs Go.Memo
theorem VJ{H:aH}{us:List Md}{ic c:Nat}{rest:List PV}(name:List UInt8)(hH:H[ic]? =some (.row (aL (us.map Md.enc)++rest)))(hl:us.length<=1000000):aR Tryz.prog 18 [.msl ic 0 us.length c, .str name] H λr' H'=>r'=aE (cN (aO name) us)/\H.length<=H'.length/\∀j,j<H.length->H'[j]? =H[j]? :=by
 have hil:=lG hH;obtain⟨RW,hRW⟩:∃R,R=aL (us.map Md.enc)++rest:=⟨_,rfl⟩;refine aF (N:=20) Tryz.func18 rfl rfl zz λhb'=> ?_;refine aV qM ?_;refine aV (bR lZ jI qM) ?_
 repeat refine wS ?_
 refine bJ ?_;refine fF (σ:=Nat) (λ(z:Nat)=> [(7, .msl ic 0 us.length c),(1, .str name),(8,aE (us.length:Int)),(9,aE (z:Int))]) (λ(z:Nat)=>λH1=>z<=us.length/\(us.take z).any (aO name)=false/\H.length<=H1.length/\∀j,j<H.length->H1[j]? =H[j]?) (λ(z:Nat)=>us.length-z) (0) ⟨(dJ qM),(dJ qM),(dJ qM),(dJ qM),trivial⟩ (⟨aNs _,rfl,aMq _,λ_ _=>rfl⟩) ?_;intro z H1 hg;obtain⟨hz,hany,hl2,hs2⟩:=hg;obtain⟨HA,rfl⟩:∃HA,HA=H1:=⟨_,rfl⟩;have hHA:=(hs2 ic hil).trans hH;rw[<-hRW]at hHA;have gl:decide ((z:Int)<(us.length:Int))=decide (z<us.length):=by rw[decide_eq_decide];omega
 refine aV (bR y3 qM gl) ?_;refine gG (aS qM gl) (λbt10=> ?_) (λbt10=> ?_)
 ·
  have hlt:z<us.length:=of_decide_eq_true bt10;have gix:((0:Int)<=(z:Int)/\(z:Int)<(us.length:Int))=True:=by simp;omega
  obtain⟨ge,gf⟩:=xV (enc:=Md.enc) (sz:=2) Md.enc_len (pre:= []) (rest:=rest) hlt;simp only[aN7,aOa,aNn]at ge gf;rw[<-hRW]at ge gf;have gf2:(z*2+2<=RW.length)=True:=eq_true gf;have gw:IntKind.i64.wrap ((z:Int)+1)=((z+1:Nat):Int):=by rw[cL z8 z8];omega
  obtain⟨md,hmd⟩:∃m,m=us[z]:=⟨_,rfl⟩;rw[<-hmd]at ge;have gagg:PV.agg (md.enc.cells.map PV.drop1)=md.enc:=rfl
  repeat refine wS ?_
  refine wK ?_
  repeat refine wS ?_
  refine bJ ?_;refine aV (aG lZ jI qM gl hHA gix (bD gf2 ge gagg zqA)) ?_;refine aV (bD y9 jI qM gl) ?_;refine gG (aS qM gl) (λb1=> ?_) (λb1=> ?_)
  ·
   refine aV (aS qM gl) ?_
   repeat refine wS ?_
   refine wT ⟨.inr rfl,_,rfl, ?_⟩;have h17:aO name us[z]=true:=by rw[<-hmd];exact b1
   exact⟨by rw[oQ hlt h17 hany];rfl,by simp;omega,λj hj=>(aM0 z8).trans (hs2 j hj)⟩
  ·
   repeat refine wS ?_
   refine wK ?_;refine aV (bD y3 qM gl gw) ?_
   try simp only[bQ,cB]
   have h17:aO name us[z]=false:=by rw[<-hmd];exact b1
   exact⟨z+1,by show _<_;omega,(by repeat (first|exact trivial|refine⟨rfl, ?_⟩)),z8,iG hlt hany h17,by simp;omega,λj hj=>(aM0 z8).trans (hs2 j hj)⟩
 ·
  have hge:=of_decide_eq_false bt10;obtain rfl:z=us.length:=z8
  rw[aOj]at hany
  repeat refine wS ?_
  refine dO ?_;simp only[bQ,cB,reduceIte,Nat.reduceEqDiff,aOf,if_true,if_false];refine aV (aS qM gl) ?_
  repeat refine wS ?_
  refine wT ⟨.inr rfl,_,rfl, ?_⟩;exact⟨by rw[nR hany];rfl,hl2,hs2⟩
end Go.Abs
namespace Go.Abs
open Go.Proofs Go.Memo
abbrev MQ:=List Md×List Int×Int×Bool
def OQ(q:MQ)(m:Md)(v:Int):MQ:=(q.1++ [m],q.2.1++ [v],q.2.2.1,q.2.2.2)
def VE(name:List UInt8)(q:MQ):MQ:=(q.1++ [⟨name,[]⟩],q.2.1++ [0],q.2.2.1,true)
def mwG(name:List UInt8)(q:MQ)(m:Md):Bool:=KS m.name name&& !q.2.2.2
def UE(name:List UInt8)(q:MQ)(m:Md)(v:Int):MQ:=
 if decide (m.name=name)=true then(q.1,q.2.1,IntKind.i64.wrap (v+1),q.2.2.2)else OQ (if mwG name q m=true then VE name q else q) m v
def zW(name:List UInt8):List Md->List Int->MQ->MQ
 |m::ms,v::vs,q=>zW name ms vs (UE name q m v)
 |_,_,q=>q
def mwQ(M:fX)(name:List UInt8):MQ:=zW name M.ms M.vs ([],[],1,false)
def BB(M:fX)(name:List UInt8):MQ:=if(mwQ M name).2.2.2=true then mwQ M name else VE name (mwQ M name)
def PR(M:fX)(name text:List UInt8):List Md:=(BB M name).1.set (cN (aO name) (BB M name).1).toNat ⟨name,text⟩
def aAs(M:fX)(name:List UInt8):List Int:=(BB M name).2.1.set (cN (aO name) (BB M name).1).toNat (BB M name).2.2.1
def XB(M:fX)(name text:List UInt8):Int×fX:=if gV (PR M name text)≠0 then(gV (PR M name text),M)else(0,⟨PR M name text,aAs M name,M.ps,IntKind.i64.wrap (M.rev+1)⟩)
structure AF(name:List UInt8)(n:Nat)(q:MQ):Prop where
 lv:q.2.1.length=q.1.length
 pl:q.2.2.2=true->q.1.any (aO name)=true
 len:q.1.length<=n+1
 nm:∀m∈q.1,m.name.length<=maxLen
 pl0:q.2.2.2=false->q.1.length<=n
theorem ON{name:List UInt8}{n:Nat}{q:MQ}(h:AF name n q)(hp:q.2.2.2=false)(hn:name.length<=maxLen):AF name n (VE name q):=
 ⟨by simp[VE,h.lv],λ_=>by simp[VE,aO],by have:=h.pl0 hp;simp[VE];omega,λm hm=>by
  rcases aN0.1 hm with hm|hm
  ·exact h.nm m hm
  ·rw[aN8]at hm;rw[hm];exact hn,λe=>by cases e⟩
theorem aFx{name:List UInt8}{n:Nat}{q:MQ}{m:Md}(v:Int)(h:AF name n q)(hn:m.name.length<=maxLen):AF name (n+1) (OQ q m v):=
 ⟨by simp[OQ,h.lv],λe=>by simp only[OQ,List.any_append];rw[h.pl e];rfl,by have:=h.len;simp[OQ];omega,λx hx=>by
  rcases aN0.1 hx with hx|hx
  ·exact h.nm x hx
  ·rw[aN8]at hx;rw[hx];exact hn,λe=>by have:=h.pl0 e;simp[OQ];omega⟩
theorem AF.up{name:List UInt8}{n k:Nat}{q:MQ}(h:AF name n q)(hk:n<=k):AF name k q:=⟨h.lv,h.pl,by have:=h.len;omega,h.nm,λe=>by have:=h.pl0 e;omega⟩
theorem aF3{name:List UInt8}{n:Nat}{q:MQ}{m:Md}(v:Int)(h:AF name n q)(hn:m.name.length<=maxLen)(hnm:name.length<=maxLen):AF name (n+1) (UE name q m v):=by
 unfold UE
 split
 ·exact⟨h.lv,h.pl,by have:=h.len;show q.1.length<=_;omega,h.nm,λe=>by have:=h.pl0 e;show q.1.length<=_;omega⟩
 ·refine aFx v ?_ hn
  split
  ·rename_i hg;refine ON h ?_ hnm;unfold mwG at hg;simp only[aMj,aMk]at hg;exact hg.2
  ·exact h
theorem aGd{M:fX}{name:List UInt8}{n:Nat}(h:AF name n (mwQ M name))(hn:name.length<=maxLen):(BB M name).2.1.length=(BB M name).1.length/\(BB M name).1.any (aO name)=true/\(BB M name).1.length<=n+1/\∀m∈(BB M name).1,m.name.length<=maxLen:=by
 unfold BB
 split
 ·rename_i hp;exact⟨h.lv,h.pl hp,h.len,h.nm⟩
 ·rename_i hp;have:=ON h (by simpa using hp) hn;exact⟨this.lv,this.pl rfl,this.len,this.nm⟩
theorem LJ{mr:Nat}{M:fX}{t1 t2 t3:bE}{H:aH}(hM:JV mr M t1 t2 t3 H)(hG:ML G0 H)(hmr:mr≠0)(name text:List UInt8)(hl:M.ms.length<=1000)(hlv:M.vs.length=M.ms.length)(hn:∀m∈M.ms,m.name.length<=maxLen)(hnm:name.length<=maxLen):aR Tryz.prog 68 [.optr mr 0, .str name, .str text] H (λr H'=>r=aE (XB M name text).1/\(∃u1 u2,JV mr (XB M name text).2 u1 u2 t3 H')/\H.length<=H'.length/\∀j,j<H.length->j≠mr->H'[j]? =H[j]?):=by
 have hrow:=hM.row;simp only[vB,aE]at hrow;have hrowL:=bU hrow;have hml:=lG hrow;have em:maxLen=9223372036854775807:=z7
 refine aF (N:=114) Tryz.func68 rfl rfl zz λhb'=> ?_;refine aV (aS hrow hrowL) ?_;refine aV (aS hrow hrowL) ?_;refine aV (aS hrow hrowL) ?_;refine aV (aS hrow hrowL) ?_;refine aV (bL lZ sV jI hrow hrowL) ?_
 repeat refine wS ?_
 refine bJ ?_;refine fF (σ:=Nat×PV×PV×List Nat×List Nat×MQ) (λ(z:Nat×PV×PV×List Nat×List Nat×MQ)=> [(0, .optr mr 0),(1, .str name),(2, .str text),(7,z.2.1),(8,z.2.2.1),(9,aE z.2.2.2.2.2.2.2.1),(10, .bool z.2.2.2.2.2.2.2.2),(18, .slice (M.ms.map Md.enc) t1),(19,aE (M.ms.length:Int)),(20,aE (z.1:Int))]) (λ(z:Nat×PV×PV×List Nat×List Nat×MQ)=>λH1=>z.1<=M.ms.length/\mwQ M name=zW name (M.ms.drop z.1) (M.vs.drop z.1) z.2.2.2.2.2/\AF name z.1 z.2.2.2.2.2/\fV Md.enc 2 H1 z.2.1 (z.2.2.2.2.2).1 z.2.2.2.1/\fV aE 1 H1 z.2.2.1 (z.2.2.2.2.2).2.1 z.2.2.2.2.1/\(∀j∈z.2.2.2.1,H.length<=j)/\(∀j∈z.2.2.2.2.1,H.length<=j/\j∉z.2.2.2.1)/\H.length<=H1.length/\∀j,j<H.length->H1[j]? =H[j]?) (λ(z:Nat×PV×PV×List Nat×List Nat×MQ)=>M.ms.length-z.1) ((0, .slice [] .full, .slice [] .full,[],[],([],[],1,false))) ⟨(dJ (aS hrow hrowL)),(dJ (aS hrow hrowL)),(dJ (aS hrow hrowL)),(dJ (aS hrow hrowL)),(dJ (aS hrow hrowL)),(dJ (aS hrow hrowL)),(dJ (aS hrow hrowL)),(dJ (aS hrow hrowL)),(dJ (aS hrow hrowL)),(dJ (aS hrow hrowL)),trivial⟩ (⟨aNs _,rfl,⟨rfl,(λe=>by cases e),zz,(λm hm=>by cases hm),λ_=>zz⟩, .nil, .nil,(λi hi=>by cases hi),(λi hi=>by cases hi),aMq _,λ_ _=>rfl⟩) ?_;intro z H1 hg;obtain⟨i,cv1,cv2,cid1,cid2,q⟩:=z;obtain⟨HA,rfl⟩:∃HA,HA=H1:=⟨_,rfl⟩;obtain⟨hik,hq,hok,h1,h2,hc1,hc2,hlA,hsA⟩:=hg;simp only at hik hq hok h1 h2 hc1 hc2 hlA hsA;have hrA:=(hsA mr hml).trans hrow;have hrAL:=bU hrA;have hqlen:=hok.len;have hqlv:=hok.lv;refine aV (bL y3 hrow hrowL hrA hrAL) ?_;refine gG (bD hrow hrowL hrA hrAL) (λbt21=> ?_) (λbt21=> ?_)
 ·
  have hlt:i<M.ms.length:=by have:=of_decide_eq_true bt21;omega
  have g1:=fS hlt;have g2:=dF Md.enc hlt;have g3:((0:Int)<=(i:Int)/\(i:Int)<(M.vs.length:Int))=True:=by simp;omega
  have g4:=dF aE (xs:=M.vs) (i:=i) z8;obtain⟨md,hmd⟩:∃m,m=M.ms[i]:=⟨_,rfl⟩;obtain⟨v,hv⟩:∃v,v=M.vs[i]'z8:=⟨_,rfl⟩;have hmn:md.name.length<=maxLen:=by rw[hmd];exact hn _ (aNq hlt)
  rw[<-hmd,Md.enc_eq]at g2;rw[<-hv]at g4;simp only[aE]at g4;have hd1:M.ms.drop i=md::M.ms.drop (i+1):=by rw[hmd];exact aOi hlt
  have hd2:M.vs.drop i=v::M.vs.drop (i+1):=by rw[hv];exact aOi z8
  rw[hd1,hd2,zW]at hq;have hso:=aF3 v hok hmn hnm;have gw:IntKind.i64.wrap ((i:Int)+1)=((i+1:Nat):Int):=by rw[cL z8 z8];omega
  repeat refine wS ?_
  refine wK ?_
  repeat refine wS ?_
  refine bJ ?_;refine aV (aG lZ jI hrow hrowL hrA hrAL (aS g1 g2)) ?_;refine aV (cF y9 jI hrow hrowL hrA hrAL) ?_;refine gG (bD hrow hrowL hrA hrAL) (λbt28=> ?_) (λbt28=> ?_)
  ·
   have hsq:UE name q md v=(q.1,q.2.1,IntKind.i64.wrap (v+1),q.2.2.2):=by unfold UE;rw[if_pos bt28]
   refine aV (aG y3 lW sV hrow hrowL hrA (bR hrAL g3 g4)) ?_
   repeat refine wS ?_
   refine dO ?_;simp only[bQ,cB,reduceIte,Nat.reduceEqDiff,aOf,if_true,if_false];refine gQ [0,1,2,7,8,9,10,18,19,20] (bD hrow hrowL hrA hrAL) ?_;refine aV (cF y3 hrow hrowL hrA hrAL gw) ?_
   try simp only[bQ,cB]
   exact⟨(i+1,cv1,cv2,cid1,cid2,(q.1,q.2.1,IntKind.i64.wrap (v+1),q.2.2.2)),by show _<_;omega,(by repeat (first|exact trivial|refine⟨rfl, ?_⟩)),hlt,(by rw[hsq]at hq;exact hq),(by rw[hsq]at hso;exact hso),(h1.app _),(h2.app _),hc1,hc2,(by simp;omega),λj hj=>(aM0 z8).trans (hsA j hj)⟩
  ·
   have hsq:UE name q md v=OQ (if mwG name q md=true then VE name q else q) md v:=by unfold UE;rw[if_neg (by rw[bt28];simp)]
   repeat refine wS ?_
   refine wK ?_
   repeat refine wS ?_
   refine wR ?_;refine eN ?_;refine yL 3 (cF y9 jI hrow hrowL hrA hrAL) ?_;refine VC (zN eO) (ZY eO) (YJ rfl z7 z7 (bK eO) (bK eO)) ?_;refine DM (bD hrow hrowL hrA hrAL) ?_
   repeat refine wS ?_
   refine nP (σ:=PV×PV×List Nat×List Nat×MQ) (λ(s:PV×PV×List Nat×List Nat×MQ)=> [(0, .optr mr 0),(1, .str name),(2, .str text),(7,s.1),(8,s.2.1),(9,aE s.2.2.2.2.2.2.1),(10, .bool s.2.2.2.2.2.2.2),(11,aE (i:Int)),(12, .optr HA.length 0),(18, .slice (M.ms.map Md.enc) t1),(19,aE (M.ms.length:Int)),(20,aE (i:Int))]) (λ(s:PV×PV×List Nat×List Nat×MQ)=>λHB=>UE name q md v=OQ s.2.2.2.2 md v/\AF name i s.2.2.2.2/\fV Md.enc 2 HB s.1 (s.2.2.2.2).1 s.2.2.1/\fV aE 1 HB s.2.1 (s.2.2.2.2).2.1 s.2.2.2.1/\(∀j∈s.2.2.1,H.length<=j)/\(∀j∈s.2.2.2.1,H.length<=j/\j∉s.2.2.1)/\H.length<=HB.length/\(∀j,j<H.length->HB[j]? =H[j]?)/\HB[HA.length]? =some (.row [.str md.name, .str md.src])/\HA.length∉s.2.2.1/\HA.length∉s.2.2.2.1) ?_ ?_
   ·
    refine gG (bD hrow hrowL hrA hrAL) (λbt44=> ?_) (λbt44=> ?_)
    ·
     have hg9:mwG name q md=true:=bt44;rw[if_pos hg9]at hsq;have hoi:=ON hok (by unfold mwG at hg9;simp only[aMj,aMk]at hg9;exact hg9.2) hnm;refine eA 4 (cF lZ jI hrow hrowL hrA hrAL) ?_;refine dX (enc:=Md.enc) (sz:=2) Md.enc_len nO z7 (cid:=cid1) (a:=⟨name,[]⟩) (bP eO) rfl z7 z7 (bK eO) (bK eO) (h1.app _) dZ rfl (by show(_+1)*32<=_;omega) z8 (by rw[dZ];rfl) rJ rfl ?_;intro c1 i1 HB k1 ki1 kl1 ks1;simp only[aNo,aM7,aOa,aNn]at ki1 kl1 ks1;have k2:fV aE 1 HB cv2 q.2.1 cid2:=(h2.app _).fr λj hj=>ks1 j (by have:=h2.lt j hj;omega) (λh=>(hc2 j hj).2 h);refine DS 2 (cF y3 lW hrow hrowL hrA hrAL) ?_;refine dX (enc:=aE) (sz:=1) qI sJ z7 (cid:=cid2) (a:=0) (bP eO) rfl z7 z7 (bK eO) (bK eO) (k2) eD rfl (by show(_+1)*8<=_;omega) z8 (by rw[eD];rfl) zX rfl ?_;intro c2 i2 HC m2 mi2 ml2 ms2;refine bH (bD hrow hrowL hrA hrAL) ?_;have kd:∀j∈i1,j∉cid2:=λj hj h=>by
      rcases ki1 j hj with h3|h3
      ·exact(hc2 j h).2 h3
      ·have:=h2.lt j h;omega
     refine⟨(c1,c2,i1,i2,VE name q),(by repeat (first|exact trivial|refine⟨rfl, ?_⟩)),hsq,hoi,k1.fr (λj hj=>ms2 j (k1.lt j hj) (kd j hj)),m2,λj hj=>(ki1 j hj).elim (λh=>hc1 j h) (λh=>z8),λj hj=> ?_,by show H.length<=HC.length;omega,λj hj=> ?_, ?_,λhj=> ?_,λhj=> ?_⟩
     ·rcases mi2 j hj with h3|h3
      ·exact⟨(hc2 j h3).1,λh=>kd j h h3⟩
      ·exact⟨z8,λh=>by have:=k1.lt j h;omega⟩
     ·exact((ms2 j z8 (λh=>by have:=(hc2 j h).1;omega)).trans (ks1 j z8 (λh=>by have:=hc1 j h;omega))).trans ((aM0 z8).trans (hsA j hj))
     ·exact(ms2 HA.length z8 (λh=>by have:=h2.lt _ h;omega)).trans ((ks1 HA.length z8 (λh=>by have:=h1.lt _ h;omega)).trans zz)
     ·rcases ki1 _ hj with h|h
      ·have:=h1.lt _ h;omega
      ·omega
     ·rcases mi2 _ hj with h|h
      ·have:=h2.lt _ h;omega
      ·omega
    ·
     have hg9:mwG name q md=false:=bt44;rw[if_neg (by rw[hg9];simp)]at hsq
     repeat refine wS ?_
     refine wK ?_;exact⟨(cv1,cv2,cid1,cid2,q),(by repeat (first|exact trivial|refine⟨rfl, ?_⟩)),hsq,hok,h1.app _,h2.app _,hc1,hc2,by simp;omega,λj hj=>(aM0 z8).trans (hsA j hj),zz,(λh=>by have:=h1.lt _ h;omega),λh=>by have:=h2.lt _ h;omega⟩
   ·intro s HB hg;obtain⟨c1,c2,i1,i2,q2⟩:=s;simp only at hg;obtain⟨hsq2,hok2,k1,k2,kc1,kc2,hlB,hsB,hrb,hf1,hf2⟩:=hg;have hrB:=(hsB mr hml).trans hrow;have hq2l:=hok2.len;have hq2v:=hok2.lv
    repeat refine wS ?_
    refine lM (D:=PV×PV×List Nat×List Nat×PV×PV) 16 (by kernel_rfl) rfl [0,0,2,7,0,0,32,96,224,0,992,2016,4064,8191,16383,32767] (by kernel_rfl) [(16,0),(17,1),(18,2),(19,7),(20,8),(21,9),(22,10),(23,11),(24,12),(25,18),(26,19),(27,20),(0,53),(1,54),(2,55),(3,56),(4,57),(5,58),(6,59),(7,60),(8,61),(9,62),(10,63),(11,64),(12,65),(13,66)] (λd=> [.optr mr 0, .str name, .str text,d.2.2.2.2.1,d.2.2.2.2.2, .int .i64 q2.2.2.1, .bool q2.2.2.2, .int .i64 (i:Int), .optr HA.length 0, .slice (M.ms.map Md.enc) t1, .int .i64 (M.ms.length:Int), .int .i64 (i:Int),c1,md.enc, .slice [md.enc] .full,d.1,c2, .optr mr 0, .optr mr 0, .optr mr 1, .slice (M.vs.map aE) t2, .int .i64 (i:Int), .iptr [.int .i64 v], .int .i64 v, .slice [.int .i64 v] .full,d.2.1]) (λd m HX=>((m 3=false->fV Md.enc 2 HX c1 q2.1 i1)/\(m 3=true->fV Md.enc 2 HX d.1 (q2.1++ [md]) d.2.2.1/\∀j∈d.2.2.1,j∈i1\/HB.length<=j)/\(m 13=false->fV aE 1 HX c2 q2.2.1 i2)/\(m 13=true->fV aE 1 HX d.2.1 (q2.2.1++ [v]) d.2.2.2.1/\∀j∈d.2.2.2.1,(j∈i2\/HB.length<=j)/\j∉d.2.2.1)/\HB.length<=HX.length/\(∀j,j<HB.length->j∉i1->j∉i2->HX[j]? =HB[j]?)/\(m 14=false->d.2.2.2.2.1=c1)/\(m 14=true->d.2.2.2.2.1=d.1)/\(m 15=false->d.2.2.2.2.2=c2)/\(m 15=true->d.2.2.2.2.2=d.2.1))) (.junk, .junk,[],[],c1,c2) ⟨.inr rfl, .inr rfl, .inr rfl, .inr rfl, .inr rfl, .inr rfl, .inr rfl, .inr rfl, .inr rfl, .inr rfl, .inr rfl, .inr rfl, .inl z7, .inl z7, .inl z7, .inl z7, .inl z7, .inl z7, .inl z7, .inl z7, .inl z7, .inl z7, .inl z7, .inl z7, .inl z7, .inl z7,trivial⟩ (⟨λ_=>k1,λh=>Bool.noConfusion h,λ_=>k2,λh=>Bool.noConfusion h,aMq _,λ_ _ _ _=>rfl,λ_=>rfl,λh=>Bool.noConfusion h,λ_=>rfl,λh=>Bool.noConfusion h⟩) ⟨?_, ?_, ?_, ?_, ?_, ?_, ?_, ?_, ?_, ?_, ?_, ?_, ?_, ?_, ?_, ?_,trivial⟩ ?_
    ·
     intro m d HX hm hp hno hge hg;obtain⟨g1',g2',g3',g4',g5',g6',g7',g8',g9',g10'⟩:=hg;have hrX:=(g6' mr z8 (λh=>by have:=kc1 mr h;omega) (λh=>by have:=(kc2 mr h).1;omega)).trans hrB;have hbX:=(g6' HA.length (lG hrb) hf1 hf2).trans hrb;have e7:=g7' (hno 14 rfl);exact bH (aG (hge 19 z7) hrX hbX g3 g4 Md.enc_eq e7) ⟨d,⟨g1',g2',g3',g4',g5',g6',g7',g8',g9',g10'⟩,cU 0 53⟩
    ·
     intro m d HX hm hp hno hge hg;obtain⟨g1',g2',g3',g4',g5',g6',g7',g8',g9',g10'⟩:=hg;have hrX:=(g6' mr z8 (λh=>by have:=kc1 mr h;omega) (λh=>by have:=(kc2 mr h).1;omega)).trans hrB;have hbX:=(g6' HA.length (lG hrb) hf1 hf2).trans hrb;exact bH (aG jI (hge 24 z7) hrX hbX g3 g4 Md.enc_eq) ⟨d,⟨g1',g2',g3',g4',g5',g6',g7',g8',g9',g10'⟩,cU 1 54⟩
    ·
     intro m d HX hm hp hno hge hg;obtain⟨g1',g2',g3',g4',g5',g6',g7',g8',g9',g10'⟩:=hg;have hrX:=(g6' mr z8 (λh=>by have:=kc1 mr h;omega) (λh=>by have:=(kc2 mr h).1;omega)).trans hrB;have hbX:=(g6' HA.length (lG hrb) hf1 hf2).trans hrb;exact bH (aG lZ jI (hp 1 rfl) hrX hbX g3 (aS g4 Md.enc_eq)) ⟨d,⟨g1',g2',g3',g4',g5',g6',g7',g8',g9',g10'⟩,cU 2 55⟩
    ·
     intro m d HX hm hp hno hge hg;obtain⟨g1',g2',g3',g4',g5',g6',g7',g8',g9',g10'⟩:=hg;have hrX:=(g6' mr z8 (λh=>by have:=kc1 mr h;omega) (λh=>by have:=(kc2 mr h).1;omega)).trans hrB;have hbX:=(g6' HA.length (lG hrb) hf1 hf2).trans hrb;have m0:=hp 0 rfl;have m2:=hp 2 rfl;have n13:=hno 13 rfl;have n14:=hno 14 rfl;have n15:=hno 15 rfl;refine dX (enc:=Md.enc) (sz:=2) Md.enc_len nO z7 (cid:=i1) (a:=md) (bP (aS m0 m2)) rfl z7 z7 (bK (aS m0 m2)) (bK (aS m0 m2)) (g1' hm) dZ rfl (by show(_+1)*32<=_;omega) z8 (by rw[dZ];rfl) rJ rfl ?_;intro n1 j1 HY a1 a2 a3 a4;exact oN ⟨(n1,d.2.1,j1,d.2.2.2.1,d.2.2.2.2.1,d.2.2.2.2.2),⟨λh=>Bool.noConfusion h,λ_=>⟨a1,λj hj=>(a2 j hj).imp id (λh=>aMr g5' h)⟩,λh=>(g3' h).fr (λj hj=>a4 j ((g3' h).lt j hj) (λh'=>(kc2 j hj).2 h')),oU n13,aMr g5' a3,λj hj h1 h2=>(a4 j (aMs hj g5') h1).trans (g6' j hj h1 h2),g7',oU n14,g9',oU n15⟩,ZtE 3 56 n13⟩
    ·
     intro m d HX hm hp hno hge hg;obtain⟨g1',g2',g3',g4',g5',g6',g7',g8',g9',g10'⟩:=hg;have hrX:=(g6' mr z8 (λh=>by have:=kc1 mr h;omega) (λh=>by have:=(kc2 mr h).1;omega)).trans hrB;have hbX:=(g6' HA.length (lG hrb) hf1 hf2).trans hrb;have e8:=g9' (hno 15 rfl);exact bH (aG (hge 20 z7) hrX hbX g3 g4 Md.enc_eq e8) ⟨d,⟨g1',g2',g3',g4',g5',g6',g7',g8',g9',g10'⟩,cU 4 57⟩
    ·
     intro m d HX hm hp hno hge hg;obtain⟨g1',g2',g3',g4',g5',g6',g7',g8',g9',g10'⟩:=hg;have hrX:=(g6' mr z8 (λh=>by have:=kc1 mr h;omega) (λh=>by have:=(kc2 mr h).1;omega)).trans hrB;have hbX:=(g6' HA.length (lG hrb) hf1 hf2).trans hrb;exact bH (cF (hge 16 z7) hrX hbX g3 g4 Md.enc_eq) ⟨d,⟨g1',g2',g3',g4',g5',g6',g7',g8',g9',g10'⟩,cU 5 58⟩
    ·
     intro m d HX hm hp hno hge hg;obtain⟨g1',g2',g3',g4',g5',g6',g7',g8',g9',g10'⟩:=hg;have hrX:=(g6' mr z8 (λh=>by have:=kc1 mr h;omega) (λh=>by have:=(kc2 mr h).1;omega)).trans hrB;have hbX:=(g6' HA.length (lG hrb) hf1 hf2).trans hrb;exact bH (cF (hp 5 rfl) hrX hbX g3 g4 Md.enc_eq) ⟨d,⟨g1',g2',g3',g4',g5',g6',g7',g8',g9',g10'⟩,cU 6 59⟩
    ·
     intro m d HX hm hp hno hge hg;obtain⟨g1',g2',g3',g4',g5',g6',g7',g8',g9',g10'⟩:=hg;have hrX:=(g6' mr z8 (λh=>by have:=kc1 mr h;omega) (λh=>by have:=(kc2 mr h).1;omega)).trans hrB;have hbX:=(g6' HA.length (lG hrb) hf1 hf2).trans hrb;exact bH (aG sV (hp 6 rfl) hrX hbX g3 g4 Md.enc_eq) ⟨d,⟨g1',g2',g3',g4',g5',g6',g7',g8',g9',g10'⟩,cU 7 60⟩
    ·
     intro m d HX hm hp hno hge hg;obtain⟨g1',g2',g3',g4',g5',g6',g7',g8',g9',g10'⟩:=hg;have hrX:=(g6' mr z8 (λh=>by have:=kc1 mr h;omega) (λh=>by have:=(kc2 mr h).1;omega)).trans hrB;have hbX:=(g6' HA.length (lG hrb) hf1 hf2).trans hrb;exact bH (aG y3 lW (hp 7 rfl) hrX hbX g3 (aS g4 Md.enc_eq)) ⟨d,⟨g1',g2',g3',g4',g5',g6',g7',g8',g9',g10'⟩,cU 8 61⟩
    ·
     intro m d HX hm hp hno hge hg;obtain⟨g1',g2',g3',g4',g5',g6',g7',g8',g9',g10'⟩:=hg;have hrX:=(g6' mr z8 (λh=>by have:=kc1 mr h;omega) (λh=>by have:=(kc2 mr h).1;omega)).trans hrB;have hbX:=(g6' HA.length (lG hrb) hf1 hf2).trans hrb;exact bH (cF (hge 23 z7) hrX hbX g3 g4 Md.enc_eq) ⟨d,⟨g1',g2',g3',g4',g5',g6',g7',g8',g9',g10'⟩,cU 9 62⟩
    ·
     intro m d HX hm hp hno hge hg;obtain⟨g1',g2',g3',g4',g5',g6',g7',g8',g9',g10'⟩:=hg;have hrX:=(g6' mr z8 (λh=>by have:=kc1 mr h;omega) (λh=>by have:=(kc2 mr h).1;omega)).trans hrB;have hbX:=(g6' HA.length (lG hrb) hf1 hf2).trans hrb;exact bH (aG y3 lW (hp 8 rfl) (hp 9 rfl) hrX hbX (bR g3 g4 Md.enc_eq)) ⟨d,⟨g1',g2',g3',g4',g5',g6',g7',g8',g9',g10'⟩,cU 10 63⟩
    ·
     intro m d HX hm hp hno hge hg;obtain⟨g1',g2',g3',g4',g5',g6',g7',g8',g9',g10'⟩:=hg;have hrX:=(g6' mr z8 (λh=>by have:=kc1 mr h;omega) (λh=>by have:=(kc2 mr h).1;omega)).trans hrB;have hbX:=(g6' HA.length (lG hrb) hf1 hf2).trans hrb;exact bH (aG y3 (hp 10 rfl) hrX hbX g3 g4 Md.enc_eq) ⟨d,⟨g1',g2',g3',g4',g5',g6',g7',g8',g9',g10'⟩,cU 11 64⟩
    ·
     intro m d HX hm hp hno hge hg;obtain⟨g1',g2',g3',g4',g5',g6',g7',g8',g9',g10'⟩:=hg;have hrX:=(g6' mr z8 (λh=>by have:=kc1 mr h;omega) (λh=>by have:=(kc2 mr h).1;omega)).trans hrB;have hbX:=(g6' HA.length (lG hrb) hf1 hf2).trans hrb;exact bH (aG y3 lW (hp 11 rfl) hrX hbX g3 (aS g4 Md.enc_eq)) ⟨d,⟨g1',g2',g3',g4',g5',g6',g7',g8',g9',g10'⟩,cU 12 65⟩
    ·
     intro m d HX hm hp hno hge hg;obtain⟨g1',g2',g3',g4',g5',g6',g7',g8',g9',g10'⟩:=hg;have hrX:=(g6' mr z8 (λh=>by have:=kc1 mr h;omega) (λh=>by have:=(kc2 mr h).1;omega)).trans hrB;have hbX:=(g6' HA.length (lG hrb) hf1 hf2).trans hrb;have m3:=hp 3 rfl;have m4:=hp 4 rfl;have m12:=hp 12 rfl;have n14:=hno 14 rfl;have n15:=hno 15 rfl;obtain⟨b1,b2⟩:=g2' m3;have hdj:∀j∈d.2.2.1,j∉i2:=λj hj h'=>by
      rcases b2 j hj with h|h
      ·exact(kc2 j h').2 h
      ·have:=k2.lt j h';omega
     refine dX (enc:=aE) (sz:=1) qI sJ z7 (cid:=i2) (a:=v) (bP (aS m4 m12)) rfl z7 z7 (bK (aS m4 m12)) (bK (aS m4 m12)) (g3' hm) eD rfl (by show(_+1)*8<=_;omega) z8 (by rw[eD];rfl) zX rfl ?_;intro n2 j2 HY a1 a2 a3 a4;exact oN ⟨(d.1,n2,d.2.2.1,j2,d.2.2.2.2.1,d.2.2.2.2.2),⟨oU m3,λ_=>⟨b1.fr (λj hj=>a4 j (b1.lt j hj) (hdj j hj)),b2⟩,λh=>Bool.noConfusion h,λ_=>⟨a1,λj hj=>⟨(a2 j hj).imp id (λh=>aMr g5' h),λh'=>(a2 j hj).elim (λh=>hdj j h' h) (λh=>by have:=b1.lt j h';omega)⟩⟩,aMr g5' a3,λj hj h1 h2=>(a4 j (aMs hj g5') h2).trans (g6' j hj h1 h2),g7',oU n14,g9',oU n15⟩,TH 13 66⟩
    ·
     intro m d HX hm hp hno hge hg;obtain⟨g1',g2',g3',g4',g5',g6',g7',g8',g9',g10'⟩:=hg;have hrX:=(g6' mr z8 (λh=>by have:=kc1 mr h;omega) (λh=>by have:=(kc2 mr h).1;omega)).trans hrB;have hbX:=(g6' HA.length (lG hrb) hf1 hf2).trans hrb;refine bH (cF (hp 3 rfl) hrX hbX g3 g4 Md.enc_eq) ?_;exact⟨(d.1,d.2.1,d.2.2.1,d.2.2.2.1,d.1,d.2.2.2.2.2),⟨g1',g2',g3',g4',g5',g6',λh=>Bool.noConfusion h,λ_=>rfl,g9',g10'⟩,aI7 19 (d:=some 7) (r:=_) (hge 19 z7) z7 ZtA⟩
    ·
     intro m d HX hm hp hno hge hg;obtain⟨g1',g2',g3',g4',g5',g6',g7',g8',g9',g10'⟩:=hg;have hrX:=(g6' mr z8 (λh=>by have:=kc1 mr h;omega) (λh=>by have:=(kc2 mr h).1;omega)).trans hrB;have hbX:=(g6' HA.length (lG hrb) hf1 hf2).trans hrb;refine bH (cF (hp 13 rfl) hrX hbX g3 g4 Md.enc_eq) ?_;exact⟨(d.1,d.2.1,d.2.2.1,d.2.2.2.1,d.2.2.2.2.1,d.2.1),⟨g1',g2',g3',g4',g5',g6',g7',g8',λh=>Bool.noConfusion h,λ_=>rfl⟩,aI7 20 (d:=some 8) (r:=_) (hge 20 z7) z7 ZtA⟩
    intro d HF hg;obtain⟨n1,n2,j1,j2,x7,x8⟩:=d;obtain⟨_,p2,_,p4,p5,p6,_,p8,_,p10⟩:=hg;obtain⟨a1,a2⟩:=p2 rfl;obtain⟨b1,b2⟩:=p4 rfl;have e7:=p8 rfl;have e8:=p10 rfl;simp only at a1 a2 b1 b2 e7 e8;subst x7 x8;refine eG (F:=gM [(0, .optr mr 0),(1, .str name),(2, .str text),(7,n1),(8,n2),(9, .int .i64 q2.2.2.1),(10, .bool q2.2.2.2),(18, .slice (M.ms.map Md.enc) t1),(19, .int .i64 (M.ms.length:Int)),(20, .int .i64 (i:Int))]) (cO ⟨rfl,rfl,rfl,rfl,rfl,rfl,rfl,rfl,rfl,rfl,trivial⟩) ?_;refine gQ [0,1,2,7,8,9,10,18,19,20] (bD hrow hrowL hrA hrAL) ?_;refine aV (cF y3 hrow hrowL hrA hrAL gw) ?_
    try simp only[bQ,cB]
    have hB0:∀j,j<HB.length->j∉i1->j∉i2->HF[j]? =HB[j]? :=p6;exact⟨(i+1,n1,n2,j1,j2,OQ q2 md v),by show _<_;omega,(by repeat (first|exact trivial|refine⟨rfl, ?_⟩)),hlt,(by rw[hsq2]at hq;exact hq),(by rw[hsq2]at hso;exact hso),a1,b1,λj hj=>(a2 j hj).elim (λh=>kc1 j h) (λh=>z8),λj hj=>⟨(b2 j hj).1.elim (λh=>(kc2 j h).1) (λh=>z8),(b2 j hj).2⟩,by show H.length<=HF.length;omega,λj hj=>(hB0 j z8 (λh=>by have:=kc1 j h;omega) (λh=>by have:=(kc2 j h).1;omega)).trans (hsB j hj)⟩
 ·
  have hge:=of_decide_eq_false bt21;obtain rfl:i=M.ms.length:=z8
  have hqe:mwQ M name=q:=by rw[hq,List.drop_length];rfl
  repeat refine wS ?_
  refine dO ?_;simp only[bQ,cB,reduceIte,Nat.reduceEqDiff,aOf,if_true,if_false];refine aV (bD hrow hrowL hrA hrAL) ?_
  repeat refine wS ?_
  refine nP (σ:=PV×PV×List Nat×List Nat) (λ(s:PV×PV×List Nat×List Nat)=> [(0, .optr mr 0),(1, .str name),(2, .str text),(7,s.1),(8,s.2.1),(9,aE (BB M name).2.2.1)]) (λ(s:PV×PV×List Nat×List Nat)=>λHB=>fV Md.enc 2 HB s.1 (BB M name).1 s.2.2.1/\fV aE 1 HB s.2.1 (BB M name).2.1 s.2.2.2/\(∀j∈s.2.2.1,H.length<=j)/\(∀j∈s.2.2.2,H.length<=j/\j∉s.2.2.1)/\H.length<=HB.length/\(∀j,j<H.length->HB[j]? =H[j]?)) ?_ ?_
  ·
   refine gG (bD hrow hrowL hrA hrAL) (λbt69=> ?_) (λbt69=> ?_)
   ·
    have hpf:q.2.2.2=false:=by simpa using bt69
    have hEe:BB M name=VE name q:=by unfold BB;rw[hqe,hpf];rfl
    refine eA 4 (cF lZ jI hrow hrowL hrA hrAL) ?_;refine dX (enc:=Md.enc) (sz:=2) Md.enc_len nO z7 (cid:=cid1) (a:=⟨name,[]⟩) (bP eO) rfl z7 z7 (bK eO) (bK eO) (h1) dZ rfl (by show(_+1)*32<=_;omega) z8 (by rw[dZ];rfl) rJ rfl ?_;intro c1 i1 HB k1 ki1 kl1 ks1;have k2:fV aE 1 HB cv2 q.2.1 cid2:=h2.fr λj hj=>ks1 j (h2.lt j hj) (λh=>(hc2 j hj).2 h);refine DS 2 (cF y3 lW hrow hrowL hrA hrAL) ?_;refine dX (enc:=aE) (sz:=1) qI sJ z7 (cid:=cid2) (a:=0) (bP eO) rfl z7 z7 (bK eO) (bK eO) (k2) eD rfl (by show(_+1)*8<=_;omega) z8 (by rw[eD];rfl) zX rfl ?_;intro c2 i2 HC m2 mi2 ml2 ms2;refine bH (bD hrow hrowL hrA hrAL) ?_;have kd:∀j∈i1,j∉cid2:=λj hj h=>by
     rcases ki1 j hj with h3|h3
     ·exact(hc2 j h).2 h3
     ·have:=h2.lt j h;omega
    rw[hEe];refine⟨(c1,c2,i1,i2),(by repeat (first|exact trivial|refine⟨rfl, ?_⟩)),k1.fr (λj hj=>ms2 j (k1.lt j hj) (kd j hj)),m2,λj hj=>(ki1 j hj).elim (λh=>hc1 j h) (λh=>z8),λj hj=> ?_,by show H.length<=HC.length;omega,λj hj=> ?_⟩
    ·rcases mi2 j hj with h3|h3
     ·exact⟨(hc2 j h3).1,λh=>kd j h h3⟩
     ·exact⟨z8,λh=>by have:=k1.lt j h;omega⟩
    ·exact((ms2 j z8 (λh=>by have:=(hc2 j h).1;omega)).trans (ks1 j z8 (λh=>by have:=hc1 j h;omega))).trans (hsA j hj)
   ·
    have hpf:q.2.2.2=true:=by simpa using bt69
    have hEe:BB M name=q:=by unfold BB;rw[hqe,hpf];rfl
    repeat refine wS ?_
    refine wK ?_;rw[hEe];exact⟨(cv1,cv2,cid1,cid2),(by repeat (first|exact trivial|refine⟨rfl, ?_⟩)),h1,h2,hc1,hc2,hlA,hsA⟩
  ·intro s HB hg;obtain⟨c1,c2,i1,i2⟩:=s;obtain⟨k1,k2,kc1,kc2,hlB,hsB⟩:=hg;simp only at k1 k2 kc1 kc2;obtain⟨ev1,ev2,ev3,ev4⟩:=aGd (M:=M) (name:=name) (n:=M.ms.length) (by rw[hqe];exact hok) hnm;obtain⟨EA,hEA⟩:∃x,x=(BB M name).1:=⟨_,rfl⟩;obtain⟨EB,hEB⟩:∃x,x=(BB M name).2.1:=⟨_,rfl⟩;obtain⟨EV,hEV⟩:∃x,x=(BB M name).2.2.1:=⟨_,rfl⟩;obtain⟨XM,hXM⟩:∃x,x=PR M name text:=⟨_,rfl⟩;obtain⟨XV,hXV⟩:∃x,x=aAs M name:=⟨_,rfl⟩;have hF:XB M name text=if gV XM≠0 then(gV XM,M)else(0,⟨XM,XV,M.ps,IntKind.i64.wrap (M.rev+1)⟩):=by unfold XB;rw[<-hXM,<-hXV]
   unfold PR at hXM;unfold aAs at hXV;rw[<-hEA]at k1 ev1 ev2 ev3 ev4 hXM hXV;rw[<-hEB]at k2 ev1 hXV;rw[<-hEV]at hXV⊢;rw[hF];clear hF;obtain⟨p,hpl,hpi,hpn⟩:∃p,∃h:p<EA.length,cN (aO name) EA=(p:Int)/\EA[p].name=name:=by
    rcases kY (aO name) EA with⟨_,e⟩| ⟨p,h,e,e2,_⟩
    ·rw[e]at ev2;cases ev2
    ·exact⟨p,h,e,of_decide_eq_true e2⟩
   rw[hpi,tN]at hXM hXV;have hXl:XM.length=EA.length:=by rw[hXM];simp
   have hXn:∀m∈XM,m.name.length<=maxLen:=λm hm=>by
    rw[hXM]at hm;rcases List.mem_or_eq_of_mem_set hm with hm|rfl
    ·exact ev4 m hm
    ·exact hnm
   rcases k1.cases2 with⟨e,_,_⟩| ⟨ic,c,rest,rfl,rfl,hH1,hcc1,hm1⟩
   ·rw[e]at hpl;cases hpl
   rcases k2.cases2 with⟨e,_,_⟩| ⟨ic2,c3,rest2,rfl,rfl,hH2,hcc2,hm2⟩
   ·rw[e]at ev1;rw[<-ev1]at hpl;cases hpl
   have hpv:p<EB.length:=z8
   have hne:ic2≠ic:=λe=>(kc2 ic2 zz).2 (by simp[e]);have q1:=kc1 ic zz;have q2:=(kc2 ic2 zz).1;have hl1:=lG hH1;have hl2:=lG hH2;refine eA 2 (bD hrow hrowL hrA hrAL) ?_;refine kW (DT eO) (bP eO) z7 KJ (VJ (us:=EA) (c:=c) name hH1 z8) ?_;rintro _ HC ⟨rfl,hlC,hsC⟩;rw[hpi];refine bH (bD hrow hrowL hrA hrAL) ?_
   repeat refine wS ?_
   have hC1:=(hsC ic hl1).trans hH1;have hC2:=(hsC ic2 hl2).trans hH2;obtain⟨se1,sl1⟩:=xH (enc:=Md.enc) (sz:=2) Md.enc_len (xs:=EA) (i:=p) (j:=1) hpl z7 (a:=⟨name,text⟩) (v:=.str text) (by rw[Md.enc_cells,Md.enc_cells,hpn];rfl) rest;obtain⟨se2,sl2⟩:=xH (enc:=aE) (sz:=1) (λ_=>rfl) (xs:=EB) (i:=p) (j:=0) hpv z7 (a:=EV) (v:=aE EV) rfl rest2;rw[<-hXM]at se1;rw[<-hXV]at se2;simp only[Nat.mul_one,aNm]at se2 sl2;obtain⟨RA,hRA⟩:∃R,R=aL (EA.map Md.enc)++rest:=⟨_,rfl⟩;obtain⟨RB,hRB⟩:∃R,R=aL (EB.map aE)++rest2:=⟨_,rfl⟩;rw[<-hRA]at hC1 se1 sl1;rw[<-hRB]at hC2 se2 sl2;have gix1:((0:Int)<=(p:Int)/\(p:Int)<(EA.length:Int))=True:=by simp;omega
   have gix2:((0:Int)<=(p:Int)/\(p:Int)<(EB.length:Int))=True:=by simp;omega
   have NN:(p*2+1+1<=RA.length)=True:=eq_true z8;have OM:(p+1<=RB.length)=True:=eq_true z8;have nic:(ic=HC.length)=False:=by simp;omega
   have nic2:(ic2=HC.length)=False:=by simp;omega
   have hz2:∀ob,(HC.set ic ob)[ic2]? =some (.row RB):=λob=>(aM5 (Ne.symm hne)).trans hC2;refine eE (fI (aG y3 y9 lZ lW jI hrow (aG hrowL hrA hrAL hC1 hC2 gix1 (aG gix2 NN OM nic nic2 hz2 (bR @RJ zqA Nat.mul_one))))) z7 ?_
   repeat refine wS ?_
   refine dI (λHZ=>HZ[ic]? =some (.row (aL (XM.map Md.enc)++rest))/\HZ[ic2]? =some (.row (aL (XV.map aE)++rest2))/\(∀j,j<H.length->HZ[j]? =H[j]?)/\HZ.length=HC.length) ⟨by rw[aM5 hne,aM4 z8,<-se1],by rw[aM4 (by simp;omega),<-se2],λj hj=>by rw[aM5 z8,aM5 z8];exact(hsC j z8).trans (hsB j hj),zz⟩ ?_;rintro HZ ⟨z1,z2,z3,z4⟩;refine iN (xs:=XM) (cid:= [ic]) Md.enc_len z7 7 (.of (rest:=rest) (c:=c) (by rw[hXl]) z1 (by first|exact hcc1| (rw[hXl];exact hcc1)) hm1) rfl λHQ hlQ hsQ=> ?_;refine iN (xs:=XV) (cid:= [ic2]) qI z7 8 (.of (rest:=rest2) (c:=c3) (by rw[hXV];simp) ((hsQ ic2 (by simp[hne])).trans z2) (by first|exact hcc2| (rw[hXV];simp;exact hcc2)) hm2) rfl λHR hlR hsR=> ?_;have hR0:∀j,j<H.length->HR[j]? =H[j]? :=λj hj=>(hsR j (by simp;omega)).trans ((hsQ j (by simp;omega)).trans (z3 j hj));have hrR:=(hR0 mr hml).trans hrow;have hrRL:=bU hrR;have nmr:(mr=HR.length)=False:=by simp;omega
   have hGR:ML G0 HR:=λk o hk=>by
    match k,hk with
    |0,hk=>exact(hR0 0 z8).trans (hG 0 o hk)
   have zsr:∀ob,(HR.set mr ob)[mr]? =some ob:=λob=>aM4 z8;refine wR ?_;refine DS 5 (aG y42 sV hrow hrowL hrA hrAL hrR) ?_;refine qT (bL hrow hrowL hrA hrAL hrR) aD3 (CP hGR XM z8 hXn) ?_;refine bH (bL hrow hrowL hrA hrAL hrR) ?_;refine gQ [0,1,2,7,8,9,10,14,18,19,20] (bD hrow hrowL hrA hrAL) ?_;refine aV (bL EN hrow hrowL hrA hrAL) ?_;refine gG (bD hrow hrowL hrA hrAL) (λbt97=> ?_) (λbt97=> ?_)
   ·
    have hv0:gV XM≠0:=by simpa using bt97
    rw[if_pos hv0];refine aV (bD hrow hrowL hrA hrAL) ?_
    repeat refine wS ?_
    refine wT ⟨.inr rfl,_,rfl, ?_⟩;exact⟨rfl,⟨t1,t2,hrR,hM.t1,hM.t2,hM.t3⟩,z8,λj hj _=>hR0 j hj⟩
   ·
    have hv0:¬gV XM≠0:=by simpa using bt97
    rw[if_neg hv0]
    repeat refine wS ?_
    refine wK ?_;refine aV (aG y3 lZ lW sV jI hrow (aG hrowL hrA hrAL hrR zsr nmr (aS @RJ @zrC))) ?_;refine aV (aG y3 sV hrow hrowL hrA hrAL (bL hrR zsr nmr @RJ @zrC)) ?_;refine gQ [0,1,2,7,8,9,10,18,19,20] (bD hrow hrowL hrA hrAL) ?_;refine aV (bD hrow hrowL hrA hrAL) ?_
    repeat refine wS ?_
    refine wT ⟨.inr rfl,_,rfl, ?_⟩;exact⟨rfl,⟨.none, .none,zsr _,trivial,trivial,hM.t3⟩,by simp;omega,λj hj hn=>(aM5 (Ne.symm hn)).trans (hR0 j hj)⟩
end Go.Abs
namespace Go.Abs
open Go.Proofs Go.Memo
theorem jZ:type_of%(aI @tN (aI (@Option.isNone_some.{0}) (aI (@Option.isNone_none.{0}) (aI @aNh (aI @false_and (aI @and_false (aI (@if_false.{1}) (@if_true.{1})))))))):=aI @tN (aI (@Option.isNone_some.{0}) (aI (@Option.isNone_none.{0}) (aI @aNh (aI @false_and (aI @and_false (aI (@if_false.{1}) (@if_true.{1})))))))
def AB(M:fX)(e:Ev):Int×fX:=
 if decide (e.kind=1)=true then XB M e.name e.text
 else if decide (cN (aO e.name) M.ms<0)=true then(5,M)
 else if decide (e.kind=2)=true then(0,⟨M.ms.take (cN (aO e.name) M.ms).toNat++M.ms.drop ((cN (aO e.name) M.ms).toNat+1),M.vs.take (cN (aO e.name) M.ms).toNat++M.vs.drop ((cN (aO e.name) M.ms).toNat+1),M.ps,IntKind.i64.wrap (M.rev+1)⟩)
 else if e.ver≠M.vs.getD (cN (aO e.name) M.ms).toNat 0 then(11,M)
 else if sL (mX M.ms e.name) e.edits≠0 then(sL (mX M.ms e.name) e.edits,M)
 else XB M e.name (KH (mX M.ms e.name) e.edits)
theorem WJ{mr:Nat}{M:fX}{t1 t2 t3:bE}{H:aH}(hM:JV mr M t1 t2 t3 H)(hG:ML G0 H)(hmr:mr≠0)(e:Ev)(hev:evOk e)(hl:M.ms.length<=1000)(hlv:M.vs.length=M.ms.length)(hn:∀m∈M.ms,m.name.length<=maxLen):aR Tryz.prog 33 [.optr mr 0,e.enc] H (λr H'=>r=aE (AB M e).1/\(∃u1 u2,JV mr (AB M e).2 u1 u2 t3 H')/\H.length<=H'.length/\∀j,j<H.length->j≠mr->H'[j]? =H[j]?):=by
 have hrow:=hM.row;simp only[vB,aE]at hrow;have hrowL:=bU hrow;have hml:=lG hrow;have em:maxLen=9223372036854775807:=z7
 obtain⟨hen,hnm,hex,htx⟩:=hev;unfold AB;refine aF (N:=108) Tryz.func33 rfl rfl zz λhb'=> ?_;refine aV (bL qQ qK qR hrow hrowL) ?_;refine aV (cF y3 qQ qK qR hrow hrowL) ?_;refine gG (bD qK qR hrow hrowL) (λbt10=> ?_) (λbt10=> ?_)
 ·
  rw[if_pos bt10];refine eA 5 (cF y9 qQ qK qR hrow hrowL) ?_;refine oW (bD qK qR hrow hrowL) aEj (LJ (hM.fr (aM0 hml)) (λk o hk=>(hG.app _) k o hk) hmr e.name e.text hl hlv hn hnm) ?_;rintro r HB ⟨rfl,q1,q2,q3⟩;refine bH (bD qK qR hrow hrowL) ?_
  repeat refine wS ?_
  refine wT ⟨.inr rfl,_,rfl, ?_⟩;exact⟨rfl,q1,by simp at q2;omega,λj hj hn=>(q3 j (by simp;omega) hn).trans (aM0 hj)⟩
 ·
  rw[if_neg (by rw[bt10];simp)]
  repeat refine wS ?_
  refine wK ?_
  repeat refine wS ?_
  refine eJ (by kernel_rfl) ?_;refine lY 6 (aG y9 qQ lZ sV jI qK (bR qR hrow hrowL)) ?_;refine CE (bD qK qR hrow hrowL) KJ (λhc=>wQ M.ms e.name z8 _) ?_;refine iI (bD qK qR hrow hrowL) ?_;refine aV (bL y3 qK qR hrow hrowL) ?_;refine gG (bD qK qR hrow hrowL) (λbt25=> ?_) (λbt25=> ?_)
  ·
   rw[if_pos bt25];refine gQ [] (bD qK qR hrow hrowL) ?_;refine aV (bD qK qR hrow hrowL) ?_
   repeat refine wS ?_
   refine wT ⟨.inr rfl,_,rfl, ?_⟩;exact⟨rfl,⟨t1,t2,hM.fr (aM0 hml)⟩,zz,λj hj _=>aM0 hj⟩
  ·
   rw[if_neg (by rw[bt25];simp)];have hi0:0<=cN (aO e.name) M.ms:=by have:=of_decide_eq_false bt25;omega
   obtain⟨i,hi⟩:∃i:Nat,cN (aO e.name) M.ms=(i:Int):=⟨(cN (aO e.name) M.ms).toNat,z8⟩;have hil:i<M.ms.length:=by have:=rZ (p:=aO e.name) (xs:=M.ms) hi0;omega
   rw[hi,tN];have gw:IntKind.i64.wrap ((i:Int)+1)=((i+1:Nat):Int):=by rw[cL z8 z8];omega
   repeat refine wS ?_
   refine wK ?_;refine gQ [0,3,5] (bD qK qR hrow hrowL) ?_;refine aV (cF y3 qQ qK qR hrow hrowL) ?_;refine gG (bD qK qR hrow hrowL) (λbt28=> ?_) (λbt28=> ?_)
   ·
    rw[if_pos bt28];obtain⟨tkA,gtlA,htkA⟩:∃tk,(if i=(M.ms).length/\t1=bE.full then bE.full else bE.none)=tk/\uT tk:=⟨_,rfl,by split<;>trivial⟩;obtain⟨trA,gtrA,htrA⟩:∃tr,(if t1=bE.full then bE.full else bE.none)=tr/\uT tr:=⟨_,rfl,by split<;>trivial⟩;have qA:=aI (show((0:Int)<=(i:Int)/\(i:Int)<=((M.ms).length:Int))=True by simp;omega) (aI (show((0:Int)<=((i+1:Nat):Int)/\((i+1:Nat):Int)<=((M.ms).length:Int))=True by simp;omega) (aI (show(∀e∈(M.ms).map Md.enc,e.cells.length=2)=True from eq_true λe he=>by obtain⟨v,_,rfl⟩:=aNy.1 he;exact Md.enc_len v) (aI (show((M.ms).map Md.enc).take i=((M.ms).take i).map Md.enc from List.map_take.symm) (aI (show(((M.ms).map Md.enc).take (M.ms).length).drop (i+1)=((M.ms).drop (i+1)).map Md.enc by rw[List.take_of_length_le zz,List.map_drop]) (aI gtlA gtrA)))));obtain⟨tkB,gtlB,htkB⟩:∃tk,(if i=(M.vs).length/\t2=bE.full then bE.full else bE.none)=tk/\uT tk:=⟨_,rfl,by split<;>trivial⟩;obtain⟨trB,gtrB,htrB⟩:∃tr,(if t2=bE.full then bE.full else bE.none)=tr/\uT tr:=⟨_,rfl,by split<;>trivial⟩;have qB:=aI (show((0:Int)<=(i:Int)/\(i:Int)<=((M.vs).length:Int))=True by simp;omega) (aI (show((0:Int)<=((i+1:Nat):Int)/\((i+1:Nat):Int)<=((M.vs).length:Int))=True by simp;omega) (aI (show(∀e∈(M.vs).map aE,e.cells.length=1)=True from eq_true λe he=>by obtain⟨v,_,rfl⟩:=aNy.1 he;exact qI v) (aI (show((M.vs).map aE).take i=((M.vs).take i).map aE from List.map_take.symm) (aI (show(((M.vs).map aE).take (M.vs).length).drop (i+1)=((M.vs).drop (i+1)).map aE by rw[List.take_of_length_le zz,List.map_drop]) (aI gtlB gtrB)))));refine dI (λHA=>HA.length=H.length+1/\∀j,j<H.length->HA[j]? =H[j]?) ⟨zz,λj hj=>aM0 hj⟩ ?_;rintro HA ⟨hlA,hsA⟩;have hrA:=(hsA mr hml).trans hrow;have hmA:mr<HA.length:=z8
    repeat refine wS ?_
    refine lM (D:=Unit) 19 (by kernel_rfl) rfl [0,0,2,6,14,0,62,126,0,256,768,1792,0,4096,16128,32766,65535,131071,262143] (by kernel_rfl) [(19,0),(20,3),(21,5),(0,29),(1,30),(2,31),(3,32),(4,33),(5,34),(6,35),(7,36),(8,37),(9,38),(10,39),(11,40),(12,41),(13,42),(14,43),(15,44),(16,45),(17,46)] (λd=> [.optr mr 0, .optr H.length 0, .int .i64 (i:Int), .optr mr 0, .optr mr 0, .optr mr 0, .optr mr 0, .slice ((M.ms).map Md.enc) t1, .int .i64 (i:Int), .slice (((M.ms).take i).map Md.enc) tkA, .slice (((M.ms).take i).map Md.enc) (xN ((M.ms).take i) HA.length), .optr mr 0, .optr mr 0, .optr mr 0, .slice ((M.ms).map Md.enc) t1, .int .i64 (i:Int), .int .i64 ((i+1:Nat):Int), .slice (((M.ms).drop (i+1)).map Md.enc) trA, .slice (((M.ms).take i++(M.ms).drop (i+1)).map Md.enc) .none, .optr mr 0, .optr mr 0]) (λd m HX=>((m 7=false->HX=HA)/\(m 7=true->m 15=false->HX=pN (M.ms.take i) 2 HA)/\(m 15=true->m 18=false->HX=pN (M.ms.take i++M.ms.drop (i+1)) 2 HA)/\(m 18=true->HX=(pN (M.ms.take i++M.ms.drop (i+1)) 2 HA).set mr (.row [.slice ((M.ms.take i++M.ms.drop (i+1)).map Md.enc) .none, .slice (M.vs.map aE) t2, .slice (M.ps.map Rq.enc) t3, .int .i64 M.rev, .fn (.func 6) [] [], .fn (.func 24) [] [], .fn (.func 25) [] []]))/\(m 18=false->∀j,j<HA.length->HX[j]? =HA[j]?))) () ⟨.inr rfl, .inr rfl, .inr rfl, .inl z7, .inl z7, .inl z7, .inl z7, .inl z7, .inl z7, .inl z7, .inl z7, .inl z7, .inl z7, .inl z7, .inl z7, .inl z7, .inl z7, .inl z7, .inl z7, .inl z7, .inl z7,trivial⟩ (⟨λ_=>rfl,λh=>Bool.noConfusion h,λh=>Bool.noConfusion h,λh=>Bool.noConfusion h,λ_ _ _=>rfl⟩) ⟨?_, ?_, ?_, ?_, ?_, ?_, ?_, ?_, ?_, ?_, ?_, ?_, ?_, ?_, ?_, ?_, ?_, ?_, ?_,trivial⟩ ?_
    ·
     intro m d HX hm hp hno hge hg;have n18:=hno 18 rfl;have hsX:=hg.2.2.2.2 n18;have hrX:=(hsX mr hmA).trans hrA;exact bH (bL (hge 19 z7) hrX qA gw jZ) ⟨d,hg,cU 0 29⟩
    ·
     intro m d HX hm hp hno hge hg;have n18:=hno 18 rfl;have hsX:=hg.2.2.2.2 n18;have hrX:=(hsX mr hmA).trans hrA;exact bH (bL (hge 19 z7) hrX qA gw jZ) ⟨d,hg,cU 1 30⟩
    ·
     intro m d HX hm hp hno hge hg;have n18:=hno 18 rfl;have hsX:=hg.2.2.2.2 n18;have hrX:=(hsX mr hmA).trans hrA;exact bH (bL (hp 1 rfl) hrX qA gw jZ) ⟨d,hg,cU 2 31⟩
    ·
     intro m d HX hm hp hno hge hg;have n18:=hno 18 rfl;have hsX:=hg.2.2.2.2 n18;have hrX:=(hsX mr hmA).trans hrA;exact bH (cF sV (hp 2 rfl) hrX qA gw jZ) ⟨d,hg,cU 3 32⟩
    ·
     intro m d HX hm hp hno hge hg;have n18:=hno 18 rfl;have hsX:=hg.2.2.2.2 n18;have hrX:=(hsX mr hmA).trans hrA;exact bH (aG lZ jI (hp 3 rfl) hrX qA gw jZ) ⟨d,hg,cU 4 33⟩
    ·
     intro m d HX hm hp hno hge hg;have n18:=hno 18 rfl;have hsX:=hg.2.2.2.2 n18;have hrX:=(hsX mr hmA).trans hrA;exact bH (bL (hge 21 z7) hrX qA gw jZ) ⟨d,hg,cU 5 34⟩
    ·
     intro m d HX hm hp hno hge hg;have n18:=hno 18 rfl;have hsX:=hg.2.2.2.2 n18;have hrX:=(hsX mr hmA).trans hrA;exact bH (aG lZ jI (hp 4 rfl) (hp 5 rfl) hrX qA (aS gw jZ)) ⟨d,hg,cU 6 35⟩
    ·
     intro m d HX hm hp hno hge hg;have n18:=hno 18 rfl;have hsX:=hg.2.2.2.2 n18;have hrX:=(hsX mr hmA).trans hrA;have m6:=hp 6 rfl;have n15:=hno 15 rfl;have n18:=hno 18 rfl;have hXe:=hg.1 hm;refine oW (bL m6 hrX qA gw jZ) aId (aF7 (M.ms.take i) (by show _*32<=_;simp;omega) HX) ?_;rintro _ _ ⟨rfl,rfl⟩;rw[hXe];exact oN ⟨(),⟨λh=>Bool.noConfusion h,λ_ _=>rfl,oU n15,oU n18,λ_ j hj=>lO hj⟩,ZtE 7 36 n15⟩
    ·
     intro m d HX hm hp hno hge hg;have n18:=hno 18 rfl;have hsX:=hg.2.2.2.2 n18;have hrX:=(hsX mr hmA).trans hrA;exact bH (bL (hge 19 z7) hrX qA gw jZ) ⟨d,hg,cU 8 37⟩
    ·
     intro m d HX hm hp hno hge hg;have n18:=hno 18 rfl;have hsX:=hg.2.2.2.2 n18;have hrX:=(hsX mr hmA).trans hrA;exact bH (bL (hp 8 rfl) hrX qA gw jZ) ⟨d,hg,cU 9 38⟩
    ·
     intro m d HX hm hp hno hge hg;have n18:=hno 18 rfl;have hsX:=hg.2.2.2.2 n18;have hrX:=(hsX mr hmA).trans hrA;exact bH (cF sV (hp 9 rfl) hrX qA gw jZ) ⟨d,hg,cU 10 39⟩
    ·
     intro m d HX hm hp hno hge hg;have n18:=hno 18 rfl;have hsX:=hg.2.2.2.2 n18;have hrX:=(hsX mr hmA).trans hrA;exact bH (aG lZ jI (hp 10 rfl) hrX qA gw jZ) ⟨d,hg,cU 11 40⟩
    ·
     intro m d HX hm hp hno hge hg;have n18:=hno 18 rfl;have hsX:=hg.2.2.2.2 n18;have hrX:=(hsX mr hmA).trans hrA;exact bH (bL (hge 21 z7) hrX qA gw jZ) ⟨d,hg,cU 12 41⟩
    ·
     intro m d HX hm hp hno hge hg;have n18:=hno 18 rfl;have hsX:=hg.2.2.2.2 n18;have hrX:=(hsX mr hmA).trans hrA;exact bH (cF y3 (hp 12 rfl) hrX qA gw jZ) ⟨d,hg,cU 13 42⟩
    ·
     intro m d HX hm hp hno hge hg;have n18:=hno 18 rfl;have hsX:=hg.2.2.2.2 n18;have hrX:=(hsX mr hmA).trans hrA;exact bH (aG lZ jI (hp 11 rfl) (hp 13 rfl) hrX qA (aS gw jZ)) ⟨d,hg,cU 14 43⟩
    ·
     intro m d HX hm hp hno hge hg;have n18:=hno 18 rfl;have hsX:=hg.2.2.2.2 n18;have hrX:=(hsX mr hmA).trans hrA;have m7:=hp 7 rfl;have m14:=hp 14 rfl;have n18:=hno 18 rfl;rw[hg.2.1 m7 hm];refine kV (enc:=Md.enc) (xs:=M.ms.take i) (ys:=M.ms.drop (i+1)) (sz:=2) (tl:=trA) Md.enc_len nO (bP eO) rfl z7 z7 (dW m7) (dW m14) dZ rfl z7 (by show _*32<=_;simp;omega) (by simp;omega) (by rw[dZ];rfl) rJ rfl ?_;refine rW ?_;exact oN ⟨(),⟨oU m7,λ_ h=>Bool.noConfusion h,λ_ _=>rfl,oU n18,λ_ j hj=>lO hj⟩,TH 15 44⟩
    ·
     intro m d HX hm hp hno hge hg;have n18:=hno 18 rfl;have hsX:=hg.2.2.2.2 n18;have hrX:=(hsX mr hmA).trans hrA;exact bH (bL (hp 0 rfl) hrX qA gw jZ) ⟨d,hg,cU 16 45⟩
    ·
     intro m d HX hm hp hno hge hg;have n18:=hno 18 rfl;have hsX:=hg.2.2.2.2 n18;have hrX:=(hsX mr hmA).trans hrA;exact bH (cF sV (hp 16 rfl) hrX qA gw jZ) ⟨d,hg,cU 17 46⟩
    ·
     intro m d HX hm hp hno hge hg;have n18:m 18=false:=hm;have hsX:=hg.2.2.2.2 n18;have hrX:=(hsX mr hmA).trans hrA;have m7:=hp 7 rfl;have m15:=hp 15 rfl;rw[hg.2.2.1 m15 hm];have hrY:(pN (M.ms.take i++M.ms.drop (i+1)) 2 HA)[mr]? =some (.row [.slice (M.ms.map Md.enc) t1, .slice (M.vs.map aE) t2, .slice (M.ps.map Rq.enc) t3, .int .i64 M.rev, .fn (.func 6) [] [], .fn (.func 24) [] [], .fn (.func 25) [] []]):=(lO hmA).trans hrA;have nmY:(mr=(pN (M.ms.take i++M.ms.drop (i+1)) 2 HA).length)=False:=by have:=mC (M.ms.take i++M.ms.drop (i+1)) 2 HA;simp;omega
     refine bH (aG lZ jI m7 m15 (hp 17 rfl) hrX (bL qA gw jZ hrY nmY)) ?_;exact⟨(),⟨oU m7,λ_ h=>absurd (h.symm.trans m15) z7,λ_ h=>Bool.noConfusion h,λ_=>rfl,λh=>Bool.noConfusion h⟩,Zt0 18⟩
    intro d HF hg;have hF:=hg.2.2.2.1 rfl;have hFl:HA.length<=HF.length:=by rw[hF,lS];exact mC _ _ _
    have hFr:HF[mr]? =some (.row [.slice ((M.ms.take i++M.ms.drop (i+1)).map Md.enc) .none, .slice (M.vs.map aE) t2, .slice (M.ps.map Rq.enc) t3, .int .i64 M.rev, .fn (.func 6) [] [], .fn (.func 24) [] [], .fn (.func 25) [] []]):=by rw[hF];exact aM4 (aMs hmA (mC _ _ _))
    have hFs:∀j,j<HA.length->j≠mr->HF[j]? =HA[j]? :=λj hj hn=>by rw[hF,aM5 (Ne.symm hn)];exact lO hj
    clear hF hg;refine eG (F:=gM [(0, .optr mr 0),(3, .optr H.length 0),(5, .int .i64 (i:Int))]) (cO ⟨rfl,rfl,rfl,trivial⟩) ?_;have hmF:mr<HF.length:=z8
    refine gQ [0,5] (bD qK qR hrow hrowL) ?_
    repeat refine wS ?_
    refine lM (D:=Unit) 19 (by kernel_rfl) rfl [0,0,2,6,14,0,62,126,0,256,768,1792,0,4096,16128,32766,65535,131071,262143] (by kernel_rfl) [(19,0),(20,5),(0,47),(1,48),(2,49),(3,50),(4,51),(5,52),(6,53),(7,54),(8,55),(9,56),(10,57),(11,58),(12,59),(13,60),(14,61),(15,62),(16,63),(17,64)] (λd=> [.optr mr 0, .int .i64 (i:Int), .optr mr 0, .optr mr 0, .optr mr 0, .optr mr 1, .slice ((M.vs).map aE) t2, .int .i64 (i:Int), .slice (((M.vs).take i).map aE) tkB, .slice (((M.vs).take i).map aE) (xN ((M.vs).take i) HF.length), .optr mr 0, .optr mr 0, .optr mr 1, .slice ((M.vs).map aE) t2, .int .i64 (i:Int), .int .i64 ((i+1:Nat):Int), .slice (((M.vs).drop (i+1)).map aE) trB, .slice (((M.vs).take i++(M.vs).drop (i+1)).map aE) .none, .optr mr 0, .optr mr 1]) (λd m HX=>((m 7=false->HX=HF)/\(m 7=true->m 15=false->HX=pN (M.vs.take i) 1 HF)/\(m 15=true->m 18=false->HX=pN (M.vs.take i++M.vs.drop (i+1)) 1 HF)/\(m 18=true->HX=(pN (M.vs.take i++M.vs.drop (i+1)) 1 HF).set mr (.row [.slice ((M.ms.take i++M.ms.drop (i+1)).map Md.enc) .none, .slice ((M.vs.take i++M.vs.drop (i+1)).map aE) .none, .slice (M.ps.map Rq.enc) t3, .int .i64 M.rev, .fn (.func 6) [] [], .fn (.func 24) [] [], .fn (.func 25) [] []]))/\(m 18=false->∀j,j<HF.length->HX[j]? =HF[j]?))) () ⟨.inr rfl, .inr rfl, .inl z7, .inl z7, .inl z7, .inl z7, .inl z7, .inl z7, .inl z7, .inl z7, .inl z7, .inl z7, .inl z7, .inl z7, .inl z7, .inl z7, .inl z7, .inl z7, .inl z7, .inl z7,trivial⟩ (⟨λ_=>rfl,λh=>Bool.noConfusion h,λh=>Bool.noConfusion h,λh=>Bool.noConfusion h,λ_ _ _=>rfl⟩) ⟨?_, ?_, ?_, ?_, ?_, ?_, ?_, ?_, ?_, ?_, ?_, ?_, ?_, ?_, ?_, ?_, ?_, ?_, ?_,trivial⟩ ?_
    ·
     intro m d HX hm hp hno hge hg;have n18:=hno 18 rfl;have hsX:=hg.2.2.2.2 n18;have hrX:=(hsX mr hmF).trans hFr;exact bH (bL (hge 19 z7) hrX qB gw jZ) ⟨d,hg,cU 0 47⟩
    ·
     intro m d HX hm hp hno hge hg;have n18:=hno 18 rfl;have hsX:=hg.2.2.2.2 n18;have hrX:=(hsX mr hmF).trans hFr;exact bH (bL (hge 19 z7) hrX qB gw jZ) ⟨d,hg,cU 1 48⟩
    ·
     intro m d HX hm hp hno hge hg;have n18:=hno 18 rfl;have hsX:=hg.2.2.2.2 n18;have hrX:=(hsX mr hmF).trans hFr;exact bH (bL (hp 1 rfl) hrX qB gw jZ) ⟨d,hg,cU 2 49⟩
    ·
     intro m d HX hm hp hno hge hg;have n18:=hno 18 rfl;have hsX:=hg.2.2.2.2 n18;have hrX:=(hsX mr hmF).trans hFr;exact bH (cF sV (hp 2 rfl) hrX qB gw jZ) ⟨d,hg,cU 3 50⟩
    ·
     intro m d HX hm hp hno hge hg;have n18:=hno 18 rfl;have hsX:=hg.2.2.2.2 n18;have hrX:=(hsX mr hmF).trans hFr;exact bH (aG y3 lW (hp 3 rfl) hrX qB gw jZ) ⟨d,hg,cU 4 51⟩
    ·
     intro m d HX hm hp hno hge hg;have n18:=hno 18 rfl;have hsX:=hg.2.2.2.2 n18;have hrX:=(hsX mr hmF).trans hFr;exact bH (bL (hge 20 z7) hrX qB gw jZ) ⟨d,hg,cU 5 52⟩
    ·
     intro m d HX hm hp hno hge hg;have n18:=hno 18 rfl;have hsX:=hg.2.2.2.2 n18;have hrX:=(hsX mr hmF).trans hFr;exact bH (aG y3 lW (hp 4 rfl) (hp 5 rfl) hrX qB (aS gw jZ)) ⟨d,hg,cU 6 53⟩
    ·
     intro m d HX hm hp hno hge hg;have n18:=hno 18 rfl;have hsX:=hg.2.2.2.2 n18;have hrX:=(hsX mr hmF).trans hFr;have m6:=hp 6 rfl;have n15:=hno 15 rfl;have n18:=hno 18 rfl;have hXe:=hg.1 hm;refine oW (bL m6 hrX qB gw jZ) aI6 (aJn (M.vs.take i) (by show _*8<=_;simp;omega) HX) ?_;rintro _ _ ⟨rfl,rfl⟩;rw[hXe];exact oN ⟨(),⟨λh=>Bool.noConfusion h,λ_ _=>rfl,oU n15,oU n18,λ_ j hj=>lO hj⟩,ZtE 7 54 n15⟩
    ·
     intro m d HX hm hp hno hge hg;have n18:=hno 18 rfl;have hsX:=hg.2.2.2.2 n18;have hrX:=(hsX mr hmF).trans hFr;exact bH (bL (hge 19 z7) hrX qB gw jZ) ⟨d,hg,cU 8 55⟩
    ·
     intro m d HX hm hp hno hge hg;have n18:=hno 18 rfl;have hsX:=hg.2.2.2.2 n18;have hrX:=(hsX mr hmF).trans hFr;exact bH (bL (hp 8 rfl) hrX qB gw jZ) ⟨d,hg,cU 9 56⟩
    ·
     intro m d HX hm hp hno hge hg;have n18:=hno 18 rfl;have hsX:=hg.2.2.2.2 n18;have hrX:=(hsX mr hmF).trans hFr;exact bH (cF sV (hp 9 rfl) hrX qB gw jZ) ⟨d,hg,cU 10 57⟩
    ·
     intro m d HX hm hp hno hge hg;have n18:=hno 18 rfl;have hsX:=hg.2.2.2.2 n18;have hrX:=(hsX mr hmF).trans hFr;exact bH (aG y3 lW (hp 10 rfl) hrX qB gw jZ) ⟨d,hg,cU 11 58⟩
    ·
     intro m d HX hm hp hno hge hg;have n18:=hno 18 rfl;have hsX:=hg.2.2.2.2 n18;have hrX:=(hsX mr hmF).trans hFr;exact bH (bL (hge 20 z7) hrX qB gw jZ) ⟨d,hg,cU 12 59⟩
    ·
     intro m d HX hm hp hno hge hg;have n18:=hno 18 rfl;have hsX:=hg.2.2.2.2 n18;have hrX:=(hsX mr hmF).trans hFr;exact bH (cF y3 (hp 12 rfl) hrX qB gw jZ) ⟨d,hg,cU 13 60⟩
    ·
     intro m d HX hm hp hno hge hg;have n18:=hno 18 rfl;have hsX:=hg.2.2.2.2 n18;have hrX:=(hsX mr hmF).trans hFr;exact bH (aG y3 lW (hp 11 rfl) (hp 13 rfl) hrX qB (aS gw jZ)) ⟨d,hg,cU 14 61⟩
    ·
     intro m d HX hm hp hno hge hg;have n18:=hno 18 rfl;have hsX:=hg.2.2.2.2 n18;have hrX:=(hsX mr hmF).trans hFr;have m7:=hp 7 rfl;have m14:=hp 14 rfl;have n18:=hno 18 rfl;rw[hg.2.1 m7 hm];refine kV (enc:=aE) (xs:=M.vs.take i) (ys:=M.vs.drop (i+1)) (sz:=1) (tl:=trB) qI sJ (bP eO) rfl z7 z7 (dW m7) (dW m14) eD rfl z7 (by show _*8<=_;simp;omega) (by simp;omega) (by rw[eD];rfl) zX rfl ?_;refine rW ?_;exact oN ⟨(),⟨oU m7,λ_ h=>Bool.noConfusion h,λ_ _=>rfl,oU n18,λ_ j hj=>lO hj⟩,TH 15 62⟩
    ·
     intro m d HX hm hp hno hge hg;have n18:=hno 18 rfl;have hsX:=hg.2.2.2.2 n18;have hrX:=(hsX mr hmF).trans hFr;exact bH (bL (hp 0 rfl) hrX qB gw jZ) ⟨d,hg,cU 16 63⟩
    ·
     intro m d HX hm hp hno hge hg;have n18:=hno 18 rfl;have hsX:=hg.2.2.2.2 n18;have hrX:=(hsX mr hmF).trans hFr;exact bH (cF sV (hp 16 rfl) hrX qB gw jZ) ⟨d,hg,cU 17 64⟩
    ·
     intro m d HX hm hp hno hge hg;have n18:m 18=false:=hm;have hsX:=hg.2.2.2.2 n18;have hrX:=(hsX mr hmF).trans hFr;have m7:=hp 7 rfl;have m15:=hp 15 rfl;rw[hg.2.2.1 m15 hm];have hrY:(pN (M.vs.take i++M.vs.drop (i+1)) 1 HF)[mr]? =some (.row [.slice ((M.ms.take i++M.ms.drop (i+1)).map Md.enc) .none, .slice (M.vs.map aE) t2, .slice (M.ps.map Rq.enc) t3, .int .i64 M.rev, .fn (.func 6) [] [], .fn (.func 24) [] [], .fn (.func 25) [] []]):=(lO hmF).trans hFr;have nmY:(mr=(pN (M.vs.take i++M.vs.drop (i+1)) 1 HF).length)=False:=by have:=mC (M.vs.take i++M.vs.drop (i+1)) 1 HF;simp;omega
     refine bH (aG y3 lW m7 m15 (hp 17 rfl) hrX (bL qB gw jZ hrY nmY)) ?_;exact⟨(),⟨oU m7,λ_ h=>absurd (h.symm.trans m15) z7,λ_ h=>Bool.noConfusion h,λ_=>rfl,λh=>Bool.noConfusion h⟩,Zt0 18⟩
    intro d HK hg;have hF:=hg.2.2.2.1 rfl;have hKl:HF.length<=HK.length:=by rw[hF,lS];exact mC _ _ _
    have hKr:HK[mr]? =some (.row [.slice ((M.ms.take i++M.ms.drop (i+1)).map Md.enc) .none, .slice ((M.vs.take i++M.vs.drop (i+1)).map aE) .none, .slice (M.ps.map Rq.enc) t3, .int .i64 M.rev, .fn (.func 6) [] [], .fn (.func 24) [] [], .fn (.func 25) [] []]):=by rw[hF];exact aM4 (aMs hmF (mC _ _ _))
    have hKs:∀j,j<HF.length->j≠mr->HK[j]? =HF[j]? :=λj hj hn=>by rw[hF,aM5 (Ne.symm hn)];exact lO hj
    clear hF hg;refine eG (F:=gM [(0, .optr mr 0),(5, .int .i64 (i:Int))]) (cO ⟨rfl,rfl,trivial⟩) ?_;refine gQ [0] (bD qK qR hrow hrowL) ?_
    repeat refine wS ?_
    have nmK:(mr=HK.length)=False:=by simp;omega
    have zsK:∀ob,(HK.set mr ob)[mr]? =some ob:=λob=>aM4 z8;refine eE (fI (aG y3 sV qK qR hrow hrowL (bR hKr nmK zsK))) z7 ?_;refine aV (bD qK qR hrow hrowL) ?_
    repeat refine wS ?_
    refine wT ⟨.inr rfl,_,rfl, ?_⟩;exact⟨rfl,⟨.none, .none,zsK _,trivial,trivial,hM.t3⟩,by simp;omega,λj hj hn=>(aM5 (Ne.symm hn)).trans ((hKs j z8 hn).trans ((hFs j z8 hn).trans (hsA j hj)))⟩
   ·
    rw[if_neg (by rw[bt28];simp)];have ge:=dF aE (xs:=M.vs) (i:=i) z8;have gm:=dF Md.enc (xs:=M.ms) (i:=i) z8;have hgd:M.vs.getD i 0=M.vs[i]'z8:=by rw[aNj,aNi z8];rfl
    have hsa:mX M.ms e.name=(M.ms[i]'hil).src:=by unfold mX;rw[hi,tN,aNj,aNi hil];rfl
    rw[hgd,hsa];obtain⟨src,hsrc⟩:∃src,src=(M.ms[i]'hil).src:=⟨_,rfl⟩;rw[<-hsrc];obtain⟨nm,hnm2⟩:∃nm,nm=(M.ms[i]'hil).name:=⟨_,rfl⟩;rw[show Md.enc (M.ms[i]'hil)= .agg [.str nm, .str src]from by rw[hnm2,hsrc];rfl]at gm;obtain⟨vi,hvi⟩:∃v,v=M.vs[i]'z8:=⟨_,rfl⟩;rw[<-hvi];rw[<-hvi]at ge;simp only[aE]at ge;have qC:=aI (show((0:Int)<=(i:Int)/\(i:Int)<(M.vs.length:Int))=True by simp;omega) (aI (show((0:Int)<=(i:Int)/\(i:Int)<(M.ms.length:Int))=True by simp;omega) (aI ge gm))
    repeat refine wS ?_
    refine wK ?_
    repeat refine wS ?_
    refine eJ (by kernel_rfl) ?_;refine iI (aG y3 qQ lW sV qK qR (bD hrow hrowL qC jZ)) ?_;refine gG (bD qK qR hrow hrowL) (λbt81=> ?_) (λbt81=> ?_)
    ·
     rw[if_pos (by simpa using bt81)];refine aV (bD qK qR hrow hrowL) ?_
     repeat refine wS ?_
     refine wT ⟨.inr rfl,_,rfl, ?_⟩;exact⟨rfl,⟨t1,t2,hM.fr (aM0 hml)⟩,zz,λj hj _=>aM0 hj⟩
    ·
     rw[if_neg (by simpa using bt81)]
     repeat refine wS ?_
     refine wK ?_
     repeat refine wS ?_
     refine dV 0 (by kernel_rfl) ?_;simp only[aOd,aN9];refine eZ 14 (bm:= [0,1,3,7,0,16,48,112,0,496,1008,2032,0,4096,16383,32767,65535,65535,131071,524287]) (by kernel_rfl) z7 (by kernel_rfl) (by kernel_rfl) ?_;refine iI (aG y9 NO qQ lZ y43 sV (cF jI pQ hrow hrowL qC jZ)) ?_;refine gJ (k:=14) (bm:= [0,1,3,7,0,16,48,112,0,496,1008,2032,0,4096,16383,32767,65535,65535,131071,524287]) (by kernel_rfl) rfl (by kernel_rfl) (by kernel_rfl) ?_;refine oC (DT eO) rfl z7 aEo (SE src e.edits hex htx _) ?_;rintro _ HB ⟨rfl,lB,sB⟩;refine oN ?_;show iP _ _ _ _ _ _ _ _;refine eZ 5 (bm:= [0,1,3,7,0,16,48,112,0,496,1008,2032,0,4096,16383,32767,65535,65535,131071,524287]) (by kernel_rfl) z7 (by kernel_rfl) (by kernel_rfl) ?_;refine aKc ?_;refine eV ?_;refine gQ [0,3,6,7] (bD qK qR hrow hrowL) ?_;refine aV (bL EN qK qR hrow hrowL) ?_;refine gG (bD qK qR hrow hrowL) (λbt101=> ?_) (λbt101=> ?_)
     ·
      rw[if_pos (by simpa using bt101)];refine aV (bD qK qR hrow hrowL) ?_
      repeat refine wS ?_
      refine wT ⟨.inr rfl,_,rfl, ?_⟩;exact⟨rfl,⟨t1,t2,hM.fr ((sB mr (by simp;omega)).trans (aM0 hml))⟩,by simp at lB;omega,λj hj _=>(sB j (by simp;omega)).trans (aM0 hj)⟩
     ·
      have ht0:¬sL src e.edits≠0:=by simpa using bt101
      rw[if_neg ht0]
      repeat refine wS ?_
      refine wK ?_
      repeat refine wS ?_
      have hrb:HB[H.length]? =some (.row e.enc.cells):=(sB H.length zz).trans (by simp[Ev.enc_cells]);rw[Ev.enc_cells]at hrb;simp only[aNo,aM7,aOa,aNn]at lB;refine wR ?_;refine DS 4 (aG y9 qQ qK qR hrow hrowL hrb) ?_;refine oW (bL qK qR hrow hrowL hrb) aEj (LJ (hM.fr ((sB mr (by simp;omega)).trans (aM0 hml))) (λk o hk=>(sB k (lG ((hG.app _) k o hk))).trans ((hG.app _) k o hk)) hmr e.name (KH src e.edits) hl hlv hn hnm) ?_;rintro r HC ⟨rfl,q1,q2,q3⟩;refine bH (bL qK qR hrow hrowL hrb) ?_
      repeat refine wS ?_
      refine wT ⟨.inr rfl,_,rfl, ?_⟩;exact⟨rfl,q1,z8,λj hj hn=>(q3 j z8 hn).trans ((sB j (by simp;omega)).trans (aM0 hj))⟩
end Go.Abs
namespace Go.Abs
open Go.Proofs Go.Memo
def kK(M:fX)(e:Ev):Int×List Rs×fX:=
 if(decide (e.kind=1)||decide (e.kind=2)||decide (e.kind=3))=true then((AB M e).1,[],(AB M e).2)
 else if decide (e.kind=4)=true then((rQ M.ps e.req).1,[],⟨M.ms,M.vs,(rQ M.ps e.req).2,M.rev⟩)
 else if decide (e.kind=5)=true then((rT M.ps e.req.cl e.req.id).1,(if(rT M.ps e.req.cl e.req.id).1=0 then [⟨e.req.cl,e.req.id,12,M.rev,[],[]⟩]else []),⟨M.ms,M.vs,(rT M.ps e.req.cl e.req.id).2,M.rev⟩)
 else if(decide (e.kind=6)||decide (e.kind=7))=true then(if decide (e.n<0)=true then(1,[],M)else(0,[],M))
 else(7,[],M)
theorem aBz{mr:Nat}{M:fX}{t1 t2 t3:bE}{H:aH}(hM:JV mr M t1 t2 t3 H)(hG:ML G0 H)(hmr:mr≠0)(e:Ev)(hev:evOk e)(hl:M.ms.length<=1000)(hlv:M.vs.length=M.ms.length)(hn:∀m∈M.ms,m.name.length<=maxLen)(hpl:M.ps.length<=20):aR Tryz.prog 10 [.optr mr 0,e.enc] H (λr H'=>r= .tup [.slice ((kK M e).2.1.map Rs.enc) .none,aE (kK M e).1]/\(∃u1 u2 u3,JV mr (kK M e).2.2 u1 u2 u3 H')/\H.length<=H'.length/\∀j,j<H.length->j≠mr->H'[j]? =H[j]?):=by
 have hrow:=hM.row;simp only[vB,aE]at hrow;have hrowL:=bU hrow;have hml:=lG hrow;have em:maxLen=9223372036854775807:=z7
 have hM1:JV mr M t1 t2 t3 (H++ [.row [.int .i64 e.kind, .int .i64 e.n, .int .i64 e.ver, .str e.name, .str e.text, .slice (e.edits.map Te.enc) .none, .int .i64 e.req.cl, .int .i64 e.req.id, .int .i64 e.req.q, .int .i64 e.req.arg, .str e.req.name], .row [.int .i64 e.req.cl, .int .i64 e.req.id, .int .i64 e.req.q, .int .i64 e.req.arg, .str e.req.name]]):=hM.fr (aM0 hml);unfold kK;refine aF (N:=97) Tryz.func10 rfl rfl zz λhb'=> ?_;refine aV (bL qQ qK qR hrow hrowL) ?_;refine aV (cF jH qQ qK qR hrow hrowL) ?_;refine aV (cF y3 qQ qK qR hrow hrowL) ?_
 repeat refine wS ?_
 refine bJ ?_;refine aV (bL y3 qK qR hrow hrowL) ?_
 repeat refine wS ?_
 refine nP (σ:=Bool) (λ(s:Bool)=> [(0, .optr mr 0),(3, .optr H.length 0),(6, .optr (H.length+1) 0),(11,aE e.kind),(12, .bool s)]) (λ(s:Bool)=>λHB=>HB=(H++ [.row [.int .i64 e.kind, .int .i64 e.n, .int .i64 e.ver, .str e.name, .str e.text, .slice (e.edits.map Te.enc) .none, .int .i64 e.req.cl, .int .i64 e.req.id, .int .i64 e.req.q, .int .i64 e.req.arg, .str e.req.name], .row [.int .i64 e.req.cl, .int .i64 e.req.id, .int .i64 e.req.q, .int .i64 e.req.arg, .str e.req.name]])/\s=(decide (e.kind=1)||decide (e.kind=2)||decide (e.kind=3))) ?_ ?_
 ·
  refine gG (bD qK qR hrow hrowL) (λb0=> ?_) (λb0=> ?_)
  ·
   repeat refine wS ?_
   refine wK ?_;exact⟨decide (e.kind=1),(by repeat (first|exact trivial|refine⟨rfl, ?_⟩)),rfl,by rw[b0];rfl⟩
  ·
   refine aV (bL y3 qK qR hrow hrowL) ?_;refine gG (bD qK qR hrow hrowL) (λb1=> ?_) (λb1=> ?_)
   ·
    repeat refine wS ?_
    refine wK ?_;exact⟨decide (e.kind=2),(by repeat (first|exact trivial|refine⟨rfl, ?_⟩)),rfl,by rw[b0,b1];rfl⟩
   ·
    refine aV (bL y3 qK qR hrow hrowL) ?_;exact⟨decide (e.kind=3),(by repeat (first|exact trivial|refine⟨rfl, ?_⟩)),rfl,by rw[b0,b1];rfl⟩
 ·intro s HB hg;obtain⟨rfl,hs⟩:=hg;rw[<-hs];refine gG (bD qK qR hrow hrowL) (λb2=> ?_) (λb2=> ?_)
  ·
   rw[if_pos b2];refine eA 2 (bL qQ qK qR hrow hrowL) ?_;refine oW (bD qK qR hrow hrowL) aI4 ((by have q:=WJ hM1 (hG.app _) hmr e hev hl hlv hn;rw[Ev.enc_eq]at q;exact q)) ?_;rintro r HB ⟨rfl,⟨u1,u2,q1⟩,q2,q3⟩;refine bH (bD qK qR hrow hrowL) ?_
   repeat refine wS ?_
   refine wT ⟨.inr rfl,_,(bI (.tmp 4) (.tmp 5) rfl (aM z7) (aM z7)), ?_⟩;exact⟨rfl,⟨u1,u2,t3,q1⟩,by simp at q2;omega,λj hj hn=>(q3 j (by simp;omega) hn).trans (aM0 hj)⟩
  ·
   rw[if_neg (by rw[b2];simp)];refine aV (bL y3 qK qR hrow hrowL) ?_;refine gG (bD qK qR hrow hrowL) (λb3=> ?_) (λb3=> ?_)
   ·
    rw[if_pos b3];refine eA 5 (cF y3 jH qK qR hrow hrowL) ?_;refine qT (bD qK qR hrow hrowL) aEb (SH hM1 e.req.cl e.req.id z8) ?_;refine bH (bL y3 qK qR hrow hrowL) ?_;refine gG (bD qK qR hrow hrowL) (λb4=> ?_) (λb4=> ?_)
    ·
     have hq:rQ M.ps e.req=(6,M.ps):=by unfold rQ;rw[if_pos (of_decide_eq_true b4)]
     rw[hq];refine aV (bD qK qR hrow hrowL) ?_
     repeat refine wS ?_
     refine wT ⟨.inr rfl,_,(bI (.tmp 4) (.tmp 5) rfl (aM z7) (aM z7)), ?_⟩;exact⟨rfl,⟨t1,t2,t3,hM1⟩,zz,λj hj _=>aM0 hj⟩
    ·
     have h0:=of_decide_eq_false b4
     repeat refine wS ?_
     refine wK ?_;refine aV (aG y3 jH qU sV qK qR (aS hrow hrowL)) ?_;refine gG (bD qK qR hrow hrowL) (λb5=> ?_) (λb5=> ?_)
     ·
      have hq:rQ M.ps e.req=(2,M.ps):=by unfold rQ;rw[if_neg h0,if_pos (by have:=of_decide_eq_true b5;omega)]
      rw[hq];refine gQ [] (bD qK qR hrow hrowL) ?_;refine aV (bD qK qR hrow hrowL) ?_
      repeat refine wS ?_
      refine wT ⟨.inr rfl,_,(bI (.tmp 4) (.tmp 5) rfl (aM z7) (aM z7)), ?_⟩;exact⟨rfl,⟨t1,t2,t3,hM1⟩,zz,λj hj _=>aM0 hj⟩
     ·
      have h2:=of_decide_eq_false b5
      repeat refine wS ?_
      refine wK ?_;refine gQ [0,6] (bD qK qR hrow hrowL) ?_;refine tJ (cF y3 jH qK qR hrow hrowL) ?_;refine gG (bD qK qR hrow hrowL) (λb6=> ?_) (λb6=> ?_)
      ·
       have hq:rQ M.ps e.req=(7,M.ps):=by unfold rQ;rw[if_neg h0,if_neg z8,if_pos (by simpa using b6)]
       rw[hq];refine aV (bD qK qR hrow hrowL) ?_
       repeat refine wS ?_
       refine wT ⟨.inr rfl,_,(bI (.tmp 4) (.tmp 5) rfl (aM z7) (aM z7)), ?_⟩;exact⟨rfl,⟨t1,t2,t3,hM1⟩,zz,λj hj _=>aM0 hj⟩
      ·
       have hq:rQ M.ps e.req=(0,M.ps++ [e.req]):=by unfold rQ;rw[if_neg h0,if_neg z8,if_neg (by simpa using b6)]
       rw[hq];refine dI (λHA=>HA.length=H.length+2/\(∀j,j<H.length->HA[j]? =H[j]?)/\HA[H.length+1]? =some (.row [.int .i64 e.req.cl, .int .i64 e.req.id, .int .i64 e.req.q, .int .i64 e.req.arg, .str e.req.name])) ⟨zz,λj hj=>aM0 hj,zz⟩ ?_;rintro HA ⟨hlA,hsA,hrb⟩;have hrA:=(hsA mr hml).trans hrow;have hmA:mr<HA.length:=z8
       repeat refine wS ?_
       refine wK ?_
       repeat refine wS ?_
       refine lM (D:=Unit) 12 (by kernel_rfl) rfl [0,0,2,6,14,30,0,64,254,511,1023,2047] (by kernel_rfl) [(12,0),(13,6),(0,42),(1,43),(2,44),(3,45),(4,46),(5,47),(6,48),(7,49),(8,50),(9,51),(10,52)] (λd=> [.optr mr 0, .optr (H.length+1) 0, .optr mr 0, .optr mr 0, .optr mr 0, .optr mr 2, .slice (M.ps.map Rq.enc) t3, .slice (M.ps.map Rq.enc) (xN M.ps HA.length),e.req.enc, .slice [e.req.enc] .full, .slice ((M.ps++ [e.req]).map Rq.enc) .none, .optr mr 0, .optr mr 2]) (λd m HX=>((m 5=false->HX=HA)/\(m 5=true->m 8=false->HX=pN (M.ps) 5 HA)/\(m 8=true->m 11=false->HX=pN (M.ps++ [e.req]) 5 HA)/\(m 11=true->HX=(pN (M.ps++ [e.req]) 5 HA).set mr (.row [.slice (M.ms.map Md.enc) t1, .slice (M.vs.map aE) t2, .slice ((M.ps++ [e.req]).map Rq.enc) .none, .int .i64 M.rev, .fn (.func 6) [] [], .fn (.func 24) [] [], .fn (.func 25) [] []]))/\(m 11=false->∀j,j<HA.length->HX[j]? =HA[j]?))) () ⟨.inr rfl, .inr rfl, .inl z7, .inl z7, .inl z7, .inl z7, .inl z7, .inl z7, .inl z7, .inl z7, .inl z7, .inl z7, .inl z7,trivial⟩ (⟨λ_=>rfl,λh=>Bool.noConfusion h,λh=>Bool.noConfusion h,λh=>Bool.noConfusion h,λ_ _ _=>rfl⟩) ⟨?_, ?_, ?_, ?_, ?_, ?_, ?_, ?_, ?_, ?_, ?_, ?_,trivial⟩ ?_
       ·
        intro m d HX hm hp hno hge hg;have n11:=hno 11 rfl;have hsX:=hg.2.2.2.2 n11;have hrX:=(hsX mr hmA).trans hrA;have hbX:=(hsX (H.length+1) z8).trans hrb;exact bH (cF qK qR (hge 12 z7) hrX hbX jZ) ⟨d,hg,cU 0 42⟩
       ·
        intro m d HX hm hp hno hge hg;have n11:=hno 11 rfl;have hsX:=hg.2.2.2.2 n11;have hrX:=(hsX mr hmA).trans hrA;have hbX:=(hsX (H.length+1) z8).trans hrb;exact bH (cF qK qR (hge 12 z7) hrX hbX jZ) ⟨d,hg,cU 1 43⟩
       ·
        intro m d HX hm hp hno hge hg;have n11:=hno 11 rfl;have hsX:=hg.2.2.2.2 n11;have hrX:=(hsX mr hmA).trans hrA;have hbX:=(hsX (H.length+1) z8).trans hrb;exact bH (cF qK qR (hp 1 rfl) hrX hbX jZ) ⟨d,hg,cU 2 44⟩
       ·
        intro m d HX hm hp hno hge hg;have n11:=hno 11 rfl;have hsX:=hg.2.2.2.2 n11;have hrX:=(hsX mr hmA).trans hrA;have hbX:=(hsX (H.length+1) z8).trans hrb;exact bH (aG sV qK qR (hp 2 rfl) hrX hbX jZ) ⟨d,hg,cU 3 45⟩
       ·
        intro m d HX hm hp hno hge hg;have n11:=hno 11 rfl;have hsX:=hg.2.2.2.2 n11;have hrX:=(hsX mr hmA).trans hrA;have hbX:=(hsX (H.length+1) z8).trans hrb;exact bH (aG jH qU qK qR (hp 3 rfl) hrX (aS hbX jZ)) ⟨d,hg,cU 4 46⟩
       ·
        intro m d HX hm hp hno hge hg;have n11:=hno 11 rfl;have hsX:=hg.2.2.2.2 n11;have hrX:=(hsX mr hmA).trans hrA;have hbX:=(hsX (H.length+1) z8).trans hrb;have m4:=hp 4 rfl;have n8:=hno 8 rfl;have n11:=hno 11 rfl;have hXe:=hg.1 hm;refine oW (cF qK qR m4 hrX hbX jZ) aEp (WF (M.ps) (by show _*48<=_;simp;omega) HX) ?_;rintro _ _ ⟨rfl,rfl⟩;rw[hXe];exact oN ⟨(),⟨λh=>Bool.noConfusion h,λ_ _=>rfl,oU n8,oU n11,λ_ j hj=>lO hj⟩,ZtE 5 47 n8⟩
       ·
        intro m d HX hm hp hno hge hg;have n11:=hno 11 rfl;have hsX:=hg.2.2.2.2 n11;have hrX:=(hsX mr hmA).trans hrA;have hbX:=(hsX (H.length+1) z8).trans hrb;exact bH (aG jH qK qR (hge 13 z7) hrX hbX jZ) ⟨d,hg,cU 6 48⟩
       ·
        intro m d HX hm hp hno hge hg;have n11:=hno 11 rfl;have hsX:=hg.2.2.2.2 n11;have hrX:=(hsX mr hmA).trans hrA;have hbX:=(hsX (H.length+1) z8).trans hrb;exact bH (aG jH qU qK qR (hp 6 rfl) hrX (aS hbX jZ)) ⟨d,hg,cU 7 49⟩
       ·
        intro m d HX hm hp hno hge hg;have n11:=hno 11 rfl;have hsX:=hg.2.2.2.2 n11;have hrX:=(hsX mr hmA).trans hrA;have hbX:=(hsX (H.length+1) z8).trans hrb;have m5:=hp 5 rfl;have m7:=hp 7 rfl;have n11:=hno 11 rfl;rw[hg.2.1 m5 hm];refine kV (enc:=Rq.enc) (xs:=M.ps) (ys:= [e.req]) (sz:=5) (tl:=.full) Rq.enc_len AR (bP (aS qK qR)) rfl z7 z7 (dW (bR qK qR m5)) (dW (bR qK qR m7)) kD rfl z7 (by show _*48<=_;simp;omega) (by simp;omega) (by rw[kD];rfl) CT rfl ?_;refine rW ?_;exact oN ⟨(),⟨oU m5,λ_ h=>Bool.noConfusion h,λ_ _=>rfl,oU n11,λ_ j hj=>lO hj⟩,TH 8 50⟩
       ·
        intro m d HX hm hp hno hge hg;have n11:=hno 11 rfl;have hsX:=hg.2.2.2.2 n11;have hrX:=(hsX mr hmA).trans hrA;have hbX:=(hsX (H.length+1) z8).trans hrb;exact bH (cF qK qR (hp 0 rfl) hrX hbX jZ) ⟨d,hg,cU 9 51⟩
       ·
        intro m d HX hm hp hno hge hg;have n11:=hno 11 rfl;have hsX:=hg.2.2.2.2 n11;have hrX:=(hsX mr hmA).trans hrA;have hbX:=(hsX (H.length+1) z8).trans hrb;exact bH (aG sV qK qR (hp 9 rfl) hrX hbX jZ) ⟨d,hg,cU 10 52⟩
       ·
        intro m d HX hm hp hno hge hg;have n11:m 11=false:=hm;have hsX:=hg.2.2.2.2 n11;have hrX:=(hsX mr hmA).trans hrA;have hbX:=(hsX (H.length+1) z8).trans hrb;have m5:=hp 5 rfl;have m8:=hp 8 rfl;rw[hg.2.2.1 m8 hm];have hrY:(pN (M.ps++ [e.req]) 5 HA)[mr]? =some (.row [.slice (M.ms.map Md.enc) t1, .slice (M.vs.map aE) t2, .slice (M.ps.map Rq.enc) t3, .int .i64 M.rev, .fn (.func 6) [] [], .fn (.func 24) [] [], .fn (.func 25) [] []]):=(lO hmA).trans hrA;have nmY:(mr=(pN (M.ps++ [e.req]) 5 HA).length)=False:=by have:=mC (M.ps++ [e.req]) 5 HA;simp;omega
        refine bH (aG jH qU qK qR m5 m8 (cF (hp 10 rfl) hrX hbX jZ hrY nmY)) ?_;exact⟨(),⟨oU m5,λ_ h=>absurd (h.symm.trans m8) z7,λ_ h=>Bool.noConfusion h,λ_=>rfl,λh=>Bool.noConfusion h⟩,Zt0 11⟩
       intro d HF hg;have hF:=hg.2.2.2.1 rfl;have hFl:HA.length<=HF.length:=by rw[hF,lS];exact mC _ _ _
       have hFr:HF[mr]? =some (.row [.slice (M.ms.map Md.enc) t1, .slice (M.vs.map aE) t2, .slice ((M.ps++ [e.req]).map Rq.enc) .none, .int .i64 M.rev, .fn (.func 6) [] [], .fn (.func 24) [] [], .fn (.func 25) [] []]):=by rw[hF];exact aM4 (aMs hmA (mC _ _ _))
       have hFs:∀j,j<HA.length->j≠mr->HF[j]? =HA[j]? :=λj hj hn=>by rw[hF,aM5 (Ne.symm hn)];exact lO hj
       clear hF hg;refine eG (F:=gM [(0, .optr mr 0)]) (cO ⟨rfl,trivial⟩) ?_;refine gQ [] (bD qK qR hrow hrowL) ?_;refine aV (bD qK qR hrow hrowL) ?_
       repeat refine wS ?_
       refine wT ⟨.inr rfl,_,(bI (.tmp 4) (.tmp 5) rfl (aM z7) (aM z7)), ?_⟩;exact⟨rfl,⟨t1,t2, .none,hFr,hM.t1,hM.t2,trivial⟩,z8,λj hj hn=>(hFs j z8 hn).trans (hsA j hj)⟩
   ·
    rw[if_neg (by rw[b3];simp)];refine aV (bL y3 qK qR hrow hrowL) ?_;refine gG (bD qK qR hrow hrowL) (λb7=> ?_) (λb7=> ?_)
    ·
     rw[if_pos b7];refine eA 5 (cF y3 jH qK qR hrow hrowL) ?_;refine qT (bD qK qR hrow hrowL) aEb (SH hM1 e.req.cl e.req.id z8) ?_;refine bH (bD qK qR hrow hrowL) ?_;refine aV (bL y3 qK qR hrow hrowL) ?_;refine gG (bD qK qR hrow hrowL) (λb8=> ?_) (λb8=> ?_)
     ·
      have hq:rT M.ps e.req.cl e.req.id=(5,M.ps):=by unfold rT;rw[if_pos (of_decide_eq_true b8)]
      rw[hq];refine aV (bD qK qR hrow hrowL) ?_
      repeat refine wS ?_
      refine wT ⟨.inr rfl,_,(bI (.tmp 4) (.tmp 5) rfl (aM z7) (aM z7)), ?_⟩;exact⟨rfl,⟨t1,t2,t3,hM1⟩,zz,λj hj _=>aM0 hj⟩
     ·
      have hi0:0<=cN (sT e.req.cl e.req.id) M.ps:=by have:=of_decide_eq_false b8;omega
      obtain⟨i,hi⟩:∃i:Nat,cN (sT e.req.cl e.req.id) M.ps=(i:Int):=⟨(cN (sT e.req.cl e.req.id) M.ps).toNat,z8⟩;have hil:i<M.ps.length:=by have:=rZ (p:=sT e.req.cl e.req.id) (xs:=M.ps) hi0;omega
      have hq:rT M.ps e.req.cl e.req.id=(0,M.ps.take i++M.ps.drop (i+1)):=by unfold rT;rw[if_neg z8,hi,tN,List.eraseIdx_eq_take_drop_succ]
      rw[hq,hi];have gw:IntKind.i64.wrap ((i:Int)+1)=((i+1:Nat):Int):=by rw[cL z8 z8];omega
      obtain⟨tkA,gtlA,htkA⟩:∃tk,(if i=(M.ps).length/\t3=bE.full then bE.full else bE.none)=tk/\uT tk:=⟨_,rfl,by split<;>trivial⟩;obtain⟨trA,gtrA,htrA⟩:∃tr,(if t3=bE.full then bE.full else bE.none)=tr/\uT tr:=⟨_,rfl,by split<;>trivial⟩;have qA:=aI (show((0:Int)<=(i:Int)/\(i:Int)<=((M.ps).length:Int))=True by simp;omega) (aI (show((0:Int)<=((i+1:Nat):Int)/\((i+1:Nat):Int)<=((M.ps).length:Int))=True by simp;omega) (aI (show(∀e∈(M.ps).map Rq.enc,e.cells.length=5)=True from eq_true λe he=>by obtain⟨v,_,rfl⟩:=aNy.1 he;exact Rq.enc_len v) (aI (show((M.ps).map Rq.enc).take i=((M.ps).take i).map Rq.enc from List.map_take.symm) (aI (show(((M.ps).map Rq.enc).take (M.ps).length).drop (i+1)=((M.ps).drop (i+1)).map Rq.enc by rw[List.take_of_length_le zz,List.map_drop]) (aI gtlA gtrA)))));refine dI (λHA=>HA.length=H.length+2/\(∀j,j<H.length->HA[j]? =H[j]?)/\HA[H.length+1]? =some (.row [.int .i64 e.req.cl, .int .i64 e.req.id, .int .i64 e.req.q, .int .i64 e.req.arg, .str e.req.name])) ⟨zz,λj hj=>aM0 hj,zz⟩ ?_;rintro HA ⟨hlA,hsA,hrb⟩;have hrA:=(hsA mr hml).trans hrow;have hmA:mr<HA.length:=z8
      repeat refine wS ?_
      refine wK ?_
      repeat refine wS ?_
      refine lM (D:=Unit) 19 (by kernel_rfl) rfl [0,0,2,6,14,0,62,126,0,256,768,1792,0,4096,16128,32766,65535,131071,262143] (by kernel_rfl) [(19,0),(20,6),(21,7),(0,63),(1,64),(2,65),(3,66),(4,67),(5,68),(6,69),(7,70),(8,71),(9,72),(10,73),(11,74),(12,75),(13,76),(14,77),(15,78),(16,79),(17,80)] (λd=> [.optr mr 0, .optr (H.length+1) 0, .int .i64 (i:Int), .optr mr 0, .optr mr 0, .optr mr 0, .optr mr 2, .slice ((M.ps).map Rq.enc) t3, .int .i64 (i:Int), .slice (((M.ps).take i).map Rq.enc) tkA, .slice (((M.ps).take i).map Rq.enc) (xN ((M.ps).take i) HA.length), .optr mr 0, .optr mr 0, .optr mr 2, .slice ((M.ps).map Rq.enc) t3, .int .i64 (i:Int), .int .i64 ((i+1:Nat):Int), .slice (((M.ps).drop (i+1)).map Rq.enc) trA, .slice (((M.ps).take i++(M.ps).drop (i+1)).map Rq.enc) .none, .optr mr 0, .optr mr 2]) (λd m HX=>((m 7=false->HX=HA)/\(m 7=true->m 15=false->HX=pN (M.ps.take i) 5 HA)/\(m 15=true->m 18=false->HX=pN (M.ps.take i++M.ps.drop (i+1)) 5 HA)/\(m 18=true->HX=(pN (M.ps.take i++M.ps.drop (i+1)) 5 HA).set mr (.row [.slice (M.ms.map Md.enc) t1, .slice (M.vs.map aE) t2, .slice ((M.ps.take i++M.ps.drop (i+1)).map Rq.enc) .none, .int .i64 M.rev, .fn (.func 6) [] [], .fn (.func 24) [] [], .fn (.func 25) [] []]))/\(m 18=false->∀j,j<HA.length->HX[j]? =HA[j]?))) () ⟨.inr rfl, .inr rfl, .inr rfl, .inl z7, .inl z7, .inl z7, .inl z7, .inl z7, .inl z7, .inl z7, .inl z7, .inl z7, .inl z7, .inl z7, .inl z7, .inl z7, .inl z7, .inl z7, .inl z7, .inl z7, .inl z7,trivial⟩ (⟨λ_=>rfl,λh=>Bool.noConfusion h,λh=>Bool.noConfusion h,λh=>Bool.noConfusion h,λ_ _ _=>rfl⟩) ⟨?_, ?_, ?_, ?_, ?_, ?_, ?_, ?_, ?_, ?_, ?_, ?_, ?_, ?_, ?_, ?_, ?_, ?_, ?_,trivial⟩ ?_
      ·
       intro m d HX hm hp hno hge hg;have n18:=hno 18 rfl;have hsX:=hg.2.2.2.2 n18;have hrX:=(hsX mr hmA).trans hrA;exact bH (aG qK qR (hge 19 z7) hrX qA gw jZ) ⟨d,hg,cU 0 63⟩
      ·
       intro m d HX hm hp hno hge hg;have n18:=hno 18 rfl;have hsX:=hg.2.2.2.2 n18;have hrX:=(hsX mr hmA).trans hrA;exact bH (aG qK qR (hge 19 z7) hrX qA gw jZ) ⟨d,hg,cU 1 64⟩
      ·
       intro m d HX hm hp hno hge hg;have n18:=hno 18 rfl;have hsX:=hg.2.2.2.2 n18;have hrX:=(hsX mr hmA).trans hrA;exact bH (aG qK qR (hp 1 rfl) hrX qA gw jZ) ⟨d,hg,cU 2 65⟩
      ·
       intro m d HX hm hp hno hge hg;have n18:=hno 18 rfl;have hsX:=hg.2.2.2.2 n18;have hrX:=(hsX mr hmA).trans hrA;exact bH (aG sV qK qR (hp 2 rfl) hrX qA (aS gw jZ)) ⟨d,hg,cU 3 66⟩
      ·
       intro m d HX hm hp hno hge hg;have n18:=hno 18 rfl;have hsX:=hg.2.2.2.2 n18;have hrX:=(hsX mr hmA).trans hrA;exact bH (aG jH qU qK qR (hp 3 rfl) hrX (bR qA gw jZ)) ⟨d,hg,cU 4 67⟩
      ·
       intro m d HX hm hp hno hge hg;have n18:=hno 18 rfl;have hsX:=hg.2.2.2.2 n18;have hrX:=(hsX mr hmA).trans hrA;exact bH (aG qK qR (hge 21 z7) hrX qA gw jZ) ⟨d,hg,cU 5 68⟩
      ·
       intro m d HX hm hp hno hge hg;have n18:=hno 18 rfl;have hsX:=hg.2.2.2.2 n18;have hrX:=(hsX mr hmA).trans hrA;exact bH (aG jH qU qK qR (hp 4 rfl) (hp 5 rfl) (bD hrX qA gw jZ)) ⟨d,hg,cU 6 69⟩
      ·
       intro m d HX hm hp hno hge hg;have n18:=hno 18 rfl;have hsX:=hg.2.2.2.2 n18;have hrX:=(hsX mr hmA).trans hrA;have m6:=hp 6 rfl;have n15:=hno 15 rfl;have n18:=hno 18 rfl;have hXe:=hg.1 hm;refine oW (aG qK qR m6 hrX qA gw jZ) aEp (WF (M.ps.take i) (by show _*48<=_;simp;omega) HX) ?_;rintro _ _ ⟨rfl,rfl⟩;rw[hXe];exact oN ⟨(),⟨λh=>Bool.noConfusion h,λ_ _=>rfl,oU n15,oU n18,λ_ j hj=>lO hj⟩,ZtE 7 70 n15⟩
      ·
       intro m d HX hm hp hno hge hg;have n18:=hno 18 rfl;have hsX:=hg.2.2.2.2 n18;have hrX:=(hsX mr hmA).trans hrA;exact bH (aG qK qR (hge 19 z7) hrX qA gw jZ) ⟨d,hg,cU 8 71⟩
      ·
       intro m d HX hm hp hno hge hg;have n18:=hno 18 rfl;have hsX:=hg.2.2.2.2 n18;have hrX:=(hsX mr hmA).trans hrA;exact bH (aG qK qR (hp 8 rfl) hrX qA gw jZ) ⟨d,hg,cU 9 72⟩
      ·
       intro m d HX hm hp hno hge hg;have n18:=hno 18 rfl;have hsX:=hg.2.2.2.2 n18;have hrX:=(hsX mr hmA).trans hrA;exact bH (aG sV qK qR (hp 9 rfl) hrX qA (aS gw jZ)) ⟨d,hg,cU 10 73⟩
      ·
       intro m d HX hm hp hno hge hg;have n18:=hno 18 rfl;have hsX:=hg.2.2.2.2 n18;have hrX:=(hsX mr hmA).trans hrA;exact bH (aG jH qU qK qR (hp 10 rfl) hrX (bR qA gw jZ)) ⟨d,hg,cU 11 74⟩
      ·
       intro m d HX hm hp hno hge hg;have n18:=hno 18 rfl;have hsX:=hg.2.2.2.2 n18;have hrX:=(hsX mr hmA).trans hrA;exact bH (aG qK qR (hge 21 z7) hrX qA gw jZ) ⟨d,hg,cU 12 75⟩
      ·
       intro m d HX hm hp hno hge hg;have n18:=hno 18 rfl;have hsX:=hg.2.2.2.2 n18;have hrX:=(hsX mr hmA).trans hrA;exact bH (aG y3 qK qR (hp 12 rfl) hrX qA (aS gw jZ)) ⟨d,hg,cU 13 76⟩
      ·
       intro m d HX hm hp hno hge hg;have n18:=hno 18 rfl;have hsX:=hg.2.2.2.2 n18;have hrX:=(hsX mr hmA).trans hrA;exact bH (aG jH qU qK qR (hp 11 rfl) (hp 13 rfl) (bD hrX qA gw jZ)) ⟨d,hg,cU 14 77⟩
      ·
       intro m d HX hm hp hno hge hg;have n18:=hno 18 rfl;have hsX:=hg.2.2.2.2 n18;have hrX:=(hsX mr hmA).trans hrA;have m7:=hp 7 rfl;have m14:=hp 14 rfl;have n18:=hno 18 rfl;rw[hg.2.1 m7 hm];refine kV (enc:=Rq.enc) (xs:=M.ps.take i) (ys:=M.ps.drop (i+1)) (sz:=5) (tl:=trA) Rq.enc_len AR (bP (aS qK qR)) rfl z7 z7 (dW (bR qK qR m7)) (dW (bR qK qR m14)) kD rfl z7 (by show _*48<=_;simp;omega) (by simp;omega) (by rw[kD];rfl) CT rfl ?_;refine rW ?_;exact oN ⟨(),⟨oU m7,λ_ h=>Bool.noConfusion h,λ_ _=>rfl,oU n18,λ_ j hj=>lO hj⟩,TH 15 78⟩
      ·
       intro m d HX hm hp hno hge hg;have n18:=hno 18 rfl;have hsX:=hg.2.2.2.2 n18;have hrX:=(hsX mr hmA).trans hrA;exact bH (aG qK qR (hp 0 rfl) hrX qA gw jZ) ⟨d,hg,cU 16 79⟩
      ·
       intro m d HX hm hp hno hge hg;have n18:=hno 18 rfl;have hsX:=hg.2.2.2.2 n18;have hrX:=(hsX mr hmA).trans hrA;exact bH (aG sV qK qR (hp 16 rfl) hrX qA (aS gw jZ)) ⟨d,hg,cU 17 80⟩
      ·
       intro m d HX hm hp hno hge hg;have n18:m 18=false:=hm;have hsX:=hg.2.2.2.2 n18;have hrX:=(hsX mr hmA).trans hrA;have m7:=hp 7 rfl;have m15:=hp 15 rfl;rw[hg.2.2.1 m15 hm];have hrY:(pN (M.ps.take i++M.ps.drop (i+1)) 5 HA)[mr]? =some (.row [.slice (M.ms.map Md.enc) t1, .slice (M.vs.map aE) t2, .slice (M.ps.map Rq.enc) t3, .int .i64 M.rev, .fn (.func 6) [] [], .fn (.func 24) [] [], .fn (.func 25) [] []]):=(lO hmA).trans hrA;have nmY:(mr=(pN (M.ps.take i++M.ps.drop (i+1)) 5 HA).length)=False:=by have:=mC (M.ps.take i++M.ps.drop (i+1)) 5 HA;simp;omega
       refine bH (aG jH qU qK qR m7 m15 (aG (hp 17 rfl) hrX qA gw jZ hrY nmY)) ?_;exact⟨(),⟨oU m7,λ_ h=>absurd (h.symm.trans m15) z7,λ_ h=>Bool.noConfusion h,λ_=>rfl,λh=>Bool.noConfusion h⟩,Zt0 18⟩
      intro d HF hg;have hF:=hg.2.2.2.1 rfl;have hFl:HA.length<=HF.length:=by rw[hF,lS];exact mC _ _ _
      have hFr:HF[mr]? =some (.row [.slice (M.ms.map Md.enc) t1, .slice (M.vs.map aE) t2, .slice ((M.ps.take i++M.ps.drop (i+1)).map Rq.enc) .none, .int .i64 M.rev, .fn (.func 6) [] [], .fn (.func 24) [] [], .fn (.func 25) [] []]):=by rw[hF];exact aM4 (aMs hmA (mC _ _ _))
      have hFs:∀j,j<HA.length->j≠mr->HF[j]? =HA[j]? :=λj hj hn=>by rw[hF,aM5 (Ne.symm hn)];exact lO hj
      clear hF hg;refine eG (F:=gM [(0, .optr mr 0),(6, .optr (H.length+1) 0)]) (cO ⟨rfl,rfl,trivial⟩) ?_;have hFb:=(hFs (H.length+1) z8 z8).trans hrb;refine gQ [0,6] (bD qK qR hrow hrowL) ?_
      repeat refine wS ?_
      refine eJ (by kernel_rfl) ?_;refine iI (aG y3 jH y35 sV qO qK (bL qR hrow hrowL hFr hFb)) ?_
      repeat refine wS ?_
      refine wT ⟨.inr rfl,_,(bI (.tmp 4) (.tmp 5) rfl (aM z7) (aM z7)), ?_⟩;exact⟨rfl,⟨t1,t2, .none,hFr,hM.t1,hM.t2,trivial⟩,z8,λj hj hn=>(hFs j z8 hn).trans (hsA j hj)⟩
    ·
     rw[if_neg (by rw[b7];simp)];refine aV (bL y3 qK qR hrow hrowL) ?_
     repeat refine wS ?_
     refine nP (σ:=Bool) (λ(s:Bool)=> [(0, .optr mr 0),(3, .optr H.length 0),(6, .optr (H.length+1) 0),(11,aE e.kind),(91, .bool s)]) (λ(s:Bool)=>λHB=>HB=(H++ [.row [.int .i64 e.kind, .int .i64 e.n, .int .i64 e.ver, .str e.name, .str e.text, .slice (e.edits.map Te.enc) .none, .int .i64 e.req.cl, .int .i64 e.req.id, .int .i64 e.req.q, .int .i64 e.req.arg, .str e.req.name], .row [.int .i64 e.req.cl, .int .i64 e.req.id, .int .i64 e.req.q, .int .i64 e.req.arg, .str e.req.name]])/\s=(decide (e.kind=6)||decide (e.kind=7))) ?_ ?_
     ·
      refine gG (bD qK qR hrow hrowL) (λb9=> ?_) (λb9=> ?_)
      ·
       repeat refine wS ?_
       refine wK ?_;exact⟨decide (e.kind=6),(by repeat (first|exact trivial|refine⟨rfl, ?_⟩)),rfl,by rw[b9];rfl⟩
      ·
       refine aV (bL y3 qK qR hrow hrowL) ?_;exact⟨decide (e.kind=7),(by repeat (first|exact trivial|refine⟨rfl, ?_⟩)),rfl,by rw[b9];rfl⟩
     ·intro s HB hg;obtain⟨rfl,hs⟩:=hg;rw[<-hs];refine gG (bD qK qR hrow hrowL) (λb10=> ?_) (λb10=> ?_)
      ·
       rw[if_pos b10];refine aV (cF y3 qQ qK qR hrow hrowL) ?_;refine gG (bD qK qR hrow hrowL) (λb11=> ?_) (λb11=> ?_)
       ·
        rw[if_pos b11];refine aV (bD qK qR hrow hrowL) ?_
        repeat refine wS ?_
        refine wT ⟨.inr rfl,_,(bI (.tmp 4) (.tmp 5) rfl (aM z7) (aM z7)), ?_⟩;exact⟨rfl,⟨t1,t2,t3,hM1⟩,zz,λj hj _=>aM0 hj⟩
       ·
        rw[if_neg (by rw[b11];simp)]
        repeat refine wS ?_
        refine wK ?_;refine aV (bD qK qR hrow hrowL) ?_
        repeat refine wS ?_
        refine wT ⟨.inr rfl,_,(bI (.tmp 4) (.tmp 5) rfl (aM z7) (aM z7)), ?_⟩;exact⟨rfl,⟨t1,t2,t3,hM1⟩,zz,λj hj _=>aM0 hj⟩
      ·
       rw[if_neg (by rw[b10];simp)]
       repeat refine wS ?_
       refine wK ?_;refine aV (bD qK qR hrow hrowL) ?_
       repeat refine wS ?_
       refine wT ⟨.inr rfl,_,(bI (.tmp 4) (.tmp 5) rfl (aM z7) (aM z7)), ?_⟩;exact⟨rfl,⟨t1,t2,t3,hM1⟩,zz,λj hj _=>aM0 hj⟩
end Go.Abs
namespace Go.Abs
open Go.Proofs Go.Memo
def aFd(r:Rq):Rq:=if(decide (r.q=8)&&decide (r.arg>300))=true then⟨r.cl,r.id,r.q,300,r.name⟩else r
def CS(e:Ev):Ev:=⟨e.kind,e.n,e.ver,e.name,e.text.take (min e.text.length 150),e.edits,aFd e.req⟩
theorem WD(a:Ev):a.enc.cells.all PV.isCell=true:=by rw[Ev.enc_cells];rfl
theorem aDb(es:List Ev)(H:aH)(hx:es.length<=maxLen):aR Tryz.prog 8 [.slice (es.map Ev.enc) .none,aE 15] H (λr H'=>(∃tl,r= .slice (((es.take 15).map CS).map Ev.enc) tl)/\H.length<=H'.length/\∀j,j<H.length->H'[j]? =H[j]?):=by
 have em:maxLen=9223372036854775807:=z7
 obtain⟨k,hk⟩:∃k,k=min es.length 15:=⟨_,rfl⟩;have hkt:es.take 15=es.take k:=by rw[hk];rcases Nat.le_total es.length 15 with h|h<;>simp[h,List.take_of_length_le]
 have gmn:min (es.length:Int) 15=(k:Int):=z8
 have gk1:((0:Int)<=(k:Int)/\(k:Int)<=(es.length:Int))=True:=by simp;omega
 have gkt:(es.map Ev.enc).take k=(es.take k).map Ev.enc:=List.map_take.symm;have gkn:(es.take k).length=k:=by simp;omega
 have gal:(∀e∈es.map Ev.enc,e.cells.length=11)=True:=eq_true λe he=>by obtain⟨v,_,rfl⟩:=aNy.1 he;exact Ev.enc_len v
 rw[hkt];refine aF (N:=45) Tryz.func8 rfl rfl zz λhb'=> ?_;refine aV qK ?_;refine aV qK ?_
 repeat refine wS ?_
 refine eE (by simp only[kA,seval,y3,y22,qQ,aE,qK,gmn,gk1,gkt,gkn,gal,jZ,reduceCtorEq,and_false]<;>with_reducible rfl) z7 ?_
 repeat refine wS ?_
 refine bJ ?_;refine fF (σ:=Nat×PV×List Nat) (λ(z:Nat×PV×List Nat)=> [(13, .slice ((es.take k).map Ev.enc) .none),(14,aE (k:Int)),(15,aE (z.1:Int)),(5,z.2.1)]) (λ(z:Nat×PV×List Nat)=>λH1=>z.1<=k/\fV Ev.enc 11 H1 z.2.1 ((es.take z.1).map CS) z.2.2/\(∀i∈z.2.2,H.length<=i)/\H.length<=H1.length/\∀j,j<H.length->H1[j]? =H[j]?) (λ(z:Nat×PV×List Nat)=>k-z.1) ((0, .slice [] .full,[])) ⟨(dJ qK),(dJ qK),(dJ qK),(dJ qK),trivial⟩ (⟨aNs _, .nil,(λi hi=>by cases hi),aMq _,λ_ _=>rfl⟩) ?_;intro z H1 hg;obtain⟨i,cv,cid⟩:=z;obtain⟨HA,rfl⟩:∃HA,HA=H1:=⟨_,rfl⟩;obtain⟨hik,hcv,hci,hlA,hsA⟩:=hg;simp only at hik hcv hci hlA hsA;refine aV (aS y3 qK) ?_;refine gG qK (λbt16=> ?_) (λbt16=> ?_)
 ·
  have hlt:i<k:=by have:=of_decide_eq_true bt16;omega
  have g1:((0:Int)<=(i:Int)/\(i:Int)<((es.take k).length:Int))=True:=by rw[gkn];simp;omega
  have g2:=dF Ev.enc (xs:=es.take k) (i:=i) z8;rw[List.getElem_take]at g2;obtain⟨e,he⟩:∃r,r=es[i]'z8:=⟨_,rfl⟩;rw[<-he,Ev.enc_eq]at g2;obtain⟨tn,htn⟩:∃n,n=min e.text.length 150:=⟨_,rfl⟩;have gtm:min (e.text.length:Int) 150=(tn:Int):=z8
  have gtb:((0:Int)<=(tn:Int)/\(tn:Int)<=(e.text.length:Int))=True:=by simp;omega
  have gw:IntKind.i64.wrap ((i:Int)+1)=((i+1:Nat):Int):=by rw[cL z8 z8];omega
  repeat refine wS ?_
  refine wK ?_
  repeat refine wS ?_
  refine bJ ?_;refine aV (cF y22 qQ qK g1 g2 jZ) ?_;refine aV (aG y3 y9 qQ qK gtm gtb (aS jZ @BP)) ?_;refine tJ (bD y3 jH qQ qK) ?_;refine gG qK (λb1=> ?_) (λb1=> ?_)
  ·
   refine gQ [5,7,13,14,15] qK ?_;refine aV (bD y3 jH qQ qK) ?_;refine eA 3 (bR y22 qQ qK) ?_;refine dX (enc:=Ev.enc) (sz:=11) Ev.enc_len WD z7 (cv:=cv) (xs:=(es.take i).map CS) (cid:=cid) (bP qK) rfl z7 z7 (bK qK) (bK qK) (hcv.fr λj hj=>aM0 (hcv.lt j hj)) LA rfl (by show(_+1)*128<=_;simp;omega) (by simp;omega) (by rw[LA];rfl) XK rfl ?_;intro cv2 cid2 HB hk2 hi2 hl2 hs2;simp only[aNo,aM7,aOa,aNn]at hi2 hl2 hs2;refine bH qK ?_;refine aV (bR y3 qK gw) ?_
   try simp only[bQ,cB]
   have hre:CS e=⟨e.kind,e.n,e.ver,e.name,e.text.take tn,e.edits,⟨e.req.cl,e.req.id,e.req.q,300,e.req.name⟩⟩:=by unfold CS aFd;rw[if_pos b1,htn]
   exact⟨(i+1,cv2,cid2),by show _<_;omega,(by repeat (first|exact trivial|refine⟨rfl, ?_⟩)),hlt,by rw[List.take_succ_eq_append_getElem z8,aN3,<-he,List.map_singleton,hre];exact hk2,λj hj=>(hi2 j hj).elim (λh=>hci j h) (λh=>z8),by show H.length<=HB.length;omega,λj hj=>((hs2 j z8 (λh=>by have:=hci j h;omega)).trans (aM0 z8)).trans (hsA j hj)⟩
  ·
   repeat refine wS ?_
   refine wK ?_;refine gQ [5,7,13,14,15] qK ?_;refine eA 3 (bR y22 qQ qK) ?_;refine dX (enc:=Ev.enc) (sz:=11) Ev.enc_len WD z7 (cv:=cv) (xs:=(es.take i).map CS) (cid:=cid) (bP qK) rfl z7 z7 (bK qK) (bK qK) (hcv.fr λj hj=>aM0 (hcv.lt j hj)) LA rfl (by show(_+1)*128<=_;simp;omega) (by simp;omega) (by rw[LA];rfl) XK rfl ?_;intro cv2 cid2 HB hk2 hi2 hl2 hs2;simp only[aNo,aM7,aOa,aNn]at hi2 hl2 hs2;refine bH qK ?_;refine aV (bR y3 qK gw) ?_
   try simp only[bQ,cB]
   have hre:CS e=⟨e.kind,e.n,e.ver,e.name,e.text.take tn,e.edits,e.req⟩:=by unfold CS aFd;rw[if_neg (by rw[b1];simp),htn]
   exact⟨(i+1,cv2,cid2),by show _<_;omega,(by repeat (first|exact trivial|refine⟨rfl, ?_⟩)),hlt,by rw[List.take_succ_eq_append_getElem z8,aN3,<-he,List.map_singleton,hre];exact hk2,λj hj=>(hi2 j hj).elim (λh=>hci j h) (λh=>z8),by show H.length<=HB.length;omega,λj hj=>((hs2 j z8 (λh=>by have:=hci j h;omega)).trans (aM0 z8)).trans (hsA j hj)⟩
 ·
  have hge:=of_decide_eq_false bt16;obtain rfl:i=k:=z8
  repeat refine wS ?_
  refine dO ?_;simp only[bQ,cB,reduceIte,Nat.reduceEqDiff,aOf,if_true,if_false]
  repeat refine wS ?_
  refine iN (xs:=(es.take i).map CS) Ev.enc_len z7 5 hcv rfl λHQ hlQ hsQ=> ?_;refine eE (fI qK) z7 ?_
  repeat refine wS ?_
  refine wT ⟨.inr rfl,_,rfl, ?_⟩;exact⟨⟨_,rfl⟩,z8,λj hj=>(hsQ j (λh=>by have:=hci j h;omega)).trans (hsA j hj)⟩
end Go.Abs
namespace Go.Abs
open Go.Proofs Go.Memo
theorem wH:∀(a b:List UInt8),Lib.compareBytes b a= -Lib.compareBytes a b
 | [],[]=>rfl
 | [],_::_=>rfl
 |_::_,[]=>rfl
 |a::xs,b::ys=>by
  unfold Lib.compareBytes
  by_cases h1:a<b
  ·have h2:¬b<a:=λh=>by rw[UInt8.lt_iff_toNat_lt]at h h1;omega
   rw[if_pos h1,if_neg h2,if_pos h1];rfl
  ·by_cases h2:b<a
   ·rw[if_pos h2,if_neg h1,if_pos h2]
   ·rw[if_neg h2,if_neg h1,if_neg h1,if_neg h2];exact wH xs ys
theorem pE:∀(a:List UInt8),Lib.compareBytes a a=0
 | []=>rfl
 |a::xs=>by
  unfold Lib.compareBytes;have h:¬a<a:=λh=>by rw[UInt8.lt_iff_toNat_lt]at h;omega
  rw[if_neg h,if_neg h];exact pE xs
theorem NZ:∀ {a b:List UInt8},Lib.compareBytes a b=0->a=b
 | [],[],_=>rfl
 | [],_::_,h=>by cases h
 |_::_,[],h=>by cases h
 |a::xs,b::ys,h=>by
  unfold Lib.compareBytes at h
  split at h
  ·cases h
  ·split at h
   ·cases h
   ·rename_i h1 h2;rw[UInt8.lt_iff_toNat_lt]at h1 h2;rw[UInt8.toNat_inj.1 (show a.toNat=b.toNat by omega),NZ h]
theorem xZ:∀ {a b c:List UInt8},Lib.compareBytes a b<0->Lib.compareBytes b c<0->Lib.compareBytes a c<0
 | [],[],_,h,_=>by cases h
 | [],_::_,[],_,h=>by cases h
 | [],_::_,_::_,_,_=>by show(-1:Int)<0;decide
 |_::_,[],_,h,_=>by cases h
 |_::_,_::_,[],_,h=>by cases h
 |a::xs,b::ys,c::zs,h,k=>by
  unfold Lib.compareBytes at h k⊢;simp only[UInt8.lt_iff_toNat_lt]at h k⊢
  by_cases h1:a.toNat<b.toNat
  ·by_cases k1:b.toNat<c.toNat
   ·rw[if_pos z8];decide
   ·rw[if_neg k1]at k
    by_cases k2:c.toNat<b.toNat
    ·rw[if_pos k2]at k;cases k
    ·rw[if_pos z8];decide
  ·rw[if_neg h1]at h
   by_cases h2:b.toNat<a.toNat
   ·rw[if_pos h2]at h;cases h
   ·rw[if_neg h2]at h
    by_cases k1:b.toNat<c.toNat
    ·rw[if_pos z8];decide
    ·rw[if_neg k1]at k
     by_cases k2:c.toNat<b.toNat
     ·rw[if_pos k2]at k;cases k
     ·rw[if_neg k2]at k;rw[if_neg z8,if_neg z8];exact xZ h k
theorem KB:∀(a b:List UInt8),Op.bytesLess a b=decide (Lib.compareBytes a b<0)
 | [],[]=>rfl
 | [],_::_=>rfl
 |_::_,[]=>rfl
 |a::xs,b::ys=>by
  unfold Op.bytesLess Lib.compareBytes
  by_cases h1:a<b
  ·rw[if_pos h1,decide_eq_true h1];rfl
  ·rw[if_neg h1,decide_eq_false h1]
   by_cases h2:b<a
   ·have h3:(a==b)=false:=by
     rw[beq_eq_false_iff_ne];rintro rfl;exact h1 h2
    rw[if_pos h2,h3];rfl
   ·have h3:a=b:=by
     rw[UInt8.lt_iff_toNat_lt]at h1 h2;exact UInt8.toNat_inj.1 z8
    rw[if_neg h2,h3,KB xs ys];simp
theorem aAy(a b:List UInt8):KS a b=decide (Lib.compareBytes b a<0):=by
 unfold KS;rw[KB,wH a b];have hd:(a==b)=decide (Lib.compareBytes a b=0):=by
  rw[aN1,beq_iff_eq,decide_eq_true_eq];exact⟨λh=>by rw[h];exact pE b,NZ⟩
 rw[hd];rw[aN1];simp;omega
def PB(ms:List Md):Prop:=ms.Pairwise λa b=>Lib.compareBytes a.name b.name<0
theorem IN{ms:List Md}(h:PB ms)(name:List UInt8):∀j (hj:j<ms.length),eM ms name<=j->¬Lib.compareBytes ms[j].name name<0:=by
 intro j hj hp hc;have hpl:eM ms name<ms.length:=z8
 have h0:¬Lib.compareBytes (ms[eM ms name]'hpl).name name<0:=by
  have:∀(l:List Md) (k:Nat) (hk:k<l.length),k=(l.takeWhile λm=>decide (Lib.compareBytes m.name name<0)).length->¬Lib.compareBytes l[k].name name<0:=by
   intro l
   induction l with
   |nil=>intro k hk;cases hk
   |cons a l ih=>
    intro k hk e;rw[List.takeWhile_cons]at e
    split at e
    ·cases k with
     |zero=>cases e
     |succ k=>exact ih k (by simpa using hk) (by simpa using e)
    ·rename_i ha;subst e;simpa using ha
  exact this ms (eM ms name) hpl rfl
 rcases aMo (eM ms name) j with hlt|hge
 ·have:=List.pairwise_iff_getElem.1 h (eM ms name) j hpl hj hlt;exact h0 (xZ this hc)
 ·have e:j=eM ms name:=z8
  subst e;exact h0 hc
theorem aB6{ms:List Md}(h:PB ms){name:List UInt8}{i:Nat}(hi:i<ms.length)(hn:ms[i].name=name):i=eM ms name:=by
 have h1:eM ms name<=i:=by
  rcases aMo i (eM ms name)with h1|h1
  ·have:=IH i hi h1;rw[hn,pE]at this;cases this
  ·exact h1
 rcases aMo (eM ms name) i with h2|h2
 ·have:=List.pairwise_iff_getElem.1 h (eM ms name) i z8 hi h2;rw[hn]at this;exact absurd this (IN h name _ z8 (aMq _))
 ·omega
def exI(ms:List Md)(name:List UInt8):Nat:=if 0<=cN (aO name) ms then 1 else 0
theorem JD{ms:List Md}(h:PB ms)(name:List UInt8):(0<=cN (aO name) ms/\cN (aO name) ms=(eM ms name:Int)/\∃hp:eM ms name<ms.length,(ms[eM ms name]'hp).name=name)\/(¬0<=cN (aO name) ms/\∀m∈ms,m.name≠name):=by
 rcases kY (aO name) ms with⟨e,ha⟩| ⟨i,hi,e,e2,_⟩
 ·refine .inr ⟨by rw[e];decide,λm hm hn=> ?_⟩;have:ms.any (aO name)=true:=List.any_eq_true.2 ⟨m,hm,decide_eq_true hn⟩;rw[ha]at this;cases this
 ·have hn:ms[i].name=name:=of_decide_eq_true e2;have hp:=aB6 h hi hn;subst hp;exact .inl ⟨by rw[e];omega,e,hi,hn⟩
theorem LF{ms:List Md}(h:PB ms)(name:List UInt8):∀m∈ms.drop (eM ms name+exI ms name),Lib.compareBytes name m.name<0:=by
 intro m hm;obtain⟨x,hx⟩:∃x,x=exI ms name:=⟨_,rfl⟩;rw[<-hx]at hm;obtain⟨k,hk,e⟩:=List.mem_drop_iff_getElem.1 hm;have h1:=IN h name (k+(eM ms name+x)) z8 z8;have e':ms[k+(eM ms name+x)]'z8=m:=by rw[<-e];congr 1;omega
 rw[e']at h1;unfold exI at hx;rcases JD h name with⟨h2,h3,hp,h4⟩| ⟨h2,h3⟩
 ·rw[if_pos h2]at hx;subst hx;have:=List.pairwise_iff_getElem.1 h (eM ms name) (k+(eM ms name+1)) hp z8 z8;rw[e',h4]at this;exact this
 ·have h5:=h3 m (by rw[<-e'];exact aNq _);have h6:Lib.compareBytes m.name name≠0:=λh=>h5 (NZ h);rw[wH m.name name];omega
theorem AU{ms:List Md}(name:List UInt8):∀m∈ms.take (eM ms name),Lib.compareBytes m.name name<0:=by
 intro m hm;obtain⟨k,hk,e⟩:=List.mem_take_iff_getElem.1 hm;rw[<-e];exact IH k z8 z8
theorem aF9{name:List UInt8}{q:MQ}{m:Md}{v:Int}(h:Lib.compareBytes m.name name<0):UE name q m v=OQ q m v:=by
 have h1:m.name≠name:=λe=>by rw[e,pE]at h;cases h
 unfold UE mwG;rw[decide_eq_false h1,aAy,decide_eq_false (by rw[wH m.name name];omega)];rfl
theorem aAa{name:List UInt8}{q:MQ}{m:Md}{v:Int}(h:Lib.compareBytes name m.name<0):UE name q m v=OQ (if q.2.2.2=true then q else VE name q) m v:=by
 have h1:m.name≠name:=λe=>by rw[e,pE]at h;cases h
 unfold UE mwG;rw[decide_eq_false h1,aAy,decide_eq_true h];cases q.2.2.2<;>rfl
theorem ZD{name:List UInt8}:∀(ms:List Md) (vs:List Int) (q:MQ),ms.length=vs.length->(∀m∈ms,Lib.compareBytes m.name name<0)->zW name ms vs q=(q.1++ms,q.2.1++vs,q.2.2.1,q.2.2.2)
 | [],[],q,_,_=>by simp[zW]
 | [],_::_,_,h,_=>by cases h
 |_::_,[],_,h,_=>by cases h
 |m::ms,v::vs,q,h,hm=>by
  rw[zW,aF9 (hm m zz),ZD ms vs _ (by simpa using h) λx hx=>hm x (by simp[hx])];simp[OQ]
theorem XC{name:List UInt8}:∀(ms:List Md) (vs:List Int) (q:MQ),ms.length=vs.length->(∀m∈ms,Lib.compareBytes name m.name<0)->q.2.2.2=true->zW name ms vs q=(q.1++ms,q.2.1++vs,q.2.2.1,true)
 | [],[],q,_,_,hp=>by simp[zW,<-hp]
 | [],_::_,_,h,_,_=>by cases h
 |_::_,[],_,h,_,_=>by cases h
 |m::ms,v::vs,q,h,hm,hp=>by
  rw[zW,aAa (hm m zz),if_pos hp,XC ms vs (OQ q m v) (by simpa using h) (λx hx=>hm x (by simp[hx])) hp];simp[OQ]
theorem RD{name:List UInt8}:∀(ms:List Md) (vs:List Int) (ms2:List Md) (vs2:List Int) (q:MQ),ms.length=vs.length->zW name (ms++ms2) (vs++vs2) q=zW name ms2 vs2 (zW name ms vs q)
 | [],[],_,_,q,_=>by simp[zW]
 | [],_::_,_,_,_,h=>by cases h
 |_::_,[],_,_,_,h=>by cases h
 |m::ms,v::vs,ms2,vs2,q,h=>by
  simp only[aMl,zW];exact RD ms vs ms2 vs2 _ (by simpa using h)
theorem SI{name:List UInt8}{ms:List Md}{vs:List Int}{q:MQ}(h:ms.length=vs.length)(hm:∀m∈ms,Lib.compareBytes name m.name<0)(hp:q.2.2.2=false):(if(zW name ms vs q).2.2.2=true then zW name ms vs q else VE name (zW name ms vs q))=(q.1++⟨name,[]⟩::ms,q.2.1++0::vs,q.2.2.1,true):=by
 match ms,vs,h with
 | [],[],_=>
  rw[show zW name [] [] q=q from rfl,hp];simp[VE]
 |m::ms,v::vs,h=>
  rw[zW,aAa (hm m zz),hp];rw[XC ms vs _ (by simpa using h) (λx hx=>hm x (by simp[hx])) rfl];simp[OQ,VE]
theorem WX{S:fX}(hs:PB S.ms)(hlv:S.vs.length=S.ms.length)(name:List UInt8):
  BB S name=(S.ms.take (eM S.ms name)++⟨name,[]⟩::S.ms.drop (eM S.ms name+exI S.ms name),S.vs.take (eM S.ms name)++0::S.vs.drop (eM S.ms name+exI S.ms name),(if 0<=cN (aO name) S.ms then IntKind.i64.wrap (S.vs.getD (eM S.ms name) 0+1)else 1),true):=by
 have hpl:=AP S.ms name;have hd:=LF hs name;unfold BB mwQ;have e1:zW name S.ms S.vs ([],[],1,false)=zW name (S.ms.drop (eM S.ms name)) (S.vs.drop (eM S.ms name)) (S.ms.take (eM S.ms name),S.vs.take (eM S.ms name),1,false):=by
  conv=>lhs;rw[<-List.take_append_drop (eM S.ms name) S.ms,<-List.take_append_drop (eM S.ms name) S.vs]
  rw[RD _ _ _ _ _ (by simp;omega),ZD _ _ _ (by simp;omega) (AU name)];simp
 rw[e1];unfold exI at hd⊢;rcases JD hs name with⟨h1,h2,h3,h4⟩| ⟨h1,h2⟩
 ·rw[if_pos h1]at hd⊢;rw[if_pos h1];have e2:zW name (S.ms.drop (eM S.ms name)) (S.vs.drop (eM S.ms name)) (S.ms.take (eM S.ms name),S.vs.take (eM S.ms name),1,false)=zW name (S.ms.drop (eM S.ms name+1)) (S.vs.drop (eM S.ms name+1)) (S.ms.take (eM S.ms name),S.vs.take (eM S.ms name),IntKind.i64.wrap (S.vs.getD (eM S.ms name) 0+1),false):=by
   rw[aOi h3,aOi (show eM S.ms name<S.vs.length by omega),zW];unfold UE;rw[if_pos (decide_eq_true h4),aNj,aNi (show eM S.ms name<S.vs.length by omega)];rfl
  rw[e2];exact SI (by simp;omega) hd rfl
 ·rw[if_neg h1]at hd⊢;rw[if_neg h1];exact SI (by simp;omega) hd rfl
theorem aDm{S:fX}(hs:PB S.ms)(hlv:S.vs.length=S.ms.length)(name text:List UInt8):
  qY S.ms name text=S.ms.take (eM S.ms name)++⟨name,text⟩::S.ms.drop (eM S.ms name+exI S.ms name):=by
 unfold qY exI;rcases JD hs name with⟨h1,h2,h3,h4⟩| ⟨h1,h2⟩
 ·rw[if_pos h1,if_pos h1,h2,tN,List.set_eq_take_append_cons_drop,if_pos h3]
 ·rw[if_neg h1,if_neg h1];rfl
theorem aBk{A B:List Md}{name x:List UInt8}(h:∀m∈A,m.name≠name):cN (aO name) (A++⟨name,x⟩::B)=(A.length:Int):=
 oQ zz (by simp[aO]) (by
  rw[List.take_left,Bool.eq_false_iff];intro ha;obtain⟨m,hm,e⟩:=List.any_eq_true.1 ha;exact h m hm (of_decide_eq_true e))
theorem aJ5{S:fX}(hs:PB S.ms)(hlv:S.vs.length=S.ms.length)(name text:List UInt8):PR S name text=qY S.ms name text/\aAs S name=wU S.ms S.vs name:=by
 have hpl:=AP S.ms name;have hA:∀m∈S.ms.take (eM S.ms name),m.name≠name:=λm hm e=>by
  have:=AU name m hm;rw[e,pE]at this;cases this
 have hi:=aBk (B:=S.ms.drop (eM S.ms name+exI S.ms name)) (x:= []) hA;have hl:(S.ms.take (eM S.ms name)).length=eM S.ms name:=by simp;omega
 have hlv2:(S.vs.take (eM S.ms name)).length=eM S.ms name:=by simp;omega
 rw[hl]at hi;refine⟨?_, ?_⟩
 ·rw[aDm hs hlv];unfold PR;rw[WX hs hlv];simp only;rw[hi,tN,aN4 _ _ z8,hl,aNt];rfl
 ·unfold aAs wU;rw[WX hs hlv];simp only;rw[hi,tN,aN4 _ _ z8,hlv2,aNt];unfold exI;rcases JD hs name with⟨h1,h2,h3,h4⟩| ⟨h1,h2⟩
  ·rw[if_pos h1,if_pos h1,if_pos h1,h2,tN,List.set_cons_zero,List.set_eq_take_append_cons_drop,if_pos z8]
  ·rw[if_neg h1,if_neg h1,if_neg h1,List.set_cons_zero];rfl
theorem WP{S:fX}(hs:PB S.ms)(hlv:S.vs.length=S.ms.length)(name text:List UInt8):PB (qY S.ms name text):=by
 rw[aDm hs hlv];have hh:=AU (ms:=S.ms) name;have ht:=LF hs name;unfold PB;rw[List.pairwise_append];refine⟨hs.sublist (List.take_sublist _ _),List.pairwise_cons.2 ⟨λm hm=>ht m hm,hs.sublist (List.drop_sublist _ _)⟩,λa ha b hb=> ?_⟩;rcases aN2.1 hb with rfl|hb
 ·exact hh a ha
 ·exact xZ (hh a ha) (ht b hb)
theorem NJ{ms:List Md}{vs:List Int}{name:List UInt8}(text:List UInt8)(hs:PB ms)(hlv:vs.length=ms.length):(wU ms vs name).length=(qY ms name text).length:=by
 have hpl:=AP ms name;unfold wU qY
 split<;>simp<;>omega
theorem uJ{ms:List Md}(hs:PB ms):gV ms=0↔ms.length<=8/\ms.any yS=false/\ms.any uN=false:=by
 have hd:(List.range ms.length).any (ND ms)=false:=by
  rw[Bool.eq_false_iff];intro ha;obtain⟨i,hi,h⟩:=List.any_eq_true.1 ha;rw[aN6]at hi;rw[KY hi]at h;obtain⟨m,hm,e⟩:=List.any_eq_true.1 h;obtain⟨k,hk,e2⟩:=List.mem_take_iff_getElem.1 hm;have:=List.pairwise_iff_getElem.1 hs k i z8 hi z8;rw[e2,of_decide_eq_true e,pE]at this;cases this
 unfold gV;rw[hd]
 by_cases h1:(decide ((ms.length:Int)>8)||ms.any yS)=true
 ·rw[if_pos h1];refine⟨(λh=>by cases h),λ⟨a,b,_⟩=> ?_⟩;rw[b]at h1;simp at h1;omega
 ·rw[if_neg h1];simp only[Bool.or_eq_true,decide_eq_true_eq,not_or]at h1
  by_cases h2:ms.any uN=true
  ·rw[if_pos h2];exact⟨(λh=>by cases h),λ⟨_,_,c⟩=>by rw[h2]at c;cases c⟩
  ·rw[if_neg h2];exact⟨λ_=>⟨z8,by simpa using h1.2,by simpa using h2⟩,λ_=>rfl⟩
theorem TO{ms ms':List Md}(hs:PB ms)(h:ms'.Sublist ms)(hv:gV ms=0):gV ms'=0:=by
 obtain⟨h1,h2,h3⟩:=(uJ hs).1 hv;have ha:∀p:Md->Bool,ms.any p=false->ms'.any p=false:=λp hp=>by
  rw[Bool.eq_false_iff]at hp⊢;intro hx;obtain⟨m,hm,e⟩:=List.any_eq_true.1 hx;exact hp (List.any_eq_true.2 ⟨m,h.subset hm,e⟩)
 exact(uJ (hs.sublist h)).2 ⟨aMr h.length_le h1,ha _ h2,ha _ h3⟩
end Go.Abs
namespace Go.Abs
open Go.Proofs Go.Memo
abbrev QA:QK->Nat:=λ_=>0
def zK(i:QK->QV):Prop:=∀q,(i q).nums.length<=1
theorem FQ{p q:QK->Prop}(h:∀d,p d->q d):∀(P:cR),P.bel p->P.bel q
 | .ret _,_=>trivial
 | .bad,_=>trivial
 | .get k c,hp=>⟨h _ hp.1,λv=>FQ h (c v) (hp.2 v)⟩
theorem EU{p:QK->Prop}{f:List Md->cR}(hf:∀ms,(f ms).bel p)(h1:∀i:Int,p (0,1,i))(h2:∀i:Int,p (0,2,i)):∀(n i:Nat) (ms:List Md),(sO n i ms f).bel p
 |0,i,ms=>hf ms
 |n+1,i,ms=>⟨h1 _,λa=>⟨h2 _,λb=>EU hf h1 h2 n (i+1) _⟩⟩
theorem AJ(k:QK):(sH k).bel λd=>d.1=0:=by
 unfold sH
 split
 ·exact⟨rfl,λv=>trivial⟩
 ·refine⟨rfl,λc=> ?_⟩;unfold QL
  split
  ·trivial
  ·split
   ·exact EU (λms=>by unfold HM;split<;>trivial) (λ_=>rfl) (λ_=>rfl) _ _ _
   ·trivial
theorem WV:yJ sH QA:=⟨λk hk=>FQ (λd hd=>.inl hd) _ (AJ k)⟩
def nK(e:QK->QV):Nat->Nat->List Md
 |0,_=> []
 |n+1,i=>⟨(e (0,1,(i:Int))).text,(e (0,2,(i:Int))).text⟩::nK e n (i+1)
theorem yF(e:QK->QV):∀(n i:Nat),(nK e n i).length=n
 |0,_=>rfl
 |n+1,i=>by simp[nK,yF e n (i+1)]
theorem yG{e:QK->QV}{f:List Md->cR}:∀(n i:Nat) (ms:List Md),(sO n i ms f).den e=(f (ms++nK e n i)).den e/\((sO n i ms f).reads e).length=2*n+((f (ms++nK e n i)).reads e).length/\((f (ms++nK e n i)).safe e->(sO n i ms f).safe e)
 |0,i,ms=>by simp[sO,nK]
 |n+1,i,ms=>by
  obtain⟨h1,h2,h3⟩:=yG (e:=e) (f:=f) n (i+1) (ms++ [⟨(e (0,1,(i:Int))).text,(e (0,2,(i:Int))).text⟩]);rw[aOe]at h1 h2 h3;refine⟨h1, ?_,h3⟩;simp only[sO,cR.reads,aM7,nK];rw[h2];simp only[aMl,aN7];omega
theorem CK(ms:List Md)(r:Rq):(eI ms r).nums.length<=2*ms.length+2:=by
 unfold eI
 split
 ·simp
 ·split
  ·simp
  ·have:=zA ms ms.length r.arg;rw[aOj]at this;simp only;omega
theorem HL(e:QK->QV)(k:QK):((sH k).den e).nums.length<=30/\((sH k).reads e).length<=30:=by
 have hs:=λms r=>CK ms r;unfold sH
 split
 ·refine⟨?_,by simp[cR.reads]⟩;have:=hs [⟨JU,(e (0,2,k.2.2)).text⟩] ⟨0,0,k.1,k.2.1,JU⟩;simp only[cR.den,uV,aM7,aOa]at this⊢;omega
 ·simp only[cR.den,cR.reads,aM7];unfold QL
  split
  ·simp[cR.den,cR.reads]
  ·split
   ·rename_i n tl hn hc;obtain⟨h1,h2,_⟩:=yG (e:=e) (f:=HM k) n.toNat 0 [];rw[h1,h2];have hl:=yF e n.toNat 0;unfold HM
    split
    ·have:=hs ([]++nK e n.toNat 0) ⟨0,0,k.1,k.2.1,(([]++nK e n.toNat 0).getD k.2.2.toNat ⟨[],[]⟩).name⟩;simp only[cR.den,cR.reads,uV,aM7,aOa,aN7]at this⊢;omega
    ·simp only[cR.den,cR.reads,aOa];omega
   ·simp[cR.den,cR.reads]
theorem aKx:Bnd sH QA zK:=⟨WV,λi hg k=>by
 refine decide_eq_true ?_
 by_cases h0:k.1=0
 ·rw[vR _ h0];exact aMr (hg k) (by unfold rD;omega)
 ·rw[BH WV i h0];exact aMr (HL _ _).1 (by unfold rD;omega),λi hg k hk=>aMr (HL _ _).2 (by unfold rD;omega)⟩
theorem aB5{k:QK}(h:vF k.1=true)(e:QK->QV):(sH k).den e=uV (eI [⟨JU,(e (0,2,k.2.2)).text⟩] ⟨0,0,k.1,k.2.1,JU⟩)/\(sH k).safe e:=by
 unfold sH;rw[if_pos h];exact⟨rfl,trivial⟩
theorem aDh{k:QK}(h:vF k.1=false){e:QK->QV}{n:Nat}{tl:List Int}(hn:(e (0,0,0)).nums=(n:Int)::tl)(h8:n<=8){i:Nat}(hi:k.2.2=(i:Int))(hin:i<n):
  (sH k).den e=uV (eI (nK e n 0) ⟨0,0,k.1,k.2.1,((nK e n 0).getD i ⟨[],[]⟩).name⟩)/\(sH k).safe e:=by
 unfold sH;rw[if_neg (by rw[h];simp)];simp only[cR.den,cR.safe];unfold QL;rw[hn];simp only;rw[if_pos z8,tN];obtain⟨h1,_,h3⟩:=yG (e:=e) (f:=HM k) n 0 [];rw[h1];rw[aN7]at h3⊢;have hl:=yF e n 0;have ha:HM k (nK e n 0)= .ret (uV (eI (nK e n 0) ⟨0,0,k.1,k.2.1,((nK e n 0).getD i ⟨[],[]⟩).name⟩)):=by
  unfold HM;rw[if_pos (by rw[hi];omega),hi,tN]
 rw[ha]at h3⊢;exact⟨rfl,h3 trivial⟩
theorem MT{e:QK->QV}{ms:List Md}(h:∀i (hi:i<ms.length),(e (0,1,(i:Int))).text=ms[i].name/\(e (0,2,(i:Int))).text=ms[i].src):∀(n i:Nat),i+n=ms.length->nK e n i=ms.drop i
 |0,i,hn=>by rw[List.drop_of_length_le z8];rfl
 |n+1,i,hn=>by
  have hi:i<ms.length:=z8
  rw[aOi hi,<-MT h n (i+1) z8,nK];rw[(h i hi).1,(h i hi).2]
structure UQ(ms:List Md)(st:Memo.St)(j:Nat):Prop where
 inv:∃hist,oK sH QA zK st hist
 cells:ms≠ []->(st.cell (0,0,0)).val=⟨[(ms.length:Int)],[]⟩/\∀i (h:i<ms.length),(st.cell (0,1,(i:Int))).val=⟨[],ms[i].name⟩/\(st.cell (0,2,(i:Int))).val=⟨[],ms[i].src⟩
 d0:∀q,(st.cell q).d=0
 now:st.now<=100*j
 comps:0<=st.comps/\st.comps<=100*(j:Int)
 clk:st.clk<=100*j
 fin:∃Ks:List QK,Ks.length<=100*j/\∀k r,st.res k=some r->k∈Ks
theorem UQ.up{ms:List Md}{st:Memo.St}{j k:Nat}(h:UQ ms st j)(hk:j<=k):UQ ms st k:=by
 obtain⟨Ks,h1,h2⟩:=h.fin;have:=h.now;have:=h.comps;have:=h.clk;exact⟨h.inv,h.cells,h.d0,z8,z8,z8,Ks,z8,h2⟩
theorem mA(k:QK)(v:QV)(d:Nat)(st:Memo.St)(q:QK):((iZ k v d st).cell q).val=if q=k then v else(st.cell q).val:=by
 unfold iZ
 split
 ·rename_i h
  split
  ·rename_i e;rw[e];exact h.2
  ·rfl
 ·simp only
  split<;>rfl
theorem DD{k:QK}{v:QV}{st:Memo.St}(h:∃hist,oK sH QA zK st hist)(hv:v.nums.length<=1):∃hist,oK sH QA zK (iZ k v 0 st) hist:=by
 obtain⟨hist,hi⟩:=h;refine hi.set k v 0 λq=> ?_;have hg:=hi.good st.now (aMq _) q;simp only[qF,hi.hnow]at hg;simp only
 split
 ·exact hv
 ·exact hg
theorem aA4(ms:List Md){st:Memo.St}(h:∃hist,oK sH QA zK st hist):∀i,i<=ms.length->(∃hist,oK sH QA zK (mU ms st i) hist)/\(mU ms st i).clk=st.clk/\(mU ms st i).res=st.res/\(mU ms st i).comps=st.comps/\((mU ms st i).cell (0,0,0)).val=⟨[(ms.length:Int)],[]⟩/\
  ∀l (hl:l<ms.length),l<i->((mU ms st i).cell (0,1,(l:Int))).val=⟨[],ms[l].name⟩/\((mU ms st i).cell (0,2,(l:Int))).val=⟨[],ms[l].src⟩
 |0,_=>by
  obtain⟨_,a,b,c⟩:=pI (0,0,0) ⟨[(ms.length:Int)],[]⟩ 0 st;exact⟨DD h zz,a,b,c,by rw[mU,mA,if_pos rfl],λl _ hl=>absurd hl (Nat.not_lt_zero _)⟩
 |i+1,hi=>by
  obtain⟨h1,h2,h3,h4,h5,h6⟩:=aA4 ms h i z8;obtain⟨_,a,b,c⟩:=pI (0,1,(i:Int)) ⟨[],(ms.getD i ⟨[],[]⟩).name⟩ 0 (mU ms st i);obtain⟨_,a',b',c'⟩:=pI (0,2,(i:Int)) ⟨[],(ms.getD i ⟨[],[]⟩).src⟩ 0 (iZ (0,1,(i:Int)) ⟨[],(ms.getD i ⟨[],[]⟩).name⟩ 0 (mU ms st i));refine⟨DD (DD h1 zz) zz,by rw[mU,a',a,h2],by rw[mU,b',b,h3],by rw[mU,c',c,h4], ?_,λl hl hli=> ?_⟩
  ·rw[mU,mA,if_neg zz,mA,if_neg zz];exact h5
  ·have hgd:∀(hx:i<ms.length),ms.getD i ⟨[],[]⟩=ms[i]:=λhx=>by rw[aNj,aNi hx];rfl
   rw[mU,hgd z8];rcases aMo l i with h7|h7
   ·obtain⟨k1,k2⟩:=h6 l hl h7;rw[mA,if_neg zz,mA,if_neg (by simp;omega),mA,if_neg (by simp;omega),mA,if_neg zz];exact⟨k1,k2⟩
   ·obtain rfl:l=i:=z8
    rw[mA,if_neg zz,mA,if_pos rfl,mA,if_pos rfl];exact⟨rfl,rfl⟩
theorem UQ.repl{ms:List Md}{st:Memo.St}{j:Nat}(h:UQ ms st j)(ms':List Md)(h8:ms'.length<=8):UQ ms' (mU ms' st ms'.length) (j+1):=by
 obtain⟨h1,h2,h3,h4,h5,h6⟩:=aA4 ms' h.inv ms'.length (aMq _);obtain⟨k1,k2⟩:=JO ms' h.d0 ms'.length;obtain⟨Ks,f1,f2⟩:=h.fin;have:=h.now;have:=h.comps;have:=h.clk;exact⟨h1,λ_=>⟨h5,λi hi=>h6 i hi hi⟩,k1,z8,by rw[h4];omega,by rw[h2];omega,Ks,z8,λk r hk=>f2 k r (by rw[h3]at hk;exact hk)⟩
theorem UQ.less{ms:List Md}{st:Memo.St}{j:Nat}(h:UQ ms st j){f:QK->Option gU}(hf:∀q r,f q=some r->st.res q=some r):UQ ms {st with res:=f} j:=by
 obtain⟨hist,hi⟩:=h.inv;obtain⟨Ks,f1,f2⟩:=h.fin;exact⟨⟨hist,hi.less hf st.comps⟩,h.cells,h.d0,h.now,h.comps,h.clk,Ks,f1,λk r hk=>f2 k r (hf k r hk)⟩
theorem NW{u:QK->Memo.St->qS gU}:∀(p:cR) (s s':xY×Memo.St) (o:Option QV),p.bel (λd=>d.1=0)->lL (mB u) p s=some (o,s')->(∃v,o=some v)/\s'.2=s.2
 | .ret v,s,s',o,_,h=>by simp only[lL,Option.some.injEq,Prod.mk.injEq]at h;obtain⟨rfl,rfl⟩:=h;exact⟨⟨v,rfl⟩,rfl⟩
 | .bad,s,s',o,_,h=>by cases h
 | .get k c,s,s',o,hb,h=>by
  unfold lL mB at h;rw[if_pos hb.1]at h
  split at h
  ·cases h
  ·rename_i h1;split at h1<;>simp at h1
  ·rename_i v s1 h1
   split at h1
   ·simp only[Option.some.injEq,Prod.mk.injEq]at h1;obtain⟨rfl,rfl⟩:=h1;have:=NW _ _ s' o (hb.2 _) h;exact this
   ·cases h1
theorem IK{u:QK->Memo.St->qS gU}(v:Nat):∀(ds:List QK) (st st':Memo.St) (o:Option Bool),(∀d∈ds,d.1=0)->FY u v ds st=some (o,st')->(∃b,o=some b)/\st'=st
 | [],st,st',o,_,h=>by simp only[FY,Option.some.injEq,Prod.mk.injEq]at h;obtain⟨rfl,rfl⟩:=h;exact⟨⟨_,rfl⟩,rfl⟩
 |d::ds,st,st',o,hd,h=>by
  unfold FY at h;rw[if_pos (hd d zz)]at h
  split at h
  ·simp only[Option.some.injEq,Prod.mk.injEq]at h;obtain⟨rfl,rfl⟩:=h;exact⟨⟨_,rfl⟩,rfl⟩
  ·exact IK v ds st st' o (λx hx=>hd x (by simp[hx])) h
def UpR(stp:Int->Bool)(k:QK)(st:Memo.St)(o:Option gU)(st':Memo.St):Prop:=
 (o=none/\st'=st/\stp st.comps=true)\/(∃r,o=some r/\(st'.comps=st.comps\/st'.comps=wrap64 (st.comps+1))/\st'.clk=st.clk/\∀q x,st'.res q=some x->q=k\/∃y,st.res q=some y)
theorem GM{u:QK->Memo.St->qS gU}{stp:Int->Bool}{k:QK}{st st':Memo.St}{o:Option gU}(h:oI u stp sH k st=some (o,st')):UpR stp k st o st':=by
 unfold oI at h
 split at h
 ·rename_i hs;simp only[Option.some.injEq,Prod.mk.injEq]at h;obtain⟨rfl,rfl⟩:=h;exact .inl ⟨rfl,rfl,hs⟩
 ·split at h
  ·cases h
  ·rename_i s hr;obtain⟨⟨v,hv⟩,_⟩:=NW _ _ _ _ (AJ k) hr;cases hv
  ·rename_i v s hr;obtain⟨_,hs⟩:=NW _ _ _ _ (AJ k) hr;simp only at hs
   split at h
   ·simp only[Option.some.injEq,Prod.mk.injEq]at h;obtain⟨rfl,rfl⟩:=h;refine .inr ⟨_,rfl, .inr (by simp only[hs]),by simp only[hs],λq x hx=> ?_⟩;simp only[hs,eQ]at hx
    split at hx
    ·exact .inl (by assumption)
    ·exact .inr ⟨x,hx⟩
   ·cases h
theorem aGp{stp:Int->Bool}{k:QK}{st st':Memo.St}{o:Option gU}{hist:Nat->QK->qH}(hi:oK sH QA zK st hist){n:Nat}(h:Memo.upd stp sH (n+1) [] k st=some (o,st')):
  (o=none/\st'=st/\stp st.comps=true)\/(∃r,o=some r/\(st'.comps=st.comps\/st'.comps=wrap64 (st.comps+1))/\st'.clk=st.clk+1/\∀q x,st'.res q=some x->q=k\/∃y,st.res q=some y):=by
 unfold Memo.upd at h;rw[if_neg zz]at h;obtain⟨⟨o1,s1⟩,h1,h2⟩:=Option.map_eq_some_iff.1 h;simp only[Prod.mk.injEq]at h2;obtain⟨rfl,rfl⟩:=h2;have key:UpR stp k st o1 s1:=by
  unfold LV at h1
  split at h1
  ·exact GM h1
  ·rename_i r hr;have hkeep:∀ {s:Memo.St},s=st->Memo.keep k r s=some (o1,s1)->UpR stp k st o1 s1:=by
    intro s hs hk;subst hs;simp only[Memo.keep,Option.some.injEq,Prod.mk.injEq]at hk;obtain⟨rfl,rfl⟩:=hk;refine .inr ⟨_,rfl, .inl rfl,rfl,λq x hx=> ?_⟩;simp only[eQ]at hx
    split at hx
    ·exact .inl (by assumption)
    ·exact .inr ⟨x,hx⟩
   split at h1
   ·exact hkeep rfl h1
   ·have hd:∀d∈r.deps,d.1=0:=λd hd=>cR.bel_reads _ (AJ k) d (((hi.recs k r hr).deps d).1 hd)
    split at h1
    ·cases h1
    ·rename_i s hc;obtain⟨⟨b,hb⟩,_⟩:=IK _ _ _ _ _ hd hc;cases hb
    ·rename_i s hc;obtain⟨_,rfl⟩:=IK _ _ _ _ _ hd hc;exact GM h1
    ·rename_i s hc;obtain⟨_,hs⟩:=IK _ _ _ _ _ hd hc;exact hkeep hs h1
 rcases key with⟨rfl,rfl,k3⟩| ⟨r,rfl,k2,k3,k4⟩
 ·exact .inl ⟨rfl,rfl,k3⟩
 ·exact .inr ⟨r,rfl,k2,by show s1.clk+1=_;rw[k3],k4⟩
end Go.Abs
namespace Go.Abs
open Go.Proofs Go.Memo
structure Wk(S:fX)(st:Memo.St)(j:Nat):Prop where
 srt:PB S.ms
 val:gV S.ms=0
 lv:S.vs.length=S.ms.length
 ps:S.ps.length<=20
 psq:∀r∈S.ps,1<=r.q/\r.q<=8
 nm:∀m∈S.ms,m.name.length<=maxLen
 rev:0<=S.rev/\S.rev<=(j:Int)
 db:UQ S.ms st j
theorem Wk.l8{S:fX}{st:Memo.St}{j:Nat}(h:Wk S st j):S.ms.length<=8:=((uJ h.srt).1 h.val).1
def JL(S:fX)(rq:Rq)(i:Nat):QV:=if vF rq.q=true then uV (eI [⟨JU,(S.ms.getD i ⟨[],[]⟩).src⟩] ⟨0,0,rq.q,rq.arg,JU⟩)else uV (eI S.ms ⟨0,0,rq.q,rq.arg,(S.ms.getD i ⟨[],[]⟩).name⟩)
def BK(st:Memo.St)(j:Nat)(k:Nat)(s:Memo.St):Prop:=
 s.cell=st.cell/\s.now=st.now/\(∃hist,oK sH QA zK s hist)/\(st.comps<=s.comps/\s.comps<=st.comps+k)/\s.clk<=st.clk+k/\∃Ks:List QK,Ks.length<=100*j+k/\∀q r,s.res q=some r->q∈Ks
theorem aBu{st:Memo.St}{j:Nat}:∀k s,BK st j k s->BK st j (k+1) s:=λk s ⟨h1,h2,h3,h4,h5,Ks,h6,h7⟩=>⟨h1,h2,h3,z8,z8,Ks,z8,h7⟩
theorem aGb{ms:List Md}{st:Memo.St}{j:Nat}(h:UQ ms st j):BK st j 0 st:=by
 obtain⟨Ks,f1,f2⟩:=h.fin;exact⟨rfl,rfl,h.inv,z8,z8,Ks,z8,f2⟩
theorem aAj{ms:List Md}{st s:Memo.St}{j k:Nat}(h:UQ ms st j)(hk:k<=100)(hg:BK st j k s):UQ ms s (j+1):=by
 obtain⟨h1,h2,h3,h4,h5,Ks,h6,h7⟩:=hg;have:=h.now;have:=h.comps;have:=h.clk;exact⟨h3,by rw[h1];exact h.cells,by rw[h1];exact h.d0,z8,z8,z8,Ks,z8,h7⟩
theorem aGv{S:fX}{st:Memo.St}{j:Nat}(hW:Wk S st j)(hj:j<=1000)(N:Int):IX S (JL S) (BK st j) 1 st.comps N:=by
 intro k s hk ⟨h1,h2,⟨hist,h3⟩,h4,h5,Ks,h6,h7⟩ rq hrq i hi;have hps:=hW.ps;have hq:rq.q≠0:=by have:=(hW.psq rq hrq).1;omega
 have hil:i<S.ms.length:=by have:=rZ (p:=aO rq.name) (xs:=S.ms) (by rw[hi];omega);omega
 have hne:S.ms≠ []:=λe=>by rw[e]at hil;cases hil
 obtain⟨c0,c1⟩:=hW.db.cells hne;have h8:=hW.l8;have hin:∀q:QK,q.1=0->Memo.Ev sH QA hist s.now q=(st.cell q).val:=λq hq=>by
  rw[Memo.Ev,vR _ hq,qF,h3.hnow,h1]
 have hgd:S.ms.getD i ⟨[],[]⟩=S.ms[i]:=by rw[aNj,aNi hil];rfl
 have hden:(sH (rq.q,rq.arg,(i:Int))).den (Memo.Ev sH QA hist s.now)=JL S rq i/\(sH (rq.q,rq.arg,(i:Int))).safe (Memo.Ev sH QA hist s.now):=by
  unfold JL;rw[hgd]
  by_cases hl:vF rq.q=true
  ·rw[if_pos hl];obtain⟨d1,d2⟩:=aB5 (k:=(rq.q,rq.arg,(i:Int))) hl (Memo.Ev sH QA hist s.now);refine⟨?_,d2⟩;rw[d1];simp only;rw[hin (0,2,(i:Int)) rfl,(c1 i hil).2]
  ·rw[if_neg hl];have hm:nK (Memo.Ev sH QA hist s.now) S.ms.length 0=S.ms:=by
    rw[MT (ms:=S.ms) (λl hl=>by
     rw[hin (0,1,(l:Int)) rfl,hin (0,2,(l:Int)) rfl,(c1 l hl).1,(c1 l hl).2];exact⟨rfl,rfl⟩) _ _ z8,aOh]
   obtain⟨d1,d2⟩:=aDh (k:=(rq.q,rq.arg,(i:Int))) (by simpa using hl) (e:=Memo.Ev sH QA hist s.now) (n:=S.ms.length) (tl:= []) (by
    rw[hin (0,0,0) rfl,c0]) h8 (i:=i) rfl hil
   refine⟨?_,d2⟩;rw[d1,hm,hgd]
 obtain⟨o,s',u1,u2,u3,u4⟩:=aF1 aKx (EI st.comps N) (λ_=>rfl) 1 [] (rq.q,rq.arg,(i:Int)) s z8 zz hq h3 hden.2;refine⟨hq,o,s',u1, ?_⟩;have hcm:=hW.db.comps;have hw:wrap64 (s.comps+1)=s.comps+1:=by unfold wrap64;omega
 have hval:∀r,o=some r->r.val=JL S rq i:=λr hr=>by
  obtain⟨k1,k2⟩:=u4 r hr;have:=(u2.recs _ r k1).val;rw[k2,Memo.Ev,BH WV _ hq]at this;rw[this];exact hden.1
 rcases aGp h3 u1 with⟨rfl,rfl,k3⟩| ⟨r,rfl,k2,k3,k4⟩
 ·exact⟨⟨h1,h2,⟨hist,h3⟩,z8,z8,Ks,z8,h7⟩,Int.le_refl _,z8,(λr hr=>by cases hr),λ_=>k3⟩
 ·rw[hw]at k2;refine⟨⟨by rw[u3.cell,h1],by rw[u3.now,h2],⟨hist,u2⟩,z8,z8,(rq.q,rq.arg,(i:Int))::Ks,by simp;omega,λq x hx=> ?_⟩,z8,z8,λr' hr'=>⟨hval r' hr', ?_, ?_⟩,λh=>by cases h⟩
  ·rcases k4 q x hx with rfl| ⟨y,hy⟩
   ·exact List.mem_cons_self ..
   ·exact aOg _ (h7 q y hy)
  ·rw[hval r' hr',<-hden.1];exact aMr (HL _ _).1 (by unfold rD;omega)
  ·rw[hval r' hr'];unfold JL
   split<;>simp[uV]
theorem aCr(S:fX)(rq:Rq):qL S (JL S) rq=oJ S rq:=by
 unfold qL oJ
 by_cases h0:0<=cN (aO rq.name) S.ms
 ·rw[if_neg z8,if_pos h0];obtain⟨i,hi,hii,hn⟩:∃i,∃h:i<S.ms.length,cN (aO rq.name) S.ms=(i:Int)/\S.ms[i].name=rq.name:=by
   rcases kY (aO rq.name) S.ms with⟨e,_⟩| ⟨i,h,e,e2,_⟩
   ·rw[e]at h0;cases h0
   ·exact⟨i,h,e,of_decide_eq_true e2⟩
  have hgd:S.ms.getD i ⟨[],[]⟩=S.ms[i]:=by rw[aNj,aNi hi];rfl
  rw[hii,tN];unfold JL;rw[hgd]
  by_cases hl:vF rq.q=true
  ·rw[if_pos hl];have e1:cN (aO JU) [⟨JU,S.ms[i].src⟩]=0:=oQ (xs:=([⟨JU,S.ms[i].src⟩]:List Md)) (i:=0) zz (by simp[aO]) rfl;have e2:mX [⟨JU,S.ms[i].src⟩] JU=S.ms[i].src:=by unfold mX;rw[e1];rfl
   have e3:mX S.ms rq.name=S.ms[i].src:=by unfold mX;rw[hii,tN,hgd]
   unfold eI;simp only;rw[e1,e2,e3,hii];have c1:(decide ((0:Int)<0)||decide (rq.arg<0))=decide (rq.arg<0):=zz
   have c2:(decide ((i:Int)<0)||decide (rq.arg<0))=decide (rq.arg<0):=by rw[decide_eq_false (by omega:¬(i:Int)<0)];rfl
   simp only[c1,c2,hl,if_true]
   split<;>rfl
  ·rw[if_neg hl,hn,show eI S.ms ⟨0,0,rq.q,rq.arg,rq.name⟩=eI S.ms rq from rfl];rfl
 ·rw[if_pos z8,if_neg h0]
def WQ(S:fX)(e:Ev)(S':fX)(code:Int)(rs:List Rs):Prop:=
 code=(kK S e).1/\((e.kind=6/\code=0/\∃k,k<=S.ps.length/\(e.n<=k\/k=S.ps.length)/\rs=(S.ps.take k).map (oJ S)/\S'=⟨S.ms,S.vs,S.ps.drop k,S.rev⟩/\kK S e=(0,[],S))\/(¬(e.kind=6/\code=0)/\rs=(kK S e).2.1/\S'=(kK S e).2.2))
theorem VZ{S:fX}{st:Memo.St}{j:Nat}(hW:Wk S st j){ms:List Md}{vs:List Int}{S':fX}{st':Memo.St}{code:Int}(hs:PB ms)(hlv:vs.length=ms.length)(hnm:∀m∈ms,m.name.length<=maxLen)(h:RpR S st ms vs S' st' code):Wk S' st' (j+1):=by
 have hr:=hW.rev;rcases h with⟨_,_,rfl,rfl⟩| ⟨hv,_,rfl,rfl⟩
 ·exact⟨hW.srt,hW.val,hW.lv,hW.ps,hW.psq,hW.nm,z8,hW.db.up z8⟩
 ·exact⟨hs,hv,hlv,hW.ps,hW.psq,hnm,by simp only;omega,hW.db.repl ms ((uJ hs).1 hv).1⟩
theorem NM{S:fX}{st:Memo.St}{j:Nat}(hW:Wk S st j)(hj:j<=1000):IntKind.i64.wrap (S.rev+1)=S.rev+1:=by
 have:=hW.rev;exact cL z8 z8
theorem aEh{S:fX}{st:Memo.St}{j:Nat}(hW:Wk S st j)(hj:j<=1000){name text:List UInt8}{S':fX}{st':Memo.St}{code:Int}(h:RpR S st (qY S.ms name text) (wU S.ms S.vs name) S' st' code):code=(XB S name text).1/\S'=(XB S name text).2:=by
 unfold XB;obtain⟨e1,e2⟩:=aJ5 hW.srt hW.lv name text;rw[e1,e2,NM hW hj];rcases h with⟨h1,rfl,rfl,rfl⟩| ⟨h1,rfl,rfl,rfl⟩
 ·rw[if_pos h1];exact⟨rfl,rfl⟩
 ·rw[if_neg (by simpa using h1)];exact⟨rfl,rfl⟩
theorem aDj{α:Type}(xs:List α)(i:Nat):xs.eraseIdx i=xs.take i++xs.drop (i+1):=List.eraseIdx_eq_take_drop_succ ..
theorem haP{S:fX}{st:Memo.St}{j:Nat}(hW:Wk S st j)(hj:j<=1000){e:Ev}(hev:evOk e){S':fX}{st':Memo.St}{code:Int}{rs:List Rs}(h:HaR S st (JL S) (BK st j) e S' st' code rs):WQ S e S' code rs/\Wk S' st' (j+1):=by
 have hW1:Wk S st (j+1):=⟨hW.srt,hW.val,hW.lv,hW.ps,hW.psq,hW.nm,by have:=hW.rev;omega,hW.db.up z8⟩;have hnm:=hev.2.1;unfold WQ;rcases h with⟨hk,rfl,h⟩| ⟨hk,rfl,h⟩| ⟨hk,rfl,h⟩| ⟨hk,rfl,rfl,rfl,rfl⟩| ⟨hk,rfl,rfl,rfl,rfl⟩| ⟨hk,h⟩| ⟨hk,rfl,h⟩| ⟨hk,rfl,rfl,rfl,rfl⟩
 ·obtain⟨e1,e2⟩:=aEh hW hj h;have hm:kK S e=((XB S e.name e.text).1,[],(XB S e.name e.text).2):=by unfold kK AB;rw[if_pos (by simp[hk]),if_pos (by simp[hk])]
  rw[hm];exact⟨⟨e1, .inr ⟨λh=>z8,rfl,e2⟩⟩,VZ hW (WP hW.srt hW.lv _ _) (NJ _ hW.srt hW.lv) (tW hW.nm hnm) h⟩
 ·have hm:kK S e=((AB S e).1,[],(AB S e).2):=by unfold kK;rw[if_pos (by simp[hk])]
  rw[hm];unfold AB;rw[if_neg (by simp[hk])];rcases h with⟨h1,rfl,rfl,rfl⟩| ⟨i,hi,hii,h⟩
  ·rw[if_pos (decide_eq_true h1)];exact⟨⟨rfl, .inr ⟨λh=>z8,rfl,rfl⟩⟩,hW1⟩
  ·have hv:=TO hW.srt (List.eraseIdx_sublist S.ms i) hW.val;rw[if_neg (by rw[hii];simp),if_pos (by simp[hk]),hii,tN];refine⟨?_,VZ hW (hW.srt.sublist (List.eraseIdx_sublist S.ms i)) (by rw[List.length_eraseIdx,List.length_eraseIdx,hW.lv]) (λm hm=>hW.nm m ((List.eraseIdx_sublist S.ms i).subset hm)) h⟩;rcases h with⟨h1,_⟩| ⟨_,rfl,rfl,rfl⟩
   ·exact absurd hv h1
   ·rw[NM hW hj,aDj,aDj];exact⟨rfl, .inr ⟨λh=>z8,rfl,rfl⟩⟩
 ·have hm:kK S e=((AB S e).1,[],(AB S e).2):=by unfold kK;rw[if_pos (by simp[hk])]
  rw[hm];unfold AB;rw[if_neg (by simp[hk])];unfold edE at h
  by_cases h0:cN (aO e.name) S.ms<0
  ·rw[if_pos h0]at h;rw[if_pos (decide_eq_true h0)];rcases h with⟨_,rfl,rfl,rfl⟩| ⟨h1,_⟩
   ·exact⟨⟨rfl, .inr ⟨λh=>z8,rfl,rfl⟩⟩,hW1⟩
   ·cases h1
  ·rw[if_neg h0]at h;rw[if_neg (by simpa using h0),if_neg (by simp[hk])]
   by_cases hvr:e.ver=S.vs.getD (cN (aO e.name) S.ms).toNat 0
   ·rw[if_neg (by simp[hvr])]at h;rw[if_neg (by simp[hvr])];rcases h with⟨h1,rfl,rfl,rfl⟩| ⟨h1,h⟩
    ·rw[if_pos h1];exact⟨⟨rfl, .inr ⟨λh=>z8,rfl,rfl⟩⟩,hW1⟩
    ·rw[if_neg (by simpa using h1)];obtain⟨e1,e2⟩:=aEh hW hj h;exact⟨⟨e1, .inr ⟨λh=>z8,rfl,e2⟩⟩,VZ hW (WP hW.srt hW.lv _ _) (NJ _ hW.srt hW.lv) (tW hW.nm hnm) h⟩
   ·rw[if_pos (λh=>hvr h.symm)]at h;rw[if_pos hvr];rcases h with⟨_,rfl,rfl,rfl⟩| ⟨h1,_⟩
    ·exact⟨⟨rfl, .inr ⟨λh=>z8,rfl,rfl⟩⟩,hW1⟩
    ·cases h1
 ·have hm:kK S e=((rQ S.ps e.req).1,[],⟨S.ms,S.vs,(rQ S.ps e.req).2,S.rev⟩):=by unfold kK;rw[if_neg (by simp[hk]),if_pos (by simp[hk])]
  rw[hm];refine⟨⟨rfl, .inr ⟨λh=>z8,rfl,rfl⟩⟩,hW1.srt,hW1.val,hW1.lv, ?_, ?_,hW1.nm,hW1.rev,hW1.db⟩
  ·have:=hW.ps;unfold rQ
   split
   ·exact this
   ·split
    ·exact this
    ·split
     ·exact this
     ·simp;omega
  ·unfold rQ
   split
   ·exact hW.psq
   ·split
    ·exact hW.psq
    ·split
     ·exact hW.psq
     ·intro r hr;rcases aN0.1 hr with hr|hr
      ·exact hW.psq r hr
      ·rw[aN8]at hr;subst hr;omega
 ·have hm:kK S e=((rT S.ps e.req.cl e.req.id).1,(if(rT S.ps e.req.cl e.req.id).1=0 then [⟨e.req.cl,e.req.id,12,S.rev,[],[]⟩]else []),⟨S.ms,S.vs,(rT S.ps e.req.cl e.req.id).2,S.rev⟩):=by unfold kK;rw[if_neg (by simp[hk]),if_neg (by simp[hk]),if_pos (by simp[hk])]
  rw[hm];refine⟨⟨rfl, .inr ⟨λh=>z8,rfl,rfl⟩⟩,hW1.srt,hW1.val,hW1.lv, ?_, ?_,hW1.nm,hW1.rev,hW1.db⟩
  ·have:=hW.ps;unfold rT
   split
   ·exact this
   ·exact aMr (List.eraseIdx_sublist _ _).length_le this
  ·unfold rT
   split
   ·exact hW.psq
   ·exact λr hr=>hW.psq r ((List.eraseIdx_sublist _ _).subset hr)
 ·rcases h with⟨hn,rfl,rfl,rfl,rfl⟩| ⟨hn,rfl,k,k1,k2,rfl,rfl,l,hl,hg⟩
  ·have hm:kK S' e=(1,[],S'):=by unfold kK;rw[if_neg (by simp[hk]),if_neg (by simp[hk]),if_neg (by simp[hk]),if_pos (by simp[hk]),if_pos (decide_eq_true hn)]
   rw[hm];exact⟨⟨rfl, .inr ⟨λh=>z8,rfl,rfl⟩⟩,hW1⟩
  ·have hm:kK S e=(0,[],S):=by unfold kK;rw[if_neg (by simp[hk]),if_neg (by simp[hk]),if_neg (by simp[hk]),if_pos (by simp[hk]),if_neg (by simp;omega)]
   have hps:=hW.ps;refine⟨⟨by rw[hm], .inl ⟨hk,rfl,k,k1,k2,List.map_congr_left λr _=>aCr S r,rfl,hm⟩⟩,hW1.srt,hW1.val,hW1.lv,by simp;omega,λr hr=>hW.psq r (List.mem_of_mem_drop hr),hW1.nm,hW1.rev,aAj hW.db z8 hg⟩
 ·rcases h with⟨hn,rfl,rfl,rfl⟩| ⟨hn,rfl,rfl,f,hf,rfl⟩
  ·have hm:kK S' e=(1,[],S'):=by unfold kK;rw[if_neg (by simp[hk]),if_neg (by simp[hk]),if_neg (by simp[hk]),if_pos (by simp[hk]),if_pos (decide_eq_true hn)]
   rw[hm];exact⟨⟨rfl, .inr ⟨λh=>z8,rfl,rfl⟩⟩,hW1⟩
  ·have hm:kK S' e=(0,[],S'):=by unfold kK;rw[if_neg (by simp[hk]),if_neg (by simp[hk]),if_neg (by simp[hk]),if_pos (by simp[hk]),if_neg (by simp;omega)]
   rw[hm];exact⟨⟨rfl, .inr ⟨λh=>z8,rfl,rfl⟩⟩,hW1.srt,hW1.val,hW1.lv,hW1.ps,hW1.psq,hW1.nm,hW1.rev,hW1.db.less hf⟩
 ·have hm:kK S' e=(7,[],S'):=by
   have a:=hk 1;have b:=hk 2;have c:=hk 3;have d:=hk 4;have f:=hk 5;have g:=hk 6;have i:=hk 7;unfold kK;rw[if_neg (by simp;omega),if_neg (by simp;omega),if_neg (by simp;omega),if_neg (by simp;omega)]
  rw[hm];exact⟨⟨rfl, .inr ⟨λh=>z8,rfl,rfl⟩⟩,hW1⟩
theorem aKo(n:Int)(h0:0<=n/\n<=0):Wk ⟨[],[],[],0⟩ ⟨0,λ_=>0,λ_=>.zero,λ_=>none,n,0⟩ 0:=
 ⟨List.Pairwise.nil,rfl,rfl,zz,(λr hr=>by cases hr),(λm hm=>by cases hm),zz,⟨⟨_,oK.init (λq=>aNs _) n⟩,(λh=>absurd rfl h),λ_=>rfl,aMq _,by simp only;omega,aMq _,[],aMq _,λk r h=>by cases h⟩⟩
end Go.Abs
namespace Go.Abs
open Go.Proofs Go.Memo
def G0S(b:Nat):eL:=λid=>(id=b+1+4\/id=b+1+1\/id=b+1+2\/id=b+1\/id=b+1+3)\/False\/∃e∈yI b,e.1=id
def S0S:fX:=⟨[],[],[],0⟩
theorem AH{b id:Nat}(h:G0S b id):b<=id/\id<b+6:=by
 rcases h with h|h| ⟨e,he,rfl⟩
 ·omega
 ·exact h.elim
 ·simp only[yI,aN8]at he;subst he;simp
theorem apk{α:Type}(H L:List α)(k:Nat):(H++L)[H.length+k]? =L[k]? :=by rw[aM1 z8,Nat.add_sub_cancel_left]
theorem RF{H:aH}(h0:H[0]? =some gO):jR H.length (H.length+1) (H.length+6) S0S .full .full (.slice [] .full) (λ_=>0) St.new (G0S H.length) [] (H++LSv H):=by
 have hl:1<=H.length:=lG h0;refine⟨by rw[aM0 z8];exact h0, ?_,by simp[bV,S0S],trivial,trivial, .nil,⟨λh=>by have:=AH h;omega,z8,zz⟩,⟨λh=>by have:=AH h;omega,zz⟩,λi hi=>by cases hi⟩;refine⟨_,sR.new (ix:=(RS H.length (H.length+1)).ix) rfl ((apk H (LSv H) 5).trans rfl) ((apk H (LSv H) 2).trans rfl) ((apk H (LSv H) 3).trans rfl) ((apk H (LSv H) 1).trans rfl) ((apk H (LSv H) 4).trans rfl) ?_,trivial,λ_ _ h=>h.elim,rfl,λe hm=> ?_⟩
 ·simp only[RS];omega
 ·simp only[RS,yI,aN8]at hm;subst hm;refine⟨zz,λhf=> ?_,λh=>h⟩;simp only[RS]at hf;omega
theorem WU:Wk S0S St.new 0:=aKo 0 ⟨Int.le_refl _,Int.le_refl _⟩
theorem GB{bA n sr:Nat}{S:fX}{tl1 tl2:bE}{pv:PV}{loc:QK->Nat}{st:Memo.St}{G:eL}{pid:List Nat}{H:aH}(hS:jR bA n sr S tl1 tl2 pv loc st G pid H){j:Nat}(hW:Wk S st j)(hj:j<=1000)(e:Ev)(hev:evOk e):
  aR Tryz.prog 9 [.optr sr 0,e.enc] H (λr H'=>∃S' st' code rs t1 t2 pv' loc' G' pid',WQ S e S' code rs/\Wk S' st' (j+1)/\r= .tup [.slice (rs.map Rs.enc) .none,aE code]/\jR bA n sr S' t1 t2 pv' loc' st' G' pid' H'/\dE (bW sr G pid) (bW sr G' pid') H H'):=by
 have:=hW.db.now;have:=hW.db.clk;have:=hW.rev;obtain⟨Ks,f1,f2⟩:=hW.db.fin;refine(aAq hS e hev hW.l8 hW.lv hW.nm (IN hW.srt e.name) hW.db.d0 z8 z8 hW.ps (JL S) (BK st j) 1 aBu (aGb hW.db) (aGv hW hj) z8 ⟨Ks,z8,f2⟩).mono ?_;rintro r H' ⟨S',st',code,rs,t1,t2,pv',loc',G',pid',h1,h2,h3,h4⟩;obtain⟨k1,k2⟩:=haP hW hj hev h1;exact⟨S',st',code,rs,t1,t2,pv',loc',G',pid',k1,k2,h2,h3,h4⟩
theorem aC7(S:fX)(e:Ev):(kK S e).2.1.length<=1:=by
 unfold kK
 split
 ·simp
 ·split
  ·simp
  ·split
   ·simp only;split<;>simp
   ·split
    ·split<;>simp
    ·simp
theorem QS{S:fX}{e:Ev}{S':fX}{code:Int}{rs:List Rs}(h:WQ S e S' code rs)(hp:S.ps.length<=20):rs.length<=20:=by
 rcases h.2 with⟨_,_,k,k1,_,rfl,_⟩| ⟨_,rfl,_⟩
 ·simp;omega
 ·have:=aC7 S e;omega
def GI:fX->List Ev->fX->List Rs->Prop
 |S,[],S',rs=>S'=S/\rs= []
 |S,e::es,S',rs=>∃S1 code rs1 rs2,WQ S e S1 code rs1/\GI S1 es S' rs2/\rs=rs1++rs2
theorem FE:∀ {S:fX} {es:List Ev} {S1:fX} {rs1:List Rs} {e:Ev} {S2:fX} {code:Int} {rs2:List Rs},GI S es S1 rs1->WQ S1 e S2 code rs2->GI S (es++ [e]) S2 (rs1++rs2)
 |S,[],S1,rs1,e,S2,code,rs2,h,h2=>by
  obtain⟨rfl,rfl⟩:=h;exact⟨S2,code,rs2,[],h2,⟨rfl,rfl⟩,zz⟩
 |S,x::es,S1,rs1,e,S2,code,rs2,h,h2=>by
  obtain⟨Sa,c,ra,rb,k1,k2,rfl⟩:=h;exact⟨Sa,c,ra,rb++rs2,k1,FE k2 h2,zz⟩
end Go.Abs
namespace Go.Abs
open Go.Proofs Go.Memo
theorem aF8{bA n sr:Nat}{S:fX}{tl1 tl2:bE}{pv:PV}{loc:QK->Nat}{st:Memo.St}{G:eL}{pid:List Nat}{H:aH}(hS:jR bA n sr S tl1 tl2 pv loc st G pid H){j:Nat}(hW:Wk S st j)(es:List Ev)(hj:j+es.length<=100)(hev:∀e∈es,evOk e):aR Tryz.prog 19 [.optr sr 0, .slice (es.map Ev.enc) .none] H (λr H'=>∃S' st' rs t1 t2 pv' loc' G' pid',GI S es S' rs/\Wk S' st' (j+es.length)/\(∃tl,r= .slice (rs.map Rs.enc) tl)/\jR bA n sr S' t1 t2 pv' loc' st' G' pid' H'/\dE (bW sr G pid) (bW sr G' pid') H H'):=by
 have em:maxLen=9223372036854775807:=z7
 refine aF (N:=27) Tryz.func19 rfl rfl zz λhb'=> ?_;refine aV qK ?_;refine aV qK ?_;refine aV (bR y22 qQ qK) ?_
 repeat refine wS ?_
 refine bJ ?_;refine fF (σ:=Nat×List Rs×bE×fX×Memo.St×bE×bE×PV×(QK->Nat)×eL×List Nat) (λ(z:Nat×List Rs×bE×fX×Memo.St×bE×bE×PV×(QK->Nat)×eL×List Nat)=> [(0, .optr sr 0),(5, .slice (z.2.1.map Rs.enc) z.2.2.1),(10, .slice (es.map Ev.enc) .none),(11,aE (es.length:Int)),(12,aE (z.1:Int))]) (λ(z:Nat×List Rs×bE×fX×Memo.St×bE×bE×PV×(QK->Nat)×eL×List Nat)=>λH1=>z.1<=es.length/\GI S (es.take z.1) z.2.2.2.1 z.2.1/\Wk z.2.2.2.1 z.2.2.2.2.1 (j+z.1)/\z.2.1.length<=20*z.1/\jR bA n sr z.2.2.2.1 z.2.2.2.2.2.1 z.2.2.2.2.2.2.1 z.2.2.2.2.2.2.2.1 z.2.2.2.2.2.2.2.2.1 z.2.2.2.2.1 z.2.2.2.2.2.2.2.2.2.1 z.2.2.2.2.2.2.2.2.2.2 H1/\dE (bW sr G pid) (bW sr z.2.2.2.2.2.2.2.2.2.1 z.2.2.2.2.2.2.2.2.2.2) H H1/\uX 6 z.2.1.length z.2.2.1 H1/\(∀x,z.2.2.1= .tok x->¬bW sr z.2.2.2.2.2.2.2.2.2.1 z.2.2.2.2.2.2.2.2.2.2 x/\H.length<=x)) (λ(z:Nat×List Rs×bE×fX×Memo.St×bE×bE×PV×(QK->Nat)×eL×List Nat)=>es.length-z.1) ((0,[], .full,S,st,tl1,tl2,pv,loc,G,pid)) ⟨(dJ qK),(dJ qK),(dJ qK),(dJ qK),(dJ qK),trivial⟩ (⟨aNs _,⟨rfl,rfl⟩,hW,aMq _,hS,dE.refl _ _, .inl ⟨rfl,rfl⟩,λx h=>by cases h⟩) ?_;intro z H1 hg;obtain⟨i,q,tl,SA,sA,u1,u2,pA,lA,GA,iA⟩:=z;obtain⟨HA,rfl⟩:∃HA,HA=H1:=⟨_,rfl⟩;obtain⟨hi,hpl,hWA,hql,hSA,hFA,hkA,htA⟩:=hg;simp only at hi hpl hWA hql hSA hFA hkA htA;refine aV (aS y3 qK) ?_;refine gG qK (λbt13=> ?_) (λbt13=> ?_)
 ·
  have hlt:i<es.length:=by have:=of_decide_eq_true bt13;omega
  have g1:=fS hlt;have g2:=dF Ev.enc hlt;obtain⟨e,he⟩:∃e,e=es[i]:=⟨_,rfl⟩;rw[<-he,Ev.enc_eq]at g2;have gw:IntKind.i64.wrap ((i:Int)+1)=((i+1:Nat):Int):=by rw[cL z8 z8];omega
  have hee:evOk e:=by rw[he];exact hev _ (aNq hlt)
  have hS1:=hSA.app [.row e.enc.cells];rw[Ev.enc_cells]at hS1;have hHe:=GB hS1 hWA z8 e hee;rw[Ev.enc_eq]at hHe
  repeat refine wS ?_
  refine wK ?_
  repeat refine wS ?_
  refine bJ ?_;refine aV (cF y22 qQ qK g1 g2 jZ) ?_;refine eA 2 (aS qQ qK) ?_;refine oW qK aJv (hHe) ?_;rintro r HB ⟨S2,s2,code,rs,v1,v2,p2,l2,G2,i2,k1,k2,rfl,k3,k4⟩;have hrl:=QS k1 hWA.ps;have f2:dE (bW sr GA iA) (bW sr G2 i2) HA HB:=(dE.app _ _ _ hSA.lt).trans k4;have hk2:uX 6 q.length tl HB:=hkA.fr λx hx=>f2.same x (hkA.lt x hx) (htA x hx).1;have nt2:∀x,tl= .tok x->¬bW sr G2 i2 x:=λx hx h=>(htA x hx).1 (f2.ids x h (hkA.lt x hx));refine bH qK ?_;refine eA 2 qK ?_;refine MD (enc:=Rs.enc) (xs:=q) (ys:=rs) Rs.enc_len HJ (bP qK) rfl z7 z7 (dW qK) (dW qK) hk2 wJ rfl z7 (by show _*72<=_;omega) z8 (by rw[wJ];rfl) KU rfl ?_;intro tl2 HC a1 a2 a3 a4;refine bH qK ?_;refine gQ [0,5,10,11,12] qK ?_;refine aV (bR y3 qK gw) ?_
  try simp only[bQ,cB]
  have own0:∀x,bW sr G2 i2 x->HC[x]? =HB[x]? :=λx hx=>a3 x (k3.lt x hx) (λh=>nt2 x h hx);have hn0:tl≠ .tok 0:=λh=>by have:=(htA 0 h).2;have:=lG hS.go;omega
  have hS3:=k3.fr (a3 0 (lG k3.go) hn0) own0;refine⟨(i+1,q++rs,tl2,S2,s2,v1,v2,p2,l2,G2,i2),by show _<_;omega,(by repeat (first|exact trivial|refine⟨rfl, ?_⟩)),hlt,by rw[List.take_succ_eq_append_getElem hlt,<-he];exact FE hpl k1,k2,by simp;omega,hS3,(hFA.trans f2).upd a2 (λx hx=>a3 x (by have:=(hFA.trans f2).len;omega) (λh=>by have:=(htA x h).2;omega)),a1,λx hx=> ?_⟩;rcases a4 x hx with h|h
  ·exact⟨nt2 x h,(htA x h).2⟩
  ·exact⟨λhh=>by have:=k3.lt x hh;omega,by have:=(hFA.trans f2).len;omega⟩
 ·
  have hge:=of_decide_eq_false bt13;obtain rfl:i=es.length:=z8
  repeat refine wS ?_
  refine dO ?_;simp only[bQ,cB,reduceIte,Nat.reduceEqDiff,aOf,if_true,if_false];refine aV qK ?_
  repeat refine wS ?_
  refine wT ⟨.inr rfl,_,rfl, ?_⟩;rw[aOj]at hpl;exact⟨SA,sA,q,u1,u2,pA,lA,GA,iA,hpl,hWA,⟨_,rfl⟩,hSA,hFA⟩
end Go.Abs
namespace Go.Abs
open Go.Proofs Go.Memo
def exT:List UInt8:= [99,111,110,115,116,32,99,58,32,105,110,116,32,61,32,49,59]
def ex1:Ev:=⟨1,0,0,[109],exT,[],⟨0,0,0,0,[]⟩⟩
def ex2:Ev:=⟨4,0,0,[],[],[],⟨0,7,3,0,[109]⟩⟩
def ex3:Ev:=⟨6,1,0,[],[],[],⟨0,0,0,0,[]⟩⟩
def exR:Rs:=⟨0,7,0,1,[3,17],[]⟩
def aCq:fX:=⟨[⟨[109],exT⟩],[1],[],1⟩
def VM:fX:=⟨[⟨[109],exT⟩],[1],[⟨0,7,3,0,[109]⟩],1⟩
theorem aH1:kK S0S ex1=(0,[],aCq):=by kernel_rfl
theorem aIa:kK aCq ex2=(0,[],VM):=by kernel_rfl
theorem aKa:kK VM ex3=(0,[],VM):=by kernel_rfl
theorem aKt:oJ VM ⟨0,7,3,0,[109]⟩=exR:=by kernel_rfl
theorem aKq:MM aCq [109]=(1,0):=by kernel_rfl
theorem aDg{S':fX}{rs:List Rs}(h:GI S0S [ex1,ex2,ex3] S' rs):S'=aCq/\rs= [exR]:=by
 obtain⟨S1,c1,r1,q1,⟨h1,h2⟩,⟨S2,c2,r2,q2,⟨k1,k2⟩,⟨S3,c3,r3,q3,⟨l1,l2⟩,⟨rfl,rfl⟩,rfl⟩,rfl⟩,rfl⟩:=h;rcases h2 with⟨e,_⟩| ⟨_,rfl,rfl⟩
 ·cases e
 rw[aH1]at*;rcases k2 with⟨e,_⟩| ⟨_,rfl,rfl⟩
 ·cases e
 simp only at l1 l2;rw[aIa]at*;simp only at l1 l2;rw[aKa]at*;rcases l2 with⟨_,_,k,k1,k2,rfl,rfl,_⟩| ⟨e,_⟩
 ·have hk:k=1:=by
   simp only[VM,aM7,aOa]at k1 k2;have:ex3.n=1:=rfl;omega
  subst hk;refine⟨rfl, ?_⟩;show []++([]++([oJ VM ⟨0,7,3,0,[109]⟩]++ []))=_;rw[aKt];rfl
 ·exact absurd ⟨rfl,l1⟩ e
theorem VO{H:aH}(h0:H[0]? =some gO):aR Tryz.prog 4 [] H (λr H'=>r= .bool true/\H.length<=H'.length/\∀j,j<H.length->H'[j]? =H[j]?):=by
 have em:maxLen=9223372036854775807:=z7
 have hl0:1<=H.length:=lG h0;refine aF (N:=37) Tryz.func4 rfl rfl zz λhb'=> ?_;refine aV (aS qK qR) ?_
 repeat refine wS ?_
 refine wR ?_;refine oW (aS qK qR) aJu (WH H) ?_;rintro _ HA ⟨rfl,hHA⟩;have hS:=RF h0;rw[<-hHA]at hS;have hAs:∀j,j<H.length->HA[j]? =H[j]? :=λj hj=>by rw[hHA];exact aM0 hj
 have hAl:H.length<=HA.length:=by rw[hHA];simp
 clear hHA;refine bH (aS qK qR) ?_;refine eA 6 (bL y22 jH qQ qK qR) ?_;refine oW (aS qK qR) aJf ((by have q:=aF8 hS WU [ex1,ex2,ex3] z7 (λe he=>by simp only[aN2,aOc,or_false]at he;rcases he with rfl|rfl|rfl<;>exact⟨z7,z7,z7,λx hx=>by cases hx⟩);simp only[aNl,aOb,Ev.enc_eq]at q;exact q)) ?_;rintro r HB ⟨S2,s2,rs,t1,t2,pv,loc,G2,pid,hp,hW,⟨tl,rfl⟩,hS2,hF⟩;obtain⟨rfl,rfl⟩:=aDg hp;have hBs:∀j,j<H.length->HB[j]? =H[j]? :=λj hj=>(hF.same j z8 (λh=>by exact(h.elim (λh=>by have:=AH h;omega) (λh=>h.elim (λh=>z8) (λh=>by cases h))))).trans (hAs j hj);rw[show [exR].map Rs.enc= [.agg [.int .i64 0, .int .i64 7, .int .i64 0, .int .i64 1, .slice [.int .i64 3, .int .i64 17] .none, .str []]]from rfl];have hBl:=hF.len;refine bH (aS qK qR) ?_;refine eA 1 (aS qK qR) ?_;refine qT (aS qK qR) aDx ((by have q:=FM hS2 [109] z7 rfl;rw[aKq]at q;exact q)) ?_;refine bH (aS qK qR) ?_;refine gQ [1,2,3,4] (aS qK qR) ?_;refine eA 4 (cF y3 y35 lW qO qK qR) ?_;refine qT (aS qK qR) aDk ((by have q:=aAr [exR] z7 (λr hr=>by rw[aN8]at hr;subst hr;decide) HB;rw[show [exR].map Rs.enc= [.agg [.int .i64 0, .int .i64 7, .int .i64 0, .int .i64 1, .slice [.int .i64 3, .int .i64 17] .none, .str []]]from rfl]at q;exact q)) ?_;refine DS 10 (bD y3 EN qK qR) ?_;refine oW (aS qK qR) aDs (GK hS2 z7) ?_;rintro r HC ⟨⟨tl2,rfl⟩,q1,q2⟩;refine bH (bL y3 jH qU qK qR) ?_
 repeat refine wS ?_
 refine wT ⟨.inr rfl,_,rfl, ?_⟩;exact⟨rfl,z8,λj hj=>(q2 j z8).trans (hBs j hj)⟩
end Go.Abs
