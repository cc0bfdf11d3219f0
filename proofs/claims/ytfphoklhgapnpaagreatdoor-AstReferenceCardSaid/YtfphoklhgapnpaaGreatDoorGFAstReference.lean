/- Part 11 of a proof of the law AstReference: Go data as trees, the walks of the functions that the law reaches, the plain laws. -/
import Derived.Test.YtfphoklhgapnpaaGreatDoorGEAstReference
import Derived.Shelf.Strings.Builder1
import Derived.Shelf.Strings.BuilderF
import Derived.Shelf.Strings.BuilderK
import Derived.Lib.FrozenHead2
import Derived.Test.YtfphoklhgapnpaaGreatDoorProg
import Derived.Shelf.Strconv.AtoiAll
import Derived.Lib.AtoiErrMem
import Derived.Shelf.SlLaysF0
import Derived.Ground.SlsfProg
import Derived.Ground.Names2Prog
import Derived.Shelf.Small.Wraps
import Derived.WalkKit
import Derived.BigCall
import Derived.Lib.Hide
import Derived.StillTailTactics
import Derived.Sort.Grow
import Derived.Shelf.SlSortCmp.InsertionK
import Derived.Shelf.SlSortCmp.WholeK
import Derived.Shelf.SlSortCmp.NoneTotal
open List renaming all_eq_true->aTr,append_assoc->aUa,append_nil->aT4,cons_append->aSg,drop_eq_getElem_cons->aUc,drop_zero->aUh,getD_eq_getElem?_getD->aTe,getElem?_append_left->aSv,getElem?_append_right->aSw,getElem?_cons_zero->aTo,getElem?_eq_getElem->aTd,getElem?_map->aTb,getElem?_set_ne->aS0,getElem?_set_self->aSz,getElem?_toArray->aTa,getElem_cons_zero->aSj,getElem_map->aSh,getElem_mem->aTk,length_append->aTi,length_cons->aS2,length_drop->aS8,length_eq_zero_iff->aTx,length_map->aSr,length_nil->aT5,length_singleton->aSi,length_take->aS9,map_cons->aTg,map_nil->aT6,mem_append->aTs,mem_cons->aTv,mem_cons_of_mem->aUj,mem_map->aTq,mem_singleton->aT2,nil_append->aT1,not_mem_nil->aT7,replicate->aS6,set_append_right->aTw,set_set->aUe,take_append_drop->aT3,take_length->aUd,take_of_length_le->aUf,take_succ_eq_append_getElem->aT8
open Option renaming getD_some->aSu,isSome_none->aTm,map_some->aS1
open Go.Sem renaming run_bind->aS4,run_pure->aS7
open Nat renaming le_refl->aSl,le_trans->aSm,lt_of_lt_of_le->aSn,lt_or_ge->aSk,lt_succ_self->aT9,succ_ne_self->aUb,zero_add->aTh,zero_le->aTn
open Bool renaming false_eq_true->aTc,not_false->aTp,not_true->aTt
open Array renaming getD_eq_getD_getElem?->aSo,getElem?_eq_getElem->aSt,getElem?_toList->aTf,length_toList->aSs
open Go.Result renaming andThen_ok->aS5
set_option linter.unusedSectionVars false
set_option linter.unnecessarySimpa false
set_option linter.unusedVariables false
set_option linter.unusedSimpArgs false
namespace Go.Proofs
open Go.Shelf Go.RowKit
theorem Tryz.szB:(Tryz.prog.info? 126).map (·.size)=some 2:=by kernel_rfl
theorem Tryz.infoByte:(Tryz.prog.info? 5).map (λi=>(i.zero,i.size,i.bytes))=some (some (.int .u8 0),1,1):=by kernel_rfl
theorem Tryz.app1(w:World)(b:Nat)(v:Value)(xs:List Value)(hown:w.ownsRowF b 5 1 v xs.length xs)(a:Addr)(c:Value)(hc:w.cell? a=some c)(h1:c.oneCell'=true)(hb:b<=w.heap.size)(hn:xs.length+1<=140737488355328):
  ∃v' w',(Builtin.append_ #[124,124] 124 #[v, .slice (some a) 1 1]).run Tryz.prog w= .ok v' w'/\w'.ownsRowF b 5 1 v' (xs.length+1) (xs++ [c])/\w.grownBy w' v.ownBlock/\(v'.ownBlock=v.ownBlock\/∃x,v'.ownBlock=some x/\w.heap.size<=x):=by
 obtain⟨i,hi,hz,hs,hy⟩:=info_parts Tryz.infoByte;have hnews:∀j u,[c][j]? =some u->w.cell? (a.add j)=some u:=λj u hj=>by
  match j,hj with
  |0,hj=>simp at hj;subst hj;simpa[Addr.add]using hc
 have h63:xs.length+1<=maxLen:=by unfold maxLen;omega
 have ho:∀u∈ [c],u.oneCell'=true:=λu hu=>by rw[aT2]at hu;subst hu;exact h1
 obtain⟨v',w',r1,r2,r3,_⟩:=run_append_ownF (P:=Tryz.prog) w b 124 124 5 i (.int .u8 0) 1 1 Tryz.underlying124 hi hz hs hy rfl z7 v xs.length xs hown a 1 1 [c] rfl hnews ho h63 z8 hb;refine⟨v',w',r1,r2,r3, ?_⟩;rcases hown.2 with⟨rfl,h0⟩| ⟨g,cap,cur,fz,rfl,hbg,hg,hfz,hnc,hcm,hcs,htake⟩
 ·have hx:xs= []:=aTx.1 h0;subst hx;obtain⟨v2,w2,q1,q2,_,_⟩:=run_append_own (P:=Tryz.prog) w w.heap.size 124 124 5 i (.int .u8 0) 1 1 Tryz.underlying124 hi hz hs hy rfl z7 (.slice none 0 0) 0 [] ⟨rfl, .inl ⟨rfl,rfl⟩⟩ a 1 1 [c] rfl hnews ho h63 z8 (aSl _);rw[q1]at r1;injection r1 with e1 e2;subst e1 e2;rcases q2.2 with⟨_,h⟩| ⟨g,cap,cur,rfl,hx,_⟩
  ·simp at h
  ·exact .inr ⟨g,rfl,hx⟩
 ·by_cases hroom:xs.length+1<=cap
  ·have q1:=run_append_roomF (P:=Tryz.prog) w 124 124 5 i Tryz.underlying124 hi g xs.length cap cur fz hg (by rw[hs];exact hfz) a 1 1 [c] (by rw[hs];rfl) hnews ho hroom (by rw[hs,hcs];simp;omega);rw[q1]at r1;injection r1 with e1 e2;subst e1;exact .inl rfl
  ·have holds:∀j u,xs[j]? =some u->w.cell? ((⟨g,0,none⟩:Addr).add j)=some u:=hown.cells (g:=g) rfl;have q1:=run_append_grow (P:=Tryz.prog) w 124 124 5 i (.int .u8 0) Tryz.underlying124 hi hz ⟨g,0,none⟩ xs.length cap xs (by rw[hs];simp) holds a 1 1 [c] (by rw[hs];rfl) hnews z8 z8 (growslice_fits z8 (by rw[hy];omega));rw[q1]at r1;injection r1 with e1 e2;subst e1;exact .inr ⟨_,rfl,aSl _⟩
set_option maxHeartbeats 1000000 in
set_option maxRecDepth 100000 in
theorem Tryz.ccUsed(b:Nat)(w:World)(h0:w.cell? ⟨b,0,none⟩=some (.pointer (some ⟨b,0,none⟩))):
  Calls Tryz.prog 119 #[.pointer (some ⟨b,0,none⟩)] w λe w'=>e= .returned (.tuple #[])/\w'=w:=by
 obtain⟨j,hj,_⟩:=Option.map_eq_some_iff.1 Tryz.szB;have mixed:Tryz.prog.follows .mixedOrders=true:=by kernel_rfl
 have t72:=Tryz.underlying126;have a72:=Tryz.isAgg126;have z72:=Tryz.sizeOf126;have v72:=Tryz.zeroValue126;have u72:=run_underlying Tryz.underlying126;have t70:=Tryz.underlying123;have a70:=Tryz.isAgg123;have z70:=Tryz.sizeOf123;have v70:=Tryz.zeroValue123;have u70:=run_underlying Tryz.underlying123;have t4:=Tryz.underlying4;have a4:=Tryz.isAgg4;have z4:=Tryz.sizeOf4;have v4:=Tryz.zeroValue4;have u4:=run_underlying Tryz.underlying4;have t164:=Tryz.underlying223;have a164:=Tryz.isAgg223;have z164:=Tryz.sizeOf223;have v164:=Tryz.zeroValue223;have u164:=run_underlying Tryz.underlying223
 go_enter Tryz.func119,Tryz.ntmps119
 go_wp2
 rw[Lib.run_neq_ptr_same w _ Tryz.underlying123 hj]
 go_wp2
 go_end0
 exact⟨rfl,rfl⟩
set_option maxHeartbeats 1000000 in
set_option maxRecDepth 100000 in
theorem Tryz.ccFresh(b:Nat)(w:World)(h0:w.cell? ⟨b,0,none⟩=some (.pointer none))(hsh:w.shape? b=some (126,2))(hfz:w.frozen? ⟨b,0,none⟩=false):
  Calls Tryz.prog 119 #[.pointer (some ⟨b,0,none⟩)] w λe w'=>e= .returned (.tuple #[])/\w'=w.setCell ⟨b,0,none⟩ (.pointer (some ⟨b,0,none⟩)):=by
 obtain⟨j,hj,hjs⟩:=Option.map_eq_some_iff.1 Tryz.szB;have mixed:Tryz.prog.follows .mixedOrders=true:=by kernel_rfl
 have t72:=Tryz.underlying126;have a72:=Tryz.isAgg126;have z72:=Tryz.sizeOf126;have v72:=Tryz.zeroValue126;have u72:=run_underlying Tryz.underlying126;have t70:=Tryz.underlying123;have a70:=Tryz.isAgg123;have z70:=Tryz.sizeOf123;have v70:=Tryz.zeroValue123;have u70:=run_underlying Tryz.underlying123;have t4:=Tryz.underlying4;have a4:=Tryz.isAgg4;have z4:=Tryz.sizeOf4;have v4:=Tryz.zeroValue4;have u4:=run_underlying Tryz.underlying4;have t164:=Tryz.underlying223;have a164:=Tryz.isAgg223;have z164:=Tryz.sizeOf223;have v164:=Tryz.zeroValue223;have u164:=run_underlying Tryz.underlying223
 go_enter Tryz.func119,Tryz.ntmps119
 go_wp2
 rw[Lib.run_to_unsafe w ⟨b,0,none⟩ Tryz.underlying123 Tryz.underlying223 hj (by rw[hjs];decide) hsh (Nat.zero_lt_succ 1)];simp only[Result.andThen];rw[Oper.upon_value]
 go_wp2
 rw[run_callFunc_extern Tryz.func186 (by kernel_rfl) (by kernel_rfl) (by kernel_rfl) (e:=Extern.AbiNoEscape.same) (by kernel_rfl)];rw[Lib.run_noEscape];simp only[Result.andThen];rw[Oper.upon_value]
 go_wp2
 rw[Lib.run_from_unsafe w ⟨b,0,none⟩ Tryz.underlying223 Tryz.underlying123 hj hsh (by kernel_rfl)];simp only[Result.andThen];rw[Oper.upon_value]
 go_wp2
 go_end0
 exact⟨rfl,rfl⟩
def PBu(b:Nat)(l:List UInt8)(w:World)(g:Option Nat):Prop:=∃p v,(p= .pointer none\/p= .pointer (some ⟨b,0,none⟩))/\w.heap[b]? =some (.cells #[p,v] 126 (0,0))/\w.ownsRowF b 5 1 v l.length (Lib.byteCells l)/\v.ownBlock≠some b/\v.ownBlock=g
structure Tn(b:Nat)(g:Option Nat)(w w':World):Prop where
 os:w'.os=w.os
 tape:w'.tape=w.tape
 output:w'.output=w.output
 size:w.heap.size<=w'.heap.size
 block:∀k,k<w.heap.size->k≠b->some k≠g->w'.heap[k]? =w.heap[k]?
theorem Tn.set{b:Nat}{g:Option Nat}{w w':World}(h:Tn b g w w')(off:Nat)(v:Value):Tn b g w (w'.setCell ⟨b,off,none⟩ v):=
 ⟨h.os,h.tape,h.output,by simp[World.setCell,h.size],λk hk hb hg=>by rw[Below.heap_setCell _ _ _ _ (λe=>hb e)];exact h.block k hk hb hg⟩
theorem Tn.grown{b:Nat}{g:Option Nat}{w w1 w':World}(h:Tn b g w w1)(hg:w1.grownBy w' g):Tn b g w w':=
 ⟨hg.os.trans h.os,hg.tape.trans h.tape,hg.output.trans h.output,aSm h.size hg.size,λk hk hb he=>by rw[hg.block k (aSn hk h.size) he];exact h.block k hk hb he⟩
theorem Tn.refl(b:Nat)(g:Option Nat)(w:World):Tn b g w w:=⟨rfl,rfl,rfl,aSl _,λ_ _ _ _=>rfl⟩
theorem Tryz.cc(b:Nat)(l:List UInt8)(w:World)(g:Option Nat)(h:PBu b l w g):
  Calls Tryz.prog 119 #[.pointer (some ⟨b,0,none⟩)] w λe w'=>e= .returned (.tuple #[])/\(∃v,w'.heap[b]? =some (.cells #[.pointer (some ⟨b,0,none⟩),v] 126 (0,0))/\w'.ownsRowF b 5 1 v l.length (Lib.byteCells l)/\v.ownBlock≠some b/\v.ownBlock=g)/\Tn b g w w':=by
 obtain⟨p,v,hp,hb,hown,hne,hg⟩:=h;have c0:w.cell? ⟨b,0,none⟩=some p:=by rw[Lib.cell_of_heap hb];rfl
 rcases hp with rfl|rfl
 ·have hA:Lib.BuilderAtF 126 5 b b (.pointer none) (Lib.byteCells l) w:=⟨aSl _,v,hb,by rw[Lib.byteCells_length];exact hown,hne⟩;refine(Tryz.ccFresh b w c0 hA.shape hA.frozen0).mono ?_;rintro e w' ⟨rfl,rfl⟩;have hlt:b<w.heap.size:=(Array.getElem?_eq_some_iff.1 hb).1;have hsz:(w.setCell ⟨b,0,none⟩ (.pointer (some ⟨b,0,none⟩))).heap.size=w.heap.size:=by simp[World.setCell]
  refine⟨rfl,⟨v, ?_, ?_,hne,hg⟩,(Tn.refl b g w).set 0 _⟩
  ·have:(w.setCell ⟨b,0,none⟩ (.pointer (some ⟨b,0,none⟩))).heap[b]? =some (.cells #[.pointer (some ⟨b,0,none⟩),v] 126 (0,0)):=by
    simp only[World.setCell,Array.getElem?_modify,if_true,hb];rfl
   exact this
  ·exact hown.kept (row:=some b) ⟨rfl,rfl,rfl,by rw[hsz];exact aSl _,λk hk he=>by rw[Below.heap_setCell _ _ _ _ (λe=>he (by rw[e]))]⟩ (.inr hne)
 ·refine(Tryz.ccUsed b w c0).mono ?_;rintro e w' ⟨rfl,rfl⟩;exact⟨rfl,⟨v,hb,hown,hne,hg⟩,Tn.refl b g _⟩
theorem Tryz.wpApp1{ops:Array Oper}{rest:List Oper}{o:Oper}{a:Act}{w:World}{Q:Exit->Act->World->Prop}(hgd:o.guard=none)(s x:Operand)(ho:o.op= .call {callee:=.builtin .append,args:= #[s,x],argTypes:= #[124,124]})(hot:o.type=124)
  (b:Nat) (v:Value) (xs:List Value) (hs:a.eval s=v) (hown:w.ownsRowF b 5 1 v xs.length xs) (ad:Addr) (c:Value) (hx:a.eval x= .slice (some ad) 1 1) (hc:w.cell? ad=some c) (h1:c.oneCell'=true) (hb:b<=w.heap.size) (hn:xs.length+1<=140737488355328)
  (h:∀v' w',w'.ownsRowF b 5 1 v' (xs.length+1) (xs++ [c])->w.grownBy w' v.ownBlock->(v'.ownBlock=v.ownBlock\/∃x,v'.ownBlock=some x/\w.heap.size<=x)->wpList Tryz.prog ops Q rest (a.put o.dst v') w'):wpList Tryz.prog ops Q (o::rest) a w:=by
 refine wpList_plain hgd λK hK=> ?_;obtain⟨v',w',hr,h2,h3,h4⟩:=Tryz.app1 w b v xs hown ad c hc h1 hb hn;unfold Oper.wp execOp;simp only[ho,hot,resolve,invoke,builtin,aS4,aS7,aS5,List.map_toArray,aTg,aT6,hs,hx,hr];exact hK _ _ (h v' w' h2 h3 h4)
set_option maxHeartbeats 2000000 in
set_option maxRecDepth 100000 in
theorem Tryz.wb(b:Nat)(l:List UInt8)(c:UInt8)(w:World)(g:Option Nat)(h:PBu b l w g)(hlen:l.length+1<=140737488355328):
  Calls Tryz.prog 150 #[.pointer (some ⟨b,0,none⟩), .int .u8 c.toNat] w λe w'=>e= .returned .nilIface/\∃g',PBu b (l++ [c]) w' g'/\Tn b g w w'/\(g'=g\/∃x,g'=some x/\w.heap.size<=x):=by
 have mixed:Tryz.prog.follows .mixedOrders=true:=by kernel_rfl
 have t72:=Tryz.underlying126;have a72:=Tryz.isAgg126;have z72:=Tryz.sizeOf126;have v72:=Tryz.zeroValue126;have u72:=run_underlying Tryz.underlying126;have t70:=Tryz.underlying123;have a70:=Tryz.isAgg123;have z70:=Tryz.sizeOf123;have v70:=Tryz.zeroValue123;have u70:=run_underlying Tryz.underlying123;have t4:=Tryz.underlying4;have a4:=Tryz.isAgg4;have z4:=Tryz.sizeOf4;have v4:=Tryz.zeroValue4;have u4:=run_underlying Tryz.underlying4;have t164:=Tryz.underlying223;have a164:=Tryz.isAgg223;have z164:=Tryz.sizeOf223;have v164:=Tryz.zeroValue223;have u164:=run_underlying Tryz.underlying223;have t37:=Tryz.underlying124;have a37:=Tryz.isAgg124;have z37:=Tryz.sizeOf124;have v37:=Tryz.zeroValue124;have u37:=run_underlying Tryz.underlying124;have t9:=Tryz.underlying9;have a9:=Tryz.isAgg9;have z9:=Tryz.sizeOf9;have v9:=Tryz.zeroValue9;have u9:=run_underlying Tryz.underlying9;have t5:=Tryz.underlying5;have a5:=Tryz.isAgg5;have z5:=Tryz.sizeOf5;have v5:=Tryz.zeroValue5;have u5:=run_underlying Tryz.underlying5;have t128:=Tryz.underlying128;have a128:=Tryz.isAgg128;have z128:=Tryz.sizeOf128;have v128:=Tryz.zeroValue128;have u128:=run_underlying Tryz.underlying128;have e240:∀args w,(callFunc 119 args).run Tryz.prog w= .ok (.enter 119 args) w:=enters_of Tryz.func119 (by kernel_rfl) rfl
 go_enter Tryz.func150,Tryz.ntmps150
 go_wp2_with (go_at_fn 119;refine(Tryz.cc b l _ g h).mono ?_)
 rintro e w1 ⟨rfl,⟨v,hbk,hown,hne,hg⟩,hT1⟩;subst hg;have c0:w1.cell? ⟨b,0,none⟩=some (.pointer (some ⟨b,0,none⟩)):=by rw[Lib.cell_of_heap hbk];rfl
 have c1:w1.cell? ⟨b,1,none⟩=some v:=by rw[Lib.cell_of_heap hbk];rfl
 have hlt:b<w1.heap.size:=(Array.getElem?_eq_some_iff.1 hbk).1
 go_wp2_with (at_builtin;refine Tryz.wpApp1 rfl _ _ rfl rfl b _ (Lib.byteCells l) rfl (by rw[Lib.byteCells_length];exact hown.alloc _) ⟨w1.heap.size,0,none⟩ (.int .u8 c.toNat) rfl ?c1 rfl ?c2 ?c3 ?_)
 case c1=>
  have:(w1.alloc (.cells #[.int .u8 c.toNat] 5)).heap[w1.heap.size]? =some (.cells #[.int .u8 c.toNat] 5 (0,0)):=heap_alloc_new w1 _;rw[Lib.cell_of_heap this];rfl
 case c2=>simp;omega
 case c3=>rw[Lib.byteCells_length];exact hlen
 intro v' w2 hown' hgrow hfr;have hb2:w2.heap[b]? =some (.cells #[.pointer (some ⟨b,0,none⟩),v] 126 (0,0)):=by
  rw[hgrow.block b (by simp;omega) (λe=>hne e.symm),Lib.alloc_old w1 _ b hlt];exact hbk
 have d0:w2.cell? ⟨b,0,none⟩=some (.pointer (some ⟨b,0,none⟩)):=by rw[Lib.cell_of_heap hb2];rfl
 have d1:w2.cell? ⟨b,1,none⟩=some v:=by rw[Lib.cell_of_heap hb2];rfl
 have f1:w2.frozen? ⟨b,1,none⟩=false:=Lib.frozen_of_heap hb2 1;obtain⟨ao,n',cap,rfl⟩:∃ao n' cap,v'= .slice ao n' cap:=by
  rcases hown'.2 with⟨hv,_⟩| ⟨g,cap,cur,fz,hv,_⟩
  ·exact⟨_,_,_,hv⟩
  ·exact⟨_,_,_,hv⟩
 go_wp2
 go_ret
 have hvb:(Value.slice ao n' cap).ownBlock≠some b:=by
  rcases hfr with h| ⟨x,h,hx⟩
  ·rw[h];exact hne
  ·rw[h];intro e;injection e with e;have:w1.heap.size<=x:=aSm z6 hx;omega
 have hsz:w1.heap.size<=w2.heap.size:=by have:=hgrow.size;simp at this;omega
 refine⟨rfl,(Value.slice ao n' cap).ownBlock,⟨_, .slice ao n' cap, .inr rfl, ?_, ?_,hvb,rfl⟩, ?_, ?_⟩
 ·simp only[World.setCell,Array.getElem?_modify,if_true,hb2];rfl
 ·have e1:Lib.byteCells (l++ [c])=Lib.byteCells l++ [.int .u8 c.toNat]:=by simp[Lib.byteCells]
  rw[e1,aTi];rw[Lib.byteCells_length]at hown';exact hown'.kept (row:=some b) ⟨rfl,rfl,rfl,by simp[World.setCell],λk hk he=>by rw[Below.heap_setCell _ _ _ _ (λe=>he (by rw[e]))]⟩ (.inr hvb)
 ·have hA:Tn b v.ownBlock w (w1.alloc (.cells #[.int .u8 c.toNat] 5)):=⟨hT1.os,hT1.tape,hT1.output,by have:=hT1.size;simp;omega,λk hk hb he=>by rw[Lib.alloc_old w1 _ k (aSn hk hT1.size)];exact hT1.block k hk hb he⟩;exact(hA.grown hgrow).set 1 _
 ·rcases hfr with h| ⟨x,h,hx⟩
  ·exact .inl h
  ·refine .inr ⟨x,h, ?_⟩;exact aSm hT1.size (aSm z6 hx)
set_option maxHeartbeats 2000000 in
set_option maxRecDepth 100000 in
theorem Tryz.bstr(b:Nat)(l:List UInt8)(w:World)(g:Option Nat)(h:PBu b l w g)(hn:l= []->g=none):
  Calls Tryz.prog 63 #[.pointer (some ⟨b,0,none⟩)] w λe w'=>e= .returned (.string ⟨l.toArray⟩)/\Tn b g w w':=by
 obtain⟨p,v,hp,hbk,hown,hne,hg⟩:=h;have mixed:Tryz.prog.follows .mixedOrders=true:=by kernel_rfl
 have t72:=Tryz.underlying126;have a72:=Tryz.isAgg126;have z72:=Tryz.sizeOf126;have v72:=Tryz.zeroValue126;have u72:=run_underlying Tryz.underlying126;have t70:=Tryz.underlying123;have a70:=Tryz.isAgg123;have z70:=Tryz.sizeOf123;have v70:=Tryz.zeroValue123;have u70:=run_underlying Tryz.underlying123;have t37:=Tryz.underlying124;have a37:=Tryz.isAgg124;have z37:=Tryz.sizeOf124;have v37:=Tryz.zeroValue124;have u37:=run_underlying Tryz.underlying124;have t127:=Tryz.underlying183;have a127:=Tryz.isAgg183;have z127:=Tryz.sizeOf183;have v127:=Tryz.zeroValue183;have u127:=run_underlying Tryz.underlying183;have t3:=Tryz.underlying3;have a3:=Tryz.isAgg3;have z3:=Tryz.sizeOf3;have v3:=Tryz.zeroValue3;have u3:=run_underlying Tryz.underlying3;have t9:=Tryz.underlying9;have a9:=Tryz.isAgg9;have z9:=Tryz.sizeOf9;have v9:=Tryz.zeroValue9;have u9:=run_underlying Tryz.underlying9;have t5:=Tryz.underlying5;have a5:=Tryz.isAgg5;have z5:=Tryz.sizeOf5;have v5:=Tryz.zeroValue5;have u5:=run_underlying Tryz.underlying5;have c1:w.drew.cell? ⟨b,1,none⟩=some v:=by
  have:w.drew.heap[b]? =some (.cells #[p,v] 126 (0,0)):=hbk;rw[Lib.cell_of_heap this];rfl
 rcases hown.2 with⟨rfl,h0⟩| ⟨g',cap,cur,fz,rfl,hbg,hg',hfz,hnc,hcm,hcs,htake⟩
 ·obtain rfl:l= []:=aTx.1 h0;have hSD:(Builtin.unsafeSliceData_ #[124] 183 #[.slice none 0 0]).run Tryz.prog w.drew= .ok (.pointer none) w.drew:=rfl;have hUS:∀W,(Builtin.unsafeString_ #[183,3] 9 #[.pointer none, .int .i64 0]).run Tryz.prog W= .ok (.string .empty) W:=λW=>Lib.run_unsafeString_none W _ _ _ none
  go_enter Tryz.func63,Tryz.ntmps63
  go_wp2
  go_region_o
  all_goals (go_wp2;go_ret;exact⟨rfl,rfl,rfl,rfl,aSl _,λ_ _ _ _=>rfl⟩)
 ·have hl0:l≠ []:=λe=>by have:=hn e;rw[<-hg]at this;cases this
  have hl1:l.length≠0:=λe=>hl0 (aTx.1 e);have hgg:w.drew.heap[g']? =some (.cells cur 5 fz):=hg';have hSD:(Builtin.unsafeSliceData_ #[124] 183 #[.slice (some ⟨g',0,none⟩) l.length cap]).run Tryz.prog w.drew= .ok (.pointer (some ⟨g',0,none⟩)) w.drew:=Lib.run_unsafeSliceData_row _ _ _ _ _ _ z8;have hUS:(Builtin.unsafeString_ #[183,3] 9 #[.pointer (some ⟨g',0,none⟩), .int .i64 l.length]).run Tryz.prog w.drew= .ok (.string ⟨l.toArray⟩) (w.drew.freeze ⟨g',0,none⟩ l.length):=by
   refine Lib.run_unsafeString_row w.drew 183 3 9 5 Tryz.underlying183 (by kernel_rfl) g' cur.size (by simp[World.shape?,hgg]) l hl0 z8 (by unfold maxLen at hcm;omega) ?_;intro j x hx;exact hown.cells (g:=g') rfl j (.int .u8 x.toNat) (by simp[Lib.byteCells,hx])
  have hfin:Tn b g w (w.drew.freeze ⟨g',0,none⟩ l.length):=by
   subst hg;have hq:∀k,k≠g'->(w.drew.freeze ⟨g',0,none⟩ l.length).heap[k]? =w.heap[k]? :=λk hk=>by
    unfold World.freeze
    split
    ·rfl
    ·simp only[Array.getElem?_modify,if_neg (Ne.symm hk)];rfl
   refine⟨?_, ?_, ?_, ?_,λk hk hb he=>hq k λe=>he (by rw[e];rfl)⟩<;>(unfold World.freeze;split<;>first|rfl|exact aSl _|exact Nat.le_of_eq (Array.size_modify).symm)
  clear hn hl0 hl1 hg
  go_enter Tryz.func63,Tryz.ntmps63
  go_wp2
  go_region_o
  all_goals (go_wp2;go_ret;exact⟨rfl,hfin⟩)
end Go.Proofs
namespace Go.Abs
open Go.Proofs Go.RowKit
theorem aE.leN.cut{m n:Nat}{A B:aE}(h:A.leN m B)(hn:n<=m):A.leN n B:=⟨h.os,h.tape,h.output,h.size,h.other,h.cell,λid hi hb=>h.bornv id (aSn hi hn) hb,h.born⟩
structure Bx(E0:aE)(nb id:Nat)(l:List UInt8)(E:aE):Prop where
 le:E0.leN nb E
 born:E.view.born id
 pb:∃g,PBu (E.ρ id) l E.w g/\(l= []->g=none)/\∀x,(x=E.ρ id\/g=some x)->E0.w.heap.size<=x/\x<E.w.heap.size/\¬E.owns x/\E.κ x= .mut
theorem aMn{b:Nat}{l:List UInt8}{w w':World}{g:Option Nat}(h:PBu b l w g)(hb:w'.heap[b]? =w.heap[b]?)(hg:∀x,g=some x->w'.heap[x]? =w.heap[x]?):PBu b l w' g:=by
 obtain⟨p,v,h1,h2,h3,h4,h5⟩:=h;refine⟨p,v,h1,hb.trans h2,⟨h3.1, ?_⟩,h4,h5⟩;rcases h3.2 with q| ⟨x,cap,cur,fz,hv,k1,k2,k3⟩
 ·exact .inl q
 ·exact .inr ⟨x,cap,cur,fz,hv,k1,(hg x (by rw[<-h5,hv];rfl)).trans k2,k3⟩
theorem aCr{E0:aE}{nb nb' id:Nat}{l:List UInt8}(h1:nb<=nb')(h2:id<nb'):UZ nb' (Bx E0 nb id l):=by
 intro E E' h ho hle ho';obtain⟨g,hp,hn,hx⟩:=h.pb;obtain⟨b1,b2,_⟩:=hle.bornv id h2 h.born;have hr:E'.ρ id=E.ρ id:=b2;have key:∀x,(x=E.ρ id\/g=some x)->E'.κ x=E.κ x/\E'.w.heap[x]? =E.w.heap[x]? :=λx q=>by
  obtain⟨k1,k2,k3,k4⟩:=hx x q;exact hle.other x k2 k3
 refine⟨h.le.trans (hle.cut h1),b1,g, ?_,hn,λx q=> ?_⟩
 ·rw[hr];exact aMn hp (key _ (.inl rfl)).2 λx e=>(key x (.inr e)).2
 ·rw[hr]at q;obtain⟨k1,k2,k3,k4⟩:=hx x q;exact⟨k1,aSn k2 hle.size,λo=>k3 (hle.born x k2 o),(key x q).1.trans k4⟩
theorem xJ{b:Nat}{g:Option Nat}{w w':World}(h:Tn b g w w'):aO7 (λk=>k=b\/g=some k) w w':=
 ⟨h.os,h.tape,h.output,h.size,λk hk hn=>h.block k hk (λe=>hn (.inl e)) λe=>hn (.inr e.symm)⟩
theorem aAw{V:cS}{vargs:Array Value}{id:Nat}{ps:List PV}(h:RL V vargs (.optr id 0::ps)):vargs[0]? =some (.pointer (some ⟨V.rho id,0,none⟩)):=by
 have h0:=h.2 0 z6;have hs:0<vargs.size:=by rw[h.1];simp
 simp only[aSj]at h0;rw[aSo,aSt hs,aSu]at h0;rw[aSt hs];generalize vargs[0]=v at h0;cases h0;rfl
theorem aQv{E0:aE}{nb id:Nat}{l:List UInt8}{c:UInt8}{H:aC}(hlen:l.length+1<=140737488355328)(E:aE)(vargs:Array Value)(hC:Bx E0 nb id l E)(ho:E.Ok)(hH:E.H=H)(hrl:RL E.view vargs [.optr id 0, .int .u8 c.toNat]):
  Calls Tryz.prog 150 vargs E.w λe w'=>∃(E':aE) (v:Value) (r:PV),e= .returned v/\E'.w=w'/\Bx E0 nb id (l++ [c]) E'/\E'.Ok/\E.view.le E'.view/\aL E'.view v r/\(r= .ifc none/\E'.H=H):=by
 obtain⟨g,hp,hn,hx⟩:=hC.pb;have hv:vargs= #[.pointer (some ⟨E.ρ id,0,none⟩), .int .u8 c.toNat]:=by
  have h0:=aAw hrl;have h1:=hrl.2 1 z6;have hs:vargs.size=2:=by rw[hrl.1];rfl
  simp only[List.getElem_cons_succ,aSj]at h1;rw[aSo,aSt z8,aSu]at h1;have h2:=h1.int_inv;apply Array.ext
  ·simp[hs]
  ·intro i hi _
   match i,hi with
   |0,_=>have:=h0;rw[aSt z8]at this;exact Option.some.inj this
   |1,_=>exact h2
   |n+2,hi=>omega
 rw[hv];refine(Tryz.wb (E.ρ id) l c E.w g hp hlen).mono ?_;rintro e w' ⟨rfl,g',hp',ht,hg⟩;have hown:∀k,(k=E.ρ id\/g=some k)->¬E.owns k/\E.κ k= .mut:=λk q=>⟨(hx k q).2.2.1,(hx k q).2.2.2⟩;have hok:=ho.turn (xJ ht) hown;have hv:=aE.turn_view ho (xJ ht) hown;refine⟨E.turn w', .nilIface, .ifc none,rfl,rfl,⟨aE.turn_le ho (xJ ht) hown hC.le λk q=>(hx k q).1,hC.born,g',hp',λe=>by simp at e,λx q=> ?_⟩,hok,hv, .nili,rfl,hH⟩;have hb:(E.turn w').ρ id=E.ρ id:=rfl;rw[hb]at q;rcases hg with rfl| ⟨y,rfl,hy⟩
 ·obtain⟨k1,k2,k3,k4⟩:=hx x q;exact⟨k1,aSn k2 ht.size,k3,by simp only[aE.turn,if_pos k2];exact k4⟩
 ·rcases q with rfl|q
  ·obtain⟨k1,k2,k3,k4⟩:=hx _ (.inl rfl);exact⟨k1,aSn k2 ht.size,k3,by simp only[aE.turn,if_pos k2];exact k4⟩
  ·injection q with q;subst q;refine⟨aSm hC.le.size hy, ?_,λo=> ?_,by simp only[aE.turn,if_neg (Nat.not_lt.2 hy)]⟩
   ·obtain⟨p,v,_,_,h3,_,h5⟩:=hp';rcases h3.2 with⟨_,q⟩| ⟨z,cap,cur,fz,hv,_,k2,_⟩
    ·simp at q
    ·rw[hv]at h5;injection h5 with h5;have h5':z=y:=h5;subst h5';exact(Array.getElem?_eq_some_iff.1 k2).1
   ·have:=aE.owns_lt ho (xJ ht) hown (b:=y) o;omega
theorem aOv{E0:aE}{nb id:Nat}{l:List UInt8}{H:aC}(E:aE)(vargs:Array Value)(hC:Bx E0 nb id l E)(ho:E.Ok)(hH:E.H=H)(hrl:RL E.view vargs [.optr id 0]):
  Calls Tryz.prog 63 vargs E.w λe w'=>∃(E':aE) (v:Value) (r:PV),e= .returned v/\E'.w=w'/\E0.leN nb E'/\E'.Ok/\E.view.le E'.view/\aL E'.view v r/\(r= .str l/\E'.H=H):=by
 obtain⟨g,hp,hn,hx⟩:=hC.pb;have hv:vargs= #[.pointer (some ⟨E.ρ id,0,none⟩)]:=by
  have h0:=aAw hrl;have hs:vargs.size=1:=by rw[hrl.1];rfl
  apply Array.ext
  ·simp[hs]
  ·intro i hi _
   match i,hi with
   |0,_=>have:=h0;rw[aSt z8]at this;exact Option.some.inj this
   |n+1,hi=>omega
 rw[hv];refine(Tryz.bstr (E.ρ id) l E.w g hp hn).mono ?_;rintro e w' ⟨rfl,ht⟩;have hown:∀k,(k=E.ρ id\/g=some k)->¬E.owns k/\E.κ k= .mut:=λk q=>⟨(hx k q).2.2.1,(hx k q).2.2.2⟩;exact⟨E.turn w', .string ⟨l.toArray⟩, .str l,rfl,rfl,aE.turn_le ho (xJ ht) hown hC.le λk q=>(hx k q).1,ho.turn (xJ ht) hown,aE.turn_view ho (xJ ht) hown,by simpa using aL.str (V:=(E.turn w').view) ⟨l.toArray⟩,rfl,hH⟩
theorem aK6{N:Nat}{ops:Array Oper}{K:Exit->Act->World->Prop}{T:aD}{H:aC}{E0:aE}{nb d:Nat}{o:Oper}{l:List Oper}(hnb:nb<=H.length)(hop:o.op= .alloc 126)(hd:o.dst=some d)(hw:aU ops.toList T N o=some true)
  (h:XL Tryz.prog N (Bx E0 nb H.length []) K ops l (oF T d (.optr H.length 0)) (H++ [.glob 0 []])):XL Tryz.prog N (λE=>E0.leN nb E) K ops (o::l) T H:=by
 intro E a hC ho hH ht;subst hH;have hu:E.ext.H[E.H.length]? =some .unborn:=by simp[aE.ext]
 let E1:=E.ext.newRow E.H.length #[.pointer none, .slice none 0 0] 126 [.nilp, .slice [] .none]
 have hle1:E.le E1:=E.ext_le.trans (aE.newRow_le ho.ext hu _ _ _);have hok1:E1.Ok:=ho.ext.newRow hu _ _ _ rfl λi hl=>by
  match i,hl with
  |0,_=>exact .nilp
  |1,_=>exact .nils _ (by first|trivial|simp[mV])
 have hlen:E.H.length<(E.H++ [AObj.unborn]).length:=z6
 have hr1:E1.H[E.H.length]? =some (.row [.nilp, .slice [] .none]):=by
  show((E.H++ [AObj.unborn]).set _ _)[_]? =_;exact aSz hlen
 have hrho:E1.ρ E.H.length=E.w.heap.size:=by simp[E1,aE.newRow,aE.ext]
 have hle2:=hle1.trans (aE.forget_le hok1 hr1);have hok2:=hok1.forget hr1;have hH2:(E1.forget E.H.length).H=E.H++ [.glob 0 []]:=by
  show((E.H++ [AObj.unborn]).set _ _).set _ _=_;rw[aUe,aTw _ _ (aSl _)];simp
 have hborn:(E1.forget E.H.length).view.born E.H.length:=⟨.glob 0 [],by rw[hH2];simp,z6⟩;have hwh:(E1.forget E.H.length).w.heap[E.w.heap.size]? =some (.cells #[.pointer none, .slice none 0 0] 126 (0,0)):=heap_alloc_new _ _;have hB:Bx E0 nb E.H.length [] (E1.forget E.H.length):=by
  refine⟨hC.trans (hle2.leN nb),hborn,none,⟨_,_, .inl rfl, ?_,⟨rfl, .inl ⟨rfl,rfl⟩⟩,(by simp[Value.ownBlock]),rfl⟩,λ_=>rfl,λx q=> ?_⟩
  ·show(E1.forget E.H.length).w.heap[E1.ρ E.H.length]? =_;rw[hrho];exact hwh
  ·rcases q with rfl|q
   ·show E0.w.heap.size<=E1.ρ E.H.length/\_;obtain⟨_,_,_,_,_,k⟩:=hok1.rows _ _ hr1;refine⟨by rw[hrho];exact hC.size, ?_,λq=>(aE.forget_owns hok1 hr1 q).2 rfl,k⟩;show E1.ρ E.H.length<_;rw[hrho];exact(Array.getElem?_eq_some_iff.1 hwh).1
   ·cases q
 refine iS (cB ht hw) ?_;have hrun:(execOp a.eval o).run Tryz.prog E.w= .ok (.value (.pointer (some ⟨E.w.heap.size,0,none⟩))) (E1.forget E.H.length).w:=by
  unfold execOp;rw[hop];simp only[Instr.alloc,aS4,Tryz.zeroValue126,aS5,newVar,newRow,run_newObj,aS7];rfl
 unfold Oper.wp;rw[hrun];have hptr:aL (E1.forget E.H.length).view (.pointer (some ⟨E.w.heap.size,0,none⟩)) (.optr E.H.length 0):=by
  have:=aL.optr (V:=(E1.forget E.H.length).view) E.H.length 0 hborn;rw[show(E1.forget E.H.length).view.rho E.H.length=E.w.heap.size from hrho]at this;exact this
 have ht2:=(ht.mono hle2.view).put o.dst hptr;rw[hd]at ht2;exact h _ _ hB hok2 hH2 (by rw[hd];exact ht2)
end Go.Abs
namespace Go.Proofs
open Go.Shelf
def Tryz.laysC172_ren:Go.Shelf.Ren:=⟨fun|172=>242|244=>279|245=>280|247=>303|279=>304|280=>305|281=>306|282=>307|287=>327|316=>328|171=>213|205=>329|321=>350|322=>351|243=>259|246=>286|283=>309|284=>310|285=>311|286=>312|129=>181|317=>330|318=>331|319=>332|320=>333|337=>352|338=>353|n=>n,fun|9=>9|3=>3|75=>128|76=>129|4=>4|5=>5|167=>305|37=>124|0=>0|85=>306|2=>2|168=>308|53=>219|175=>321|46=>174|210=>324|127=>183|145=>345|143=>343|21=>21|171=>312|173=>314|212=>327|51=>217|20=>20|213=>328|232=>360|233=>361|80=>131|n=>n,fun|15=>3|16=>4|17=>5|18=>6|19=>7|n=>n⟩
theorem Tryz.laysC172:Go.Proofs.LaysC.n172 Tryz.prog Tryz.laysC172_ren:= {
 mixed:=by kernel_rfl
 f129:=Tryz.func181.trans (congrArg some (by kernel_rfl))
 f171:=Tryz.func213.trans (congrArg some (by kernel_rfl))
 f172:=Tryz.func242.trans (congrArg some (by kernel_rfl))
 f205:=Tryz.func329.trans (congrArg some (by kernel_rfl))
 f243:=Tryz.func259.trans (congrArg some (by kernel_rfl))
 f244:=Tryz.func279.trans (congrArg some (by kernel_rfl))
 f245:=Tryz.func280.trans (congrArg some (by kernel_rfl))
 f246:=Tryz.func286.trans (congrArg some (by kernel_rfl))
 f247:=Tryz.func303.trans (congrArg some (by kernel_rfl))
 f279:=Tryz.func304.trans (congrArg some (by kernel_rfl))
 f280:=Tryz.func305.trans (congrArg some (by kernel_rfl))
 f281:=Tryz.func306.trans (congrArg some (by kernel_rfl))
 f282:=Tryz.func307.trans (congrArg some (by kernel_rfl))
 f283:=Tryz.func309.trans (congrArg some (by kernel_rfl))
 f284:=Tryz.func310.trans (congrArg some (by kernel_rfl))
 f285:=Tryz.func311.trans (congrArg some (by kernel_rfl))
 f286:=Tryz.func312.trans (congrArg some (by kernel_rfl))
 f287:=Tryz.func327.trans (congrArg some (by kernel_rfl))
 f316:=Tryz.func328.trans (congrArg some (by kernel_rfl))
 f317:=Tryz.func330.trans (congrArg some (by kernel_rfl))
 f318:=Tryz.func331.trans (congrArg some (by kernel_rfl))
 f319:=Tryz.func332.trans (congrArg some (by kernel_rfl))
 f320:=Tryz.func333.trans (congrArg some (by kernel_rfl))
 f321:=Tryz.func350.trans (congrArg some (by kernel_rfl))
 f322:=Tryz.func351.trans (congrArg some (by kernel_rfl))
 f337:=Tryz.func352.trans (congrArg some (by kernel_rfl))
 f338:=Tryz.func353.trans (congrArg some (by kernel_rfl))
 t0:=Tryz.underlying0
 a0:=Tryz.isAgg0
 z0:=Tryz.sizeOf0
 v0:=Tryz.zeroValue0
 t2:=Tryz.underlying2
 a2:=Tryz.isAgg2
 z2:=Tryz.sizeOf2
 v2:=Tryz.zeroValue2
 t3:=Tryz.underlying3
 a3:=Tryz.isAgg3
 z3:=Tryz.sizeOf3
 v3:=Tryz.zeroValue3
 t4:=Tryz.underlying4
 a4:=Tryz.isAgg4
 z4:=Tryz.sizeOf4
 v4:=Tryz.zeroValue4
 t5:=Tryz.underlying5
 a5:=Tryz.isAgg5
 z5:=Tryz.sizeOf5
 v5:=Tryz.zeroValue5
 t9:=Tryz.underlying9
 a9:=Tryz.isAgg9
 z9:=Tryz.sizeOf9
 v9:=Tryz.zeroValue9
 t20:=Tryz.underlying20
 a20:=Tryz.isAgg20
 z20:=Tryz.sizeOf20
 v20:=Tryz.zeroValue20
 t21:=Tryz.underlying21
 a21:=Tryz.isAgg21
 z21:=Tryz.sizeOf21
 v21:=Tryz.zeroValue21
 t37:=Tryz.underlying124
 a37:=Tryz.isAgg124
 z37:=Tryz.sizeOf124
 v37:=Tryz.zeroValue124
 t46:=Tryz.underlying174
 a46:=Tryz.isAgg174
 z46:=Tryz.sizeOf174
 v46:=Tryz.zeroValue174
 t51:=Tryz.underlying217
 a51:=Tryz.isAgg217
 z51:=Tryz.sizeOf217
 v51:=Tryz.zeroValue217
 t53:=Tryz.underlying219
 a53:=Tryz.isAgg219
 z53:=Tryz.sizeOf219
 v53:=Tryz.zeroValue219
 t75:=Tryz.underlying128
 a75:=Tryz.isAgg128
 z75:=Tryz.sizeOf128
 v75:=Tryz.zeroValue128
 t76:=Tryz.underlying129
 a76:=Tryz.isAgg129
 z76:=Tryz.sizeOf129
 v76:=Tryz.zeroValue129
 t85:=Tryz.underlying306
 a85:=Tryz.isAgg306
 z85:=Tryz.sizeOf306
 v85:=Tryz.zeroValue306
 t127:=Tryz.underlying183
 a127:=Tryz.isAgg183
 z127:=Tryz.sizeOf183
 v127:=Tryz.zeroValue183
 t143:=Tryz.underlying343
 a143:=Tryz.isAgg343
 z143:=Tryz.sizeOf343
 v143:=Tryz.zeroValue343
 t145:=Tryz.underlying345
 a145:=Tryz.isAgg345
 z145:=Tryz.sizeOf345
 v145:=Tryz.zeroValue345
 t167:=Tryz.underlying305
 a167:=Tryz.isAgg305
 z167:=Tryz.sizeOf305
 v167:=Tryz.zeroValue305
 t168:=Tryz.underlying308
 a168:=Tryz.isAgg308
 z168:=Tryz.sizeOf308
 v168:=Tryz.zeroValue308
 t171:=Tryz.underlying312
 a171:=Tryz.isAgg312
 z171:=Tryz.sizeOf312
 v171:=Tryz.zeroValue312
 t173:=Tryz.underlying314
 a173:=Tryz.isAgg314
 z173:=Tryz.sizeOf314
 v173:=Tryz.zeroValue314
 t175:=Tryz.underlying321
 a175:=Tryz.isAgg321
 z175:=Tryz.sizeOf321
 v175:=Tryz.zeroValue321
 t210:=Tryz.underlying324
 a210:=Tryz.isAgg324
 z210:=Tryz.sizeOf324
 v210:=Tryz.zeroValue324
 t212:=Tryz.underlying327
 a212:=Tryz.isAgg327
 z212:=Tryz.sizeOf327
 v212:=Tryz.zeroValue327
 t213:=Tryz.underlying328
 a213:=Tryz.isAgg328
 z213:=Tryz.sizeOf328
 t232:=Tryz.underlying360
 a232:=Tryz.isAgg360
 z232:=Tryz.sizeOf360
 v232:=Tryz.zeroValue360
 t233:=Tryz.underlying361
 a233:=Tryz.isAgg361
 z233:=Tryz.sizeOf361
 v233:=Tryz.zeroValue361
 g15:=by kernel_rfl
 g16:=by kernel_rfl
 g17:=by kernel_rfl
 g18:=by kernel_rfl
 g19:=by kernel_rfl
 t80:=Tryz.underlying131
 a80:=Tryz.isAgg131
 z80:=Tryz.sizeOf131
 v80:=Tryz.zeroValue131
 i0:=by kernel_rfl
 i2:=by kernel_rfl
 i3:=by kernel_rfl
 i4:=by kernel_rfl
 i5:=by kernel_rfl
 i9:=by kernel_rfl
 i20:=by kernel_rfl
 i21:=by kernel_rfl
 i37:=by kernel_rfl
 i46:=by kernel_rfl
 i51:=by kernel_rfl
 i53:=by kernel_rfl
 i75:=by kernel_rfl
 i76:=by kernel_rfl
 i80:=by kernel_rfl
 i85:=by kernel_rfl
 i127:=by kernel_rfl
 i143:=by kernel_rfl
 i145:=by kernel_rfl
 i167:=by kernel_rfl
 i168:=by kernel_rfl
 i171:=by kernel_rfl
 i173:=by kernel_rfl
 i175:=by kernel_rfl
 i210:=by kernel_rfl
 i212:=by kernel_rfl
 i232:=by kernel_rfl
 i233:=by kernel_rfl
 m15:=by kernel_rfl
 m16:=by kernel_rfl
 m17:=by kernel_rfl
 m18:=by kernel_rfl
 m19:=by kernel_rfl
 c0:=by kernel_rfl
 c2:=by kernel_rfl
 c3:=by kernel_rfl
 c4:=by kernel_rfl
 c5:=by kernel_rfl
 c9:=by kernel_rfl
 c20:=by kernel_rfl
 c21:=by kernel_rfl
 c37:=by kernel_rfl
 c46:=by kernel_rfl
 c51:=by kernel_rfl
 c53:=by kernel_rfl
 c75:=by kernel_rfl
 c76:=by kernel_rfl
 c80:=by kernel_rfl
 c85:=by kernel_rfl
 c127:=by kernel_rfl
 c143:=by kernel_rfl
 c145:=by kernel_rfl
 c167:=by kernel_rfl
 c168:=by kernel_rfl
 c171:=by kernel_rfl
 c173:=by kernel_rfl
 c175:=by kernel_rfl
 c210:=by kernel_rfl
 c212:=by kernel_rfl
 c213:=by kernel_rfl
 c232:=by kernel_rfl
 c233:=by kernel_rfl}
open Go.RowKit in
theorem Tryz.strconv_Atoi_ok(s:ByteArray)(hmax:s.size<=9223372036854775806)(v:Int)(h:Lib.atoiAll s.data.toList= .ok v)(w:World):
  Calls Tryz.prog 242 #[.string s] w λe w'=>e= .returned (.tuple #[.int .i64 v, .nilIface])/\(w'=w\/∃t,w'=Lib.bytesWorld w 5 t):=Any.strconv_Atoi_ok Tryz.laysC172 s hmax v h w
open Go.RowKit in
theorem Tryz.strconv_Atoi_syn(s:ByteArray)(hlim:s.size<=281474976710656)(h:∀x,Lib.atoiAll s.data.toList≠ .ok x)(h':Lib.atoiAll s.data.toList≠ .range)(ev:Value)(w:World)(hv:w.cell? ⟨3,0,none⟩=some ev)(hev:ev= .nilIface\/∃te pe,ev= .iface te pe):
  Calls Tryz.prog 242 #[.string s] w λe w'=>∃N,e= .returned (.tuple #[.int .i64 (0), .iface 308 (.pointer (some ⟨N,0,none⟩))])/\w.heap.size<=N/\w'.heap[N]? =some (.cells #[.string ⟨#[65,116,111,105]⟩, .string s,ev] 324 (0,0))/\Below w.heap.size w w':=Any.strconv_Atoi_syntax Tryz.laysC172 s hlim (by
  cases e:Lib.atoiAll s.data.toList with
  |ok v=>exact absurd e (h v)
  |range=>exact absurd e h'
  |_=>rfl) ev w hv hev
open Go.RowKit in
theorem Tryz.strconv_Atoi_range(s:ByteArray)(hlim:s.size<=281474976710656)(h:Lib.atoiAll s.data.toList= .range)(ev:Value)(w:World)(hv:w.cell? ⟨4,0,none⟩=some ev)(hev:ev= .nilIface\/∃te pe,ev= .iface te pe):
  Calls Tryz.prog 242 #[.string s] w λe w'=>∃N,e= .returned (.tuple #[.int .i64 (Lib.atoiSat s.data.toList), .iface 308 (.pointer (some ⟨N,0,none⟩))])/\w.heap.size<=N/\w'.heap[N]? =some (.cells #[.string ⟨#[65,116,111,105]⟩, .string s,ev] 324 (0,0))/\Below w.heap.size w w':=Any.strconv_Atoi_range Tryz.laysC172 s hlim h ev w hv hev
end Go.Proofs
namespace Go.Abs
open Go.Proofs
def CW:List Int:= [2,3,4,5,6,8,9,11,13,14,15,16,18,31,32,34,44]
def xU(k:Int):Bool:=CW.any λx=>decide (k=x)
def iY(n:Nd)(a b:Int):Nd:=⟨n.kind,n.value,n.text,if n.en<0 then a else n.st,b,n.ns,n.kids⟩
def qJ(n:Nd)(v:Int):Nd:=⟨n.kind,v,n.text,n.st,n.en,n.ns,n.kids⟩
def KL(n:Nd)(t:List UInt8):Nd:=⟨n.kind,n.value,t,n.st,n.en,n.ns,n.kids⟩
def LV(n:Nd)(t:List UInt8)(s:Int):Nd:=⟨n.kind,n.value,t,n.st,n.en,s,n.kids⟩
def fC(n:Nd)(s e:Int):Nd:=⟨n.kind,n.value,n.text,s,e,n.ns,n.kids⟩
def mW(n m:Nd):Nd:=⟨n.kind,n.value,n.text,n.st,n.en,n.ns,n.kids++ [m]⟩
def jB(n:Nd)(t:List UInt8):Nd:=
 if decide (t= [112,117,98])=true then qJ n (orI n.value 1)
 else if decide (t= [109,117,116])=true then qJ n (orI n.value 1)
 else if(decide (t= [42])&&decide (n.kind=2))=true then qJ n (orI n.value 2)
 else if(decide (t= [116,114,117,101])&&decide (n.kind=28))=true then qJ n 1
 else if((decide (n.kind=39)||decide (n.kind=40))&&decide (n.text= []))=true then KL n t
 else n
def fG(n:Nd)(t:List UInt8)(st:Int):Nd:=if(xU n.kind&&decide (n.ns<0))=true then LV n t st else n
def gZ(c a b:Int):Dg:=⟨c,0,a,b,[]⟩
def PL:Lib.NumEnd Int->Option Int
 | .ok v=>if v>2147483647 then none else some v
 |_=>none
def GI(t:List UInt8):Option Int:=PL (Lib.atoiAll t)
def kM:List UInt8->Int->List UInt8×List Dg
 | [],_=>([],[])
 | [_],_=>([],[])
 |c::d::r,p=>if c=92 then((if d=110 then 10 else d)::(kM r (p+2)).1,(if d=110\/d=34\/d=92 then []else [gZ 6 p (p+2)])++(kM r (p+2)).2)
  else(c::(kM (d::r) (p+1)).1,(kM (d::r) (p+1)).2)
def wD(t:List UInt8)(st:Int):List UInt8×List Dg:=kM (t.drop 1) (st+1)
def fI(t:St)(off:Nat)(n:Nd)(ds:List Dg):Nd×List Dg:=
 let e:=off+t.text.length
 if decide (t.kind=101)=true then(n,ds)else if decide (t.kind=102)=true then(n,ds)
 else if decide (t.kind=108)=true then(if decide (t.text= [])=true then(n,ds++ [gZ 1 off off])else(iY n off e,ds++ [gZ 3 off e]))
 else if decide (t.kind=103)=true then(iY (fG n t.text off) off e,if decide ((t.text.length:Int)>30)=true then ds++ [gZ 5 off e]else ds)
 else if decide (t.kind=105)=true then(match GI t.text with|some v=>(iY (qJ n v) off e,ds)|none=>(iY (qJ n 2147483647) off e,ds++ [gZ 4 off e]))
 else if decide (t.kind=106)=true then(iY (KL n (wD t.text off).1) off e,ds++(wD t.text off).2)
 else(iY (jB n t.text) off e,ds)
def NW(src:List UInt8)(n:Nd)(ds:List Dg):Option (Nd×List Dg):=
 if decide (n.kind=60)=true then(match n.kids with|c::_=>some (fC c n.st n.en,ds)| []=>none)
 else if decide (n.kind=46)=true then(if 0<=n.st/\n.st<=n.en/\n.en<=src.length/\ds.length<iB then some (⟨46,0,(src.drop n.st.toNat).take (n.en.toNat-n.st.toNat),n.st,n.en, -1,[]⟩,ds++ [gZ (if decide (n.st=n.en)=true then 1 else 2) n.st n.en])else none)
 else some (n,ds)
mutual
def uG(src:List UInt8):St->Nat->List Dg->Option (Nat×Nd×List Dg)
 | .mk k _ ch,off,ds=>if ch.length<iB then(oK src ch off ⟨k,0,[],off, -1, -1,[]⟩ ds).bind λr=>(NW src (fC r.2.1 r.2.1.st (max r.2.1.en r.2.1.st)) r.2.2).bind λm=>some (r.1,m.1,m.2)else none
def oK(src:List UInt8):List St->Nat->Nd->List Dg->Option (Nat×Nd×List Dg)
 | [],off,n,ds=>some (off,n,ds)
 |c::cs,off,n,ds=>if decide (c.kind>=100)=true then(if ds.length+c.text.length<iB/\off+c.text.length<iB then oK src cs (off+c.text.length) (fI c off n ds).1 (fI c off n ds).2 else none)
  else(uG src c off ds).bind λr=>if n.kids.length<iB then oK src cs r.1 (mW (iY n r.2.1.st r.2.1.en) r.2.1) r.2.2 else none
end
set_option maxRecDepth 4000
theorem pO{H:aC}{i:Nat}{o:AObj}(h:H[i]? =some o):H.set i o=H:=by
 obtain⟨hl,e⟩:=List.getElem?_eq_some_iff.1 h;rw[<-e];exact List.set_getElem_self hl
theorem sC{H:aC}{i:Nat}{n:Nd}{cv:PV}(hr:H[i]? =some (zE n cv))(a b:Int):aN Tryz.prog 105 [.optr i 0, .int .i64 a, .int .i64 b] H λr H'=>r= .tup []/\H'=H.set i (zE (iY n a b) cv):=by
 have hil:=lG hr;have hs1:∀o,(H.set i o)[i]? =some o:=λo=>aSz hil;have hs2:∀o o2,(H.set i o).set i o2=H.set i o2:=λo o2=>aUe ..;have nI:(i=H.length)=False:=by simp;omega
 refine aF (N:=19) Tryz.func105 rfl rfl z6 λhb'=> ?_;have x1:=a4 hr hs1 hs2 nI;refine ZE (a3 y3 bY x1) ?_;refine ZI x1 (λbt10=> ?_) (λbt10=> ?_)
 ·
  have he:=of_decide_eq_true bt10;have hx:iY n a b=⟨n.kind,n.value,n.text,a,b,n.ns,n.kids⟩:=by unfold iY;rw[if_pos he]
  refine ZE (a3 y3 bY x1) ?_;refine ZE (a3 y3 bY x1) ?_;refine⟨.inl rfl,_,rfl, ?_⟩;rw[hx];exact⟨rfl,rfl⟩
 ·
  have he:=of_decide_eq_false bt10;have hx:iY n a b=⟨n.kind,n.value,n.text,n.st,b,n.ns,n.kids⟩:=by unfold iY;rw[if_neg he]
  refine qK ?_;refine ZE (a3 y3 bY x1) ?_;refine⟨.inl rfl,_,rfl, ?_⟩;rw[hx];exact⟨rfl,rfl⟩
theorem WU{H:aC}{i:Nat}{n:Nd}{cv:PV}(hr:H[i]? =some (zE n cv))(text:List UInt8):aN Tryz.prog 171 [.optr i 0, .str text] H λr H'=>r= .tup []/\H'=H.set i (zE (jB n text) cv):=by
 have hil:=lG hr;have hs1:∀o,(H.set i o)[i]? =some o:=λo=>aSz hil;have hs2:∀o o2,(H.set i o).set i o2=H.set i o2:=λo o2=>aUe ..;have nI:(i=H.length)=False:=by simp;omega
 refine aF (N:=78) Tryz.func171 rfl rfl z6 λhb'=> ?_;refine qB ?_;have x1:=a4 hr hs1 hs2 nI;refine ZE (a2 y9 x1) ?_;refine ZI x1 (λbt4=> ?_) (λbt4=> ?_)
 ·
  have hx:jB n text=qJ n (orI n.value 1):=by unfold jB;rw[if_pos bt4]
  refine ZT 4 (a3 y3 bY x1) ?_;refine iM (mL x1) (pR (op:=.or) (m:=n.value) (n:=1) (r:=orI n.value 1) rfl (.inl ⟨rfl,rfl⟩) z7 z7 (fV x1) (fV x1)) ?_;refine ZX (a3 y3 bY x1) ?_;refine⟨.inl rfl,_,rfl, ?_⟩;rw[hx];first|exact⟨rfl,rfl⟩|exact⟨rfl,(pO hr).symm⟩
 ·
  refine ZE (a2 y9 x1) ?_;refine ZI x1 (λbt14=> ?_) (λbt14=> ?_)
  ·
   have hx:jB n text=qJ n (orI n.value 1):=by unfold jB;rw[if_neg (by rw[bt4];simp)];rw[if_pos bt14]
   refine ZT 4 (a3 y3 bY x1) ?_;refine iM (mL x1) (pR (op:=.or) (m:=n.value) (n:=1) (r:=orI n.value 1) rfl (.inl ⟨rfl,rfl⟩) z7 z7 (fV x1) (fV x1)) ?_;refine ZX (a3 y3 bY x1) ?_;refine⟨.inl rfl,_,rfl, ?_⟩;rw[hx];first|exact⟨rfl,rfl⟩|exact⟨rfl,(pO hr).symm⟩
  ·
   refine tL (a4 y3 y9 bY x1) ?_;refine ZI x1 (λbt24=> ?_) (λbt24=> ?_)
   ·
    have hx:jB n text=qJ n (orI n.value 2):=by unfold jB;rw[if_neg (by rw[bt4];simp)];rw[if_neg (by rw[bt14];simp)];rw[if_pos bt24]
    refine ZL [0] x1 ?_;refine ZT 4 (a3 y3 bY x1) ?_;refine iM (mL x1) (pR (op:=.or) (m:=n.value) (n:=2) (r:=orI n.value 2) rfl (.inl ⟨rfl,rfl⟩) z7 z7 (fV x1) (fV x1)) ?_;refine ZX (a3 y3 bY x1) ?_;refine⟨.inl rfl,_,rfl, ?_⟩;rw[hx];first|exact⟨rfl,rfl⟩|exact⟨rfl,(pO hr).symm⟩
   ·
    refine ZL [0,1] x1 ?_;refine tL (a4 y3 y9 bY x1) ?_;refine ZI x1 (λbt41=> ?_) (λbt41=> ?_)
    ·
     have hx:jB n text=qJ n 1:=by unfold jB;rw[if_neg (by rw[bt4];simp)];rw[if_neg (by rw[bt14];simp)];rw[if_neg (by rw[bt24];simp)];rw[if_pos bt41]
     refine ZE (a3 y3 bY x1) ?_;refine⟨.inl rfl,_,rfl, ?_⟩;rw[hx];first|exact⟨rfl,rfl⟩|exact⟨rfl,(pO hr).symm⟩
    ·
     refine tL (a4 y3 y9 bY x1) ?_;refine ZI x1 (λbt54=> ?_) (λbt54=> ?_)
     ·
      have hx:jB n text=KL n text:=by unfold jB;rw[if_neg (by rw[bt4];simp)];rw[if_neg (by rw[bt14];simp)];rw[if_neg (by rw[bt24];simp)];rw[if_neg (by rw[bt41];simp)];rw[if_pos bt54]
      refine ZL [0,1] x1 ?_;refine ZE (a3 y9 bY x1) ?_;refine⟨.inl rfl,_,rfl, ?_⟩;rw[hx];first|exact⟨rfl,rfl⟩|exact⟨rfl,(pO hr).symm⟩
     ·
      have hx:jB n text=n:=by unfold jB;rw[if_neg (by rw[bt4];simp)];rw[if_neg (by rw[bt14];simp)];rw[if_neg (by rw[bt24];simp)];rw[if_neg (by rw[bt41];simp)];rw[if_neg (by rw[bt54];simp)]
      refine qK ?_;refine⟨.inl rfl,_,rfl, ?_⟩;rw[hx];first|exact⟨rfl,rfl⟩|exact⟨rfl,(pO hr).symm⟩
theorem aBd(xs:List Int)(k:Int)(hx:xs.length<=maxLen):PC Tryz.prog 302 [.slice (xs.map aB) .none,aB k] (aB (uN (λx=>decide (k=x)) xs)):=by
 refine dN (N:=19) Tryz.func302 rfl rfl z6 (by simp[eD,aZ.int]) (.int _ _) ?_;refine uA ?_;refine ZE (a2 y3 y48) ?_;refine wQ ?_;refine fN (σ:=Unit) (xs.length) (λ(s:Unit)=> [(0, .slice (xs.map aB) .none),(1,aB k)]) [0,1] ([]) (λ(s:Unit)=> []) (λ(i:Nat) (s:Unit)=>(xs.take i).any (λx=>decide (k=x))=false) (()) ([]) rfl rfl rfl rfl rfl rfl rfl rfl rfl z7 z7 z7 (λ_=>rfl) (hx) (Zt tN) (Zf tN) z6 (λ_ _ _=>by first|exact aTn _| (simp only[aTi];omega)) ?_ ?_ ?_
 ·exact λi s hg=>⟨by first|exact dF _| (simp only[aT4];assumption)| (refine iK hb' z6 ?_;exact ZH),ZR⟩
 ·intro i s hi hg;have g1:=bS hi;have g2:=eH aB hi;refine ZE (a2 g1 g2) ?_;refine ZE (a4 y3 y48 g1 g2) ?_;refine ZI (a2 g1 g2) (λb0=> ?_) (λb0=> ?_)
  ·
   refine ZE (a2 g1 g2) ?_;refine wQ ?_;refine wT ⟨.inr rfl,_,rfl, ?_⟩;rw[JJ hi b0 hg];rfl
  ·
   refine qK ?_;exact⟨ZV,(),[],ZV,rfl,eS hi hg b0⟩
 ·intro s hg;rw[aUd]at hg;refine uA ?_;refine wQ ?_;refine wT ⟨.inr rfl,_,rfl, ?_⟩;rw[AH hg];rfl
theorem MT(xs:List Int)(k:Int)(hx:xs.length<=maxLen):PC Tryz.prog 278 [.slice (xs.map aB) .none,aB k] (.bool (xs.any λx=>decide (k=x))):=by
 refine dN (N:=9) Tryz.func278 rfl rfl z6 (by simp[eD,aZ.int]) (.bool _) ?_;refine uA ?_;refine ZT0 2 ?_;refine ZP0 aL0 (aBd xs k hx _) ?_;refine ZX y3 ?_;refine wQ ?_;refine wT ⟨.inr rfl,_,rfl, ?_⟩;rw[<-vH];rfl
theorem HR(k:Int):PC Tryz.prog 241 [aB k] (.bool (xU k)):=by
 refine dN (N:=6) Tryz.func241 rfl rfl z6 (by simp[aZ.int,aZ.str]) (.bool _) ?_;refine uA ?_;refine ZT 2 (a2 y3 y48) ?_;refine oP (KU tN) (mL tN) z7 aL9 (MT CW k z7 _) ?_;refine ZX0 ?_;refine wQ ?_;refine wT ⟨.inr rfl,_,rfl, ?_⟩;simp only[jN,seval,aB,xU]
 try rfl
set_option maxRecDepth 4000
def iH(src:List UInt8)(off:Nat)(ds:List Dg)(ib:Nat)(cid:List Nat)(H:aC):Prop:=∃dv,H[ib]? =some (.row [.str src, .int .i64 ((off:Nat):Int),dv])/\kJ Dg.enc 5 H dv ds cid/\ib∉cid
theorem iH.fr{src:List UInt8}{off:Nat}{ds:List Dg}{ib:Nat}{cid:List Nat}{H H':aC}(h:iH src off ds ib cid H)(he:∀i,i=ib\/i∈cid->H'[i]? =H[i]?):iH src off ds ib cid H':=by
 obtain⟨dv,h1,h2,h3⟩:=h;exact⟨dv,by rw[he _ (.inl rfl)];exact h1,h2.fr λi hi=>he i (.inr hi),h3⟩
theorem iH.lt{src:List UInt8}{off:Nat}{ds:List Dg}{ib:Nat}{cid:List Nat}{H:aC}(h:iH src off ds ib cid H):∀i,i=ib\/i∈cid->i<H.length:=by
 obtain⟨dv,h1,h2,h3⟩:=h;rintro i (rfl|hi)
 ·exact lG h1
 ·exact h2.lt i hi
theorem iH.app{src:List UInt8}{off:Nat}{ds:List Dg}{ib:Nat}{cid:List Nat}{H:aC}(h:iH src off ds ib cid H)(L:aC):iH src off ds ib cid (H++L):=h.fr λi hi=>aSv (h.lt i hi)
theorem kJ.cell{α:Type}{enc:α->PV}{sz:Nat}{H:aC}{cv:PV}{xs:List α}{cid:List Nat}(h:kJ enc sz H cv xs cid):cv.cells= [cv]/\cv.isCell=true:=by
 cases h<;>exact⟨rfl,rfl⟩
theorem vB(t:Dg):t.enc.cells.all PV.isCell=true:=by rw[Dg.enc_cells];rfl
theorem nL{src:List UInt8}{off ib:Nat}{ds:List Dg}{cid:List Nat}{H:aC}(hB:iH src off ds ib cid H)(hl:ds.length<iB)(code st en:Int):aN Tryz.prog 167 [.optr ib 0, .int .i64 code, .int .i64 st, .int .i64 en] H λr H'=>r= .tup []/\∃cid',iH src off (ds++ [gZ code st en]) ib cid' H'/\Fr (ib::cid) (ib::cid') H H':=by
 obtain⟨dv,hb,hk,hne⟩:=hB;have hil:=lG hb;simp only[iB]at hl;refine aF (N:=21) Tryz.func167 rfl rfl z6 λhb'=> ?_;refine ZT 10 (a4 rS nT rI hb) ?_;refine sR (enc:=Dg.enc) (sz:=5) Dg.enc_len vB z7 (cv:=dv) (xs:=ds) (a:=⟨code,0,st,en,[]⟩) (mL hb) rfl z7 z7 (fV hb) (fV hb) hk BF rfl (by show(_+1)*48<=_;omega) (by simp only[maxLen];omega) (by rw[BF];rfl) SA rfl ?_;intro cv3 cid3 HA hk3 hc3 hl3 hs3;have hb3:HA[ib]? =some (.row [.str src, .int .i64 ((off:Nat):Int),dv]):=by rw[hs3 ib hil hne];exact hb
 have hi3:=lG hb3;have hcv1:=hk3.cell.1;have hcv2:=hk3.cell.2;have hs4:∀o,(HA.set ib o)[ib]? =some o:=λo=>aSz hi3;have nB3:(ib=HA.length)=False:=by simp;omega
 refine ZX (a5 rS nT rI hb (a5 hb3 hs4 nB3 hcv1 hcv2)) ?_;refine⟨.inl rfl,_,rfl, ?_⟩;have hne3:ib∉cid3:=λh=>by rcases hc3 ib h with h|h;exact hne h;omega
 refine⟨rfl,cid3,⟨cv3,hs4 _,hk3.fr λi hi=>aS0 (by rintro rfl;exact hne3 hi),hne3⟩,by rw[lS];exact hl3,λid h1 h2=> ?_,λid h1 h2=> ?_⟩
 ·rw[aS0 (by rintro rfl;exact h2 z6)];exact hs3 id h1 λh=>h2 (aUj _ h)
 ·rcases aTv.1 h1 with rfl|h1
  ·simp
  ·rcases hc3 id h1 with h|h
   ·exact aUj _ h
   ·omega
set_option maxRecDepth 4000
theorem zS{i ib:Nat}{cid cid1:List Nat}{H H1:aC}{o:AObj}(f:Fr (ib::cid) (ib::cid1) H H1)(hr:H[i]? =some o)(hib:i≠ib)(hic:i∉cid):H1[i]? =some o/\i∉cid1/\Fr (i::ib::cid) (i::ib::cid1) H H1:=by
 have hl:=lG hr;have hn:i∉ib::cid:=by simp[hib,hic]
 refine⟨by rw[f.same i hl hn];exact hr,λh=>hn (f.ids i (by simp[h]) hl),f.len,λid h1 h2=>f.same id h1 λh=>h2 (aUj _ h),λid h1 h2=> ?_⟩;rcases aTv.1 h1 with rfl|h1
 ·simp
 ·exact aUj _ (f.ids id h1 h2)
theorem iH.set{src:List UInt8}{off:Nat}{ds:List Dg}{ib i:Nat}{cid:List Nat}{H:aC}(h:iH src off ds ib cid H)(h1:i≠ib)(h2:i∉cid)(o:AObj):iH src off ds ib cid (H.set i o):=h.fr λj hj=>aS0 (by rintro rfl;rcases hj with rfl|hj;exact h1 rfl;exact h2 hj)
theorem Fr.setI{i ib:Nat}{cid cid1:List Nat}{H H1:aC}(f:Fr (i::ib::cid) (i::ib::cid1) H H1)(o:AObj):Fr (i::ib::cid) (i::ib::cid1) H (H1.set i o):=
 ⟨by rw[lS];exact f.len,λid h1 h2=>by rw[aS0 (by rintro rfl;exact h2 z6)];exact f.same id h1 h2,f.ids⟩
theorem aF0{src:List UInt8}{off ib i:Nat}{ds:List Dg}{cid:List Nat}{H:aC}{n:Nd}{cv:PV}(hB:iH src off ds ib cid H)(hl:ds.length<iB)(hr:H[i]? =some (zE n cv))(hib:i≠ib)(hic:i∉cid)(text:List UInt8)(st:Int):aN Tryz.prog 168 [.optr ib 0, .optr i 0, .str text, .int .i64 st] H λr H'=>r= .tup []/\∃cid',iH src off (ds++(if decide ((text.length:Int)>30)=true then [gZ 5 st off]else [])) ib cid' H'/\H'[i]? =some (zE (fG n text st) cv)/\i∉cid'/\Fr (i::ib::cid) (i::ib::cid') H H':=by
 obtain⟨dv,hb,hk,hne⟩:=id hB;have hil:=lG hb;refine aF (N:=38) Tryz.func168 rfl rfl z6 λhb'=> ?_;refine ZE (a3 y3 y9 hb) ?_;refine ZI hb (λbt10=> ?_) (λbt10=> ?_)
 ·
  refine ZT 6 (a3 y3 rI hb) ?_;refine ZA hb vE (nL hB hl 5 st off) ?_;rintro _ H1 ⟨rfl,cid1,hB1,f0⟩;refine oN ?_;refine wQ ?_;obtain⟨hr1,hic1,f1⟩:=zS f0 hr hib hic;have hil1:=lG hr1;have hs1:∀o,(H1.set i o)[i]? =some o:=λo=>aSz hil1;have hs2:∀o o2,(H1.set i o).set i o2=H1.set i o2:=λo o2=>aUe ..;have nI:(i=H1.length)=False:=by simp;omega
  have hib1:=hib;have hd:ds++ [gZ 5 st off]=ds++(if decide ((text.length:Int)>30)=true then [gZ 5 st off]else []):=by rw[if_pos bt10]<;>simp
  rw[hd]at hB1;refine wR ?_;refine bO ?_;have x1:=a5 hb hr1 hs1 hs2 nI;refine OH 4 (a3 y3 bY x1) ?_;refine RN x1 aCu (λhc=>HR n.kind _) ?_;refine ZgX (a3 y3 bY x1) ?_;refine ZI hb (λbt29=> ?_) (λbt29=> ?_)
  ·
   have hx:fG n text st=LV n text st:=by unfold fG;rw[if_pos bt29]
   refine ZL [1,2,3] hb ?_;refine ZE (a4 y3 y9 bY x1) ?_;refine⟨(by first|exact .inl rfl|exact .inl trivial|trivial),_,rfl, ?_⟩;rw[hx];first|exact⟨rfl,_,hB1,hr1,hic1,f1⟩|exact⟨rfl,_,hB1.set hib1 hic1 _,hs1 _,hic1,f1.setI _⟩
  ·
   have hx:fG n text st=n:=by unfold fG;rw[if_neg (by rw[bt29];simp)]
   refine qK ?_;refine⟨(by first|exact .inl rfl|exact .inl trivial|trivial),_,rfl, ?_⟩;rw[hx];first|exact⟨rfl,_,hB1,hr1,hic1,f1⟩|exact⟨rfl,_,hB1.set hib1 hic1 _,hs1 _,hic1,f1.setI _⟩
 ·
  have hB1:=hB;have f0:=Fr.refl (ib::cid) H;refine qK ?_;refine wQ ?_;obtain⟨hr1,hic1,f1⟩:=zS f0 hr hib hic;have hil1:=lG hr1;have hs1:∀o,(H.set i o)[i]? =some o:=λo=>aSz hil1;have hs2:∀o o2,(H.set i o).set i o2=H.set i o2:=λo o2=>aUe ..;have nI:(i=H.length)=False:=by simp;omega
  have hib1:=hib;have hd:ds=ds++(if decide ((text.length:Int)>30)=true then [gZ 5 st off]else []):=by rw[if_neg (by rw[bt10];simp)]<;>simp
  rw[hd]at hB1;refine wR ?_;refine bO ?_;have x2:=a5 hb hr1 hs1 hs2 nI;refine OH 4 (a3 y3 bY x2) ?_;refine RN x2 aCu (λhc=>HR n.kind _) ?_;refine ZgX (a3 y3 bY x2) ?_;refine ZI hb (λbt29=> ?_) (λbt29=> ?_)
  ·
   have hx:fG n text st=LV n text st:=by unfold fG;rw[if_pos bt29]
   refine ZL [1,2,3] hb ?_;refine ZE (a4 y3 y9 bY x2) ?_;refine⟨(by first|exact .inl rfl|exact .inl trivial|trivial),_,rfl, ?_⟩;rw[hx];first|exact⟨rfl,_,hB1,hr1,hic1,f1⟩|exact⟨rfl,_,hB1.set hib1 hic1 _,hs1 _,hic1,f1.setI _⟩
  ·
   have hx:fG n text st=n:=by unfold fG;rw[if_neg (by rw[bt29];simp)]
   refine qK ?_;refine⟨(by first|exact .inl rfl|exact .inl trivial|trivial),_,rfl, ?_⟩;rw[hx];first|exact⟨rfl,_,hB1,hr1,hic1,f1⟩|exact⟨rfl,_,hB1.set hib1 hic1 _,hs1 _,hic1,f1.setI _⟩
open Go.RowKit
theorem FR{P:Program}{f:FuncId}{args:List PV}{H:aC}{Q:PV->Prop}(h:∀(E:aE) (vargs:Array Value),E.Ok->E.H=H->RL E.view vargs args->Calls P f vargs E.w λe w'=>∃v r,e= .returned v/\aL E.view v r/\Q r/\Below E.w.heap.size E.w w'):aN P f args H λr' H'=>Q r'/\H'=H:=by
 intro E vargs ho hH hrl;refine(h E vargs ho hH hrl).mono λe w' ⟨v,r,he,hv,hq,hb⟩=> ?_
 let E':aE:= {E with w:=w'}
 have hview:E.view.le E'.view:=by
  refine⟨λa v hc=> ?_,λid h=>h,λid _=>rfl,λid t' _ ht=>⟨t',ht, .inl rfl⟩⟩;simp only[aE.view,E']at hc⊢
  split at hc
  ·rename_i hs;rw[if_pos hs];exact FI hb _ _ hc
  ·cases hc
 refine⟨E',v,r,he,rfl,⟨hb.os,hb.tape,hb.output,hb.size,λb hlt _=>⟨rfl,hb.block b hlt⟩,hview,λb _=>id⟩, ?_,hv.mono hview,hq,hH⟩;refine⟨?_, ?_,ho.injr,ho.injb,ho.globs_of hview.cell λ_ _ _ h=>h,ho.objs.of hview λid k hi=>⟨hi,rfl,hb.block _ (ho.objs.lt hi),rfl⟩⟩
 ·intro id cs hi;obtain⟨arr,elem,h1,h2,h3,h4⟩:=ho.rows id cs hi;exact⟨arr,elem,(hb.block _ (ho.rowBlock hi)).trans h1,h2,λi hl=>(h3 i hl).mono hview,h4⟩
 ·intro id n sz b hi hb';obtain⟨arr,elem,pos,h1,h2⟩:=ho.bufs id n sz b hi hb';exact⟨arr,elem,pos,(hb.block _ (ho.bufBlock hi hb')).trans h1,h2⟩
end Go.Abs
set_option maxRecDepth 4000
namespace Go.Abs
open Go.Proofs
open Go.RowKit
def tV(e3 e4:Value)(H:aC):Prop:=H[1]? =some (.glob 3 [e3])/\H[2]? =some (.glob 4 [e4])/\(e3= .nilIface\/∃te pe,e3= .iface te pe)/\(e4= .nilIface\/∃te pe,e4= .iface te pe)
theorem aKf{e3 e4:Value}(t:List UInt8)(hs:t.length<=281474976710656){H:aC}(hE:tV e3 e4 H):aN Tryz.prog 242 [.str t] H λr' H'=>(∃v q,r'= .tup [.int .i64 v, .ifc q]/\match Lib.atoiAll t with
  | .ok x=>v=x/\q=none
  |_=>q.isSome=true)/\H'=H:=by
 obtain⟨h1,h2,h3,h4⟩:=hE;refine FR λE vargs ho hH hrl=> ?_;obtain⟨v0,rfl,h0⟩:=YE hrl;have c3:=zP ho (by rw[hH];exact h1) (i:=0) z6;have c4:=zP ho (by rw[hH];exact h2) (i:=0) z6;cases h0 with
 |str z=>
  have hz:z.size<=281474976710656:=by rw[Lib.size_eq];exact hs
  have htup:∀(a:Int) (x:Value) (q:Option (TypeId×Value)),aL E.view x (.ifc q)->aL E.view (.tuple #[.int .i64 a,x]) (.tup [.int .i64 a, .ifc q]):=λa x q hx=>.tup _ _ rfl λi hi=>by
   match i,hi with
   |0,_=>exact .int _ _
   |1,_=>exact hx
  cases hat:Lib.atoiAll z.data.toList with
  |ok v=>
   refine(Tryz.strconv_Atoi_ok z z8 v hat E.w).mono λe w' ⟨q1,q2⟩=>⟨_,_,q1,htup v _ none .nili,⟨v,none,rfl,⟨rfl,rfl⟩⟩, ?_⟩;rcases q2 with rfl| ⟨t,rfl⟩
   ·exact⟨rfl,rfl,rfl,aSl _,λ_ _=>rfl⟩
   ·exact Lib.bytesWorld_below _ _ _
  |range=>exact(Tryz.strconv_Atoi_range z hz hat e4 E.w c4 h4).mono λe w' ⟨N,q1,_,_,q4⟩=>⟨_,_,q1,htup _ _ _ (.ifc _ _),⟨_,_,rfl,rfl⟩,q4⟩
  |_=>exact(Tryz.strconv_Atoi_syn z hz (λx=>by rw[hat];intro q;cases q) (by rw[hat];intro q;cases q) e3 E.w c3 h3).mono λe w' ⟨N,q1,_,_,q4⟩=>⟨_,_,q1,htup 0 _ _ (.ifc _ _),⟨_,_,rfl,rfl⟩,q4⟩
def GD(t:List UInt8):Int:=match GI t with|some v=>v|none=>2147483647
def JO(t:List UInt8)(st en:Int):List Dg:=match GI t with|some _=> []|none=> [gZ 4 st en]
theorem WR{src:List UInt8}{off ib:Nat}{ds:List Dg}{cid:List Nat}{H:aC}{e3 e4:Value}(hE:tV e3 e4 H)(hB:iH src off ds ib cid H)(hl:ds.length<iB)(text:List UInt8)(st:Int)(hs:text.length<=281474976710656):aN Tryz.prog 169 [.optr ib 0, .str text, .int .i64 st] H λr H'=>r= .int .i64 (GD text)/\∃cid',iH src off (ds++JO text st off) ib cid' H'/\Fr (ib::cid) (ib::cid') H H':=by
 obtain⟨dv,hb,hk,hne⟩:=id hB;refine aF (N:=28) Tryz.func169 rfl rfl z6 λhb'=> ?_;refine ZE hb ?_;refine ZT 1 hb ?_;refine ZA hb aNf (aKf text hs hE) ?_;rintro _ _ ⟨⟨v,q,rfl,hv⟩,rfl⟩;refine ZX hb ?_;have hcs:(q=none/\v<=2147483647/\GI text=some v)\/(q=none/\v>2147483647/\GI text=none)\/(q.isSome=true/\GI text=none):=by
  unfold GI
  split at hv
  ·rename_i x hx;rw[hx,hv.1]
   by_cases c:x>2147483647
   ·exact .inr (.inl ⟨hv.2,c,by simp[PL,c]⟩)
   ·exact .inl ⟨hv.2,z8,by simp[PL,c]⟩
  ·rename_i hx;refine .inr (.inr ⟨hv, ?_⟩);unfold PL
   split
   ·rename_i y hy;exact absurd hy (hx y)
   ·rfl
 rcases hcs with⟨rfl,hle,hg⟩| ⟨rfl,hgt,hg⟩| ⟨hq,hg⟩
 ·
  have gl:decide (v>2147483647)=false:=decide_eq_false z8;have hI:GD text=v:=by unfold GD;rw[hg]
  have hD:JO text st off= []:=by unfold JO;rw[hg]
  refine wQ ?_;refine wR ?_;refine eT 1 (by simp only[kA,seval,aB,qG,hb,gl,aTm]<;>with_reducible rfl) z7 ?_;refine uJ Tryz.underlying128 (mL tN) rfl z7 (fV tN) ?_;refine nO (by simp only[kA,seval,y3,aB,qG,hb,gl,aTm]<;>with_reducible rfl) z7 ?_;refine wQ ?_;refine wF rfl (by simp only[jN,seval,aB,qG,hb,gl,aTm]<;>with_reducible rfl) ?_;refine qK ?_;refine wQ ?_;refine eE (by simp only[kA,seval,aB,qG,hb,gl,aTm]<;>with_reducible rfl) z7 ?_;refine wQ ?_;refine wT ⟨.inr rfl,_,rfl, ?_⟩;rw[hI,hD,aT4];exact⟨rfl,cid,hB,Fr.refl _ _⟩
 ·
  have gl:decide (v>2147483647)=true:=decide_eq_true z8;have hI:GD text=2147483647:=by unfold GD;rw[hg]
  have hD:JO text st off= [gZ 4 st off]:=by unfold JO;rw[hg]
  refine wQ ?_;refine wR ?_;refine eT 1 (by simp only[kA,seval,aB,qG,hb,gl,aTm]<;>with_reducible rfl) z7 ?_;refine uJ Tryz.underlying128 (mL tN) rfl z7 (fV tN) ?_;refine nO (by simp only[kA,seval,y3,aB,qG,hb,gl,aTm]<;>with_reducible rfl) z7 ?_;refine wQ ?_;refine jJ rfl (by simp only[jN,seval,aB,qG,hb,gl,aTm]<;>with_reducible rfl) ?_;refine wQ ?_;refine wR ?_;refine eT 6 (by simp only[kA,seval,y3,rI,aB,qG,hb,gl,aTm]<;>with_reducible rfl) z7 ?_;refine oC (by simp only[kC,seval,aB,qG,hb,gl,aTm]<;>with_reducible rfl) (by simp only[kC,seval,aB,qG,hb,gl,aTm]) z7 vE (nL hB hl 4 st off) ?_;rintro _ H1 ⟨rfl,cid1,hB1,f1⟩;refine oN ?_;refine wL [] (by simp only[jN,seval,aB,qG,hb,gl,aTm]<;>with_reducible rfl) ?_;refine wQ ?_;refine eE (by simp only[kA,seval,aB,qG,hb,gl,aTm]<;>with_reducible rfl) z7 ?_;refine wQ ?_;refine wT ⟨.inr rfl,_,rfl, ?_⟩;rw[hI,hD];exact⟨rfl,cid1,hB1,f1⟩
 ·
  have hI:GD text=2147483647:=by unfold GD;rw[hg]
  have hD:JO text st off= [gZ 4 st off]:=by unfold JO;rw[hg]
  refine ZT 1 (a2 hb hq) ?_;refine uJ Tryz.underlying128 (mL tN) rfl z7 (fV tN) ?_;refine ZX (a3 y3 hb hq) ?_;refine ZG (a2 hb hq) ?_;refine ZT 6 (a4 y3 rI hb hq) ?_;refine ZA (a2 hb hq) vE (nL hB hl 4 st off) ?_;rintro _ H1 ⟨rfl,cid1,hB1,f1⟩;refine oN ?_;refine ZL [] (a2 hb hq) ?_;refine ZE (a2 hb hq) ?_;refine wQ ?_;refine wT ⟨.inr rfl,_,rfl, ?_⟩;rw[hI,hD];exact⟨rfl,cid1,hB1,f1⟩
end Go.Abs
namespace Go.Abs
open Go.Proofs Go.RowKit
theorem OP{E0:aE}{nb nb':Nat}(h:nb<=nb'):UZ nb' (λE=>E0.leN nb E):=λE E' hC ho hle _=>hC.trans (hle.cut h)
theorem aA6{l:List UInt8}{p:Int}(h:l.length<=1):kM l p=([],[]):=by
 match l,h with
 | [],_=>rfl
 | [_],_=>rfl
theorem aPu{src:List UInt8}{off ib:Nat}{ds:List Dg}{cid:List Nat}{H:aC}(hB:iH src off ds ib cid H)(text:List UInt8)(st:Nat)(hl:ds.length+text.length<iB)(hst:st+text.length<iB):
  aN Tryz.prog 170 [.optr ib 0, .str text, .int .i64 (st:Int)] H λr H'=>r= .str (wD text st).1/\∃cid',iH src off (ds++(wD text st).2) ib cid' H'/\Fr (ib::cid) (ib::cid') H H':=by
 have hil:=hB.lt ib (.inl rfl);simp only[iB]at hl hst;refine aCn (N:=46) Tryz.func170 rfl rfl z6 λhb' E0 ho0 hH0=> ?_
 repeat (refine xZ ?_)
 refine yT (OP (aSl _)) ?_;refine eE (Za tN) z7 ?_;refine mE ?_
 repeat (refine xZ ?_)
 refine aCg ?_;refine aK6 (aSl _) rfl rfl rfl ?_;refine OW ?_;refine mE ?_
 repeat (refine xZ ?_)
 refine yT (aCr (nb':=H.length+1) z8 z8) ?_;refine eE (Za tN) z7 ?_;refine mE ?_
 repeat (refine xZ ?_)
 refine RV ?_;refine aG5 [(0, .optr ib 0),(1, .str text),(2, .int .i64 (st:Int)),(7, .optr H.length 0),(8, .int .i64 ((1:Nat):Int))] (by intro p hp;simp only[aTv,aT7,or_false]at hp;rcases hp with rfl|rfl|rfl|rfl|rfl<;>rfl) ?_;refine aNj (λn E T=>∃p out reps cid1,n=text.length-p/\1<=p/\T=uD [(0, .optr ib 0),(1, .str text),(2, .int .i64 (st:Int)),(7, .optr H.length 0),(8, .int .i64 ((p:Nat):Int))]/\Bx E0 H.length H.length out E/\iH src off (ds++reps) ib cid1 E.H/\Fr (ib::cid) (ib::cid1) H E.H/\
  kM (text.drop 1) ((st:Int)+1)=(out++(kM (text.drop p) ((st:Int)+p)).1,reps++(kM (text.drop p) ((st:Int)+p)).2)/\out.length<=p/\reps.length+1<=p/\p<=text.length+1) (text.length-1) ?_ ?_
 ·intro E hC ho hH;refine⟨1,[],[],cid,z8,aSl _,rfl,hC, ?_, ?_,z6,z6,z6,z8⟩
  ·rw[hH,aT4];exact hB.app _
  ·rw[hH];exact(Fr.refl _ _).app _
 intro n E a T ⟨p,out,reps,cid1,hn,hp1,hT,hbx,hBd,hFr,hu,ho1,ho2,ho3⟩ ho ht;subst hT;generalize hH1:E.H=H1 at hBd hFr;refine(?_:X Tryz.prog 46 (Bx E0 H.length H.length out) _ _ _ H1) E a hbx ho hH1 ht;clear hbx ht ho hH1;have hst:∀l,UZ (H.length+1) (Bx E0 H.length H.length l):=λl=>aCr z8 z8;have gw1:IntKind.i64.wrap (((text.length:Nat):Int) -1)=((text.length:Nat):Int) -1:=aY z8 z8
 repeat (refine xZ ?_)
 refine yT (hst out) ?_;refine eE (Za (a3 y3 y9 gw1)) z7 ?_;refine mE ?_
 by_cases hc:p+1<text.length
 ·have gc:decide (((p:Nat):Int)<((text.length:Nat):Int) -1)=true:=decide_eq_true z8;refine yT (hst out) ?_;refine jJ rfl (Zn gc) ?_;refine wK ?_;refine mE ?_;obtain⟨c0,d,r,hdr⟩:∃c0 d r,text.drop p=c0::d::r:=by
   have h1:p<text.length:=z8
   exact⟨text[p],text[p+1],text.drop (p+2),by rw[aUc h1,aUc hc]⟩
  have gi0:=bS (n:=text.length) (i:=p) z8;have gi1:=bS (n:=text.length) (i:=p+1) z8;have g0:text[p]? =some c0:=by have:=congrArg (·[0]?) hdr;simpa using this
  have g1:text[p+1]? =some d:=by have:=congrArg (·[1]?) hdr;simpa using this
  have hd1:text.drop (p+1)=d::r:=by have:=congrArg (·.drop 1) hdr;simpa using this
  have hd2:text.drop (p+2)=r:=by have:=congrArg (·.drop 2) hdr;simpa using this
  repeat (refine xZ ?_)
  refine RV ?_
  repeat (refine xZ ?_)
  refine yT (hst out) ?_;refine eE (Za (a5 y3 y5 y9 g0 gi0)) z7 ?_;refine mE ?_
  repeat (refine xZ ?_)
  refine yT (hst out) ?_;refine eE (Za (a3 y3 y5 y9)) z7 ?_;refine mE ?_;refine aI4 (Q:=λe T' H'=>e= .normal/\∃(c:UInt8) (p':Nat) (rp:List Dg) (cid':List Nat),T' 0= .optr ib 0/\T' 1= .str text/\T' 2= .int .i64 (st:Int)/\T' 7= .optr H.length 0/\T' 8= .int .i64 ((p':Nat):Int)/\T' 9= .int .u8 c.toNat/\iH src off (ds++(reps++rp)) ib cid' H'/\Fr (ib::cid) (ib::cid') H H'/\p<=p'/\p'+1<=text.length/\
   kM (text.drop p) ((st:Int)+p)=(c::(kM (text.drop (p'+1)) ((st:Int)+(p'+1:Nat))).1,rp++(kM (text.drop (p'+1)) ((st:Int)+(p'+1:Nat))).2)/\rp.length<=1) (hst out) ?_ ?_
  ·have key:∀(H':aC) (c:UInt8) (p':Nat) (rp:List Dg) (cid':List Nat) (T':aD),(T' 0= .optr ib 0/\T' 1= .str text/\T' 2= .int .i64 (st:Int)/\T' 7= .optr H.length 0/\T' 8= .int .i64 ((p':Nat):Int)/\T' 9= .int .u8 c.toNat)->iH src off (ds++(reps++rp)) ib cid' H'/\Fr (ib::cid) (ib::cid') H H'/\p<=p'/\p'+1<=text.length/\
    kM (text.drop p) ((st:Int)+p)=(c::(kM (text.drop (p'+1)) ((st:Int)+(p'+1:Nat))).1,rp++(kM (text.drop (p'+1)) ((st:Int)+(p'+1:Nat))).2)/\rp.length<=1->Exit.normal=Exit.normal/\∃(c:UInt8) (p':Nat) (rp:List Dg) (cid':List Nat),T' 0= .optr ib 0/\T' 1= .str text/\T' 2= .int .i64 (st:Int)/\T' 7= .optr H.length 0/\T' 8= .int .i64 ((p':Nat):Int)/\T' 9= .int .u8 c.toNat/\iH src off (ds++(reps++rp)) ib cid' H'/\Fr (ib::cid) (ib::cid') H H'/\p<=p'/\p'+1<=text.length/\
    kM (text.drop p) ((st:Int)+p)=(c::(kM (text.drop (p'+1)) ((st:Int)+(p'+1:Nat))).1,rp++(kM (text.drop (p'+1)) ((st:Int)+(p'+1:Nat))).2)/\rp.length<=1:=λH' c p' rp cid' T' ⟨h0,h1,h2,h3,h4,h5⟩ ⟨k1,k2,k3,k4,k5,k6⟩=>⟨rfl,c,p',rp,cid',h0,h1,h2,h3,h4,h5,k1,k2,k3,k4,k5,k6⟩
   have hBr:iH src off (ds++(reps++ [])) ib cid1 H1:=by rw[aT4];exact hBd
   have e2:(st:Int)+p+2=(st:Int)+(p+1+1:Nat):=z8
   have e1:(st:Int)+p+1=(st:Int)+(p+1:Nat):=z8
   refine wC rfl (Zn tN) (λb1=> ?_) (λb1=> ?_)
   ·have hc92:c0=92:=by
     have h:=of_decide_eq_true b1;have h:c0.toNat=92:=z8
     exact UInt8.toNat_inj.1 h
    have e3:text.drop (p+1+1)=r:=hd2;have gw3:IntKind.i64.wrap (((p:Nat):Int)+1)=((p+1:Nat):Int):=by rw[aY z8 z8];omega
    refine ZE (a2 y3 gw3) ?_;refine ZE (a3 y9 g1 gi1) ?_;refine ZL0 [0,1,2,7,8,9] ?_;refine uA ?_;refine qB ?_;refine ZE y5 ?_;refine ZI0 (λb2=> ?_) (λb2=> ?_)
    ·have hd110:d=110:=by
      have h:=of_decide_eq_true b2;have h:d.toNat=110:=z8
      exact UInt8.toNat_inj.1 h
     refine ZE y5 ?_;refine key H1 10 (p+1) [] cid1 _ ⟨rfl,rfl,rfl,rfl,rfl,rfl⟩ ⟨hBr,hFr,z8,z8, ?_,z6⟩;rw[hdr,kM,if_pos hc92,e3,<-e2];simp[hd110]
    ·have hd110:¬d=110:=by rintro rfl;simp at b2
     refine ZE y5 ?_;refine ZI0 (λb3=> ?_) (λb3=> ?_)
     ·have hd34:d=34:=by
       have h:=of_decide_eq_true b3;have h:d.toNat=34:=z8
       exact UInt8.toNat_inj.1 h
      refine wK ?_;refine ZG b3 ?_;refine wK ?_;refine key H1 d (p+1) [] cid1 _ ⟨rfl,rfl,rfl,rfl,rfl,rfl⟩ ⟨hBr,hFr,z8,z8, ?_,z6⟩;rw[hdr,kM,if_pos hc92,e3,<-e2];simp[hd110,hd34]
     ·have hd34:¬d=34:=by rintro rfl;simp at b3
      refine ZE y5 ?_;refine ZI0 (λb4=> ?_) (λb4=> ?_)
      ·have hd92:d=92:=by
        have h:=of_decide_eq_true b4;have h:d.toNat=92:=z8
        exact UInt8.toNat_inj.1 h
       refine wK ?_;refine key H1 d (p+1) [] cid1 _ ⟨rfl,rfl,rfl,rfl,rfl,rfl⟩ ⟨hBr,hFr,z8,z8, ?_,z6⟩;rw[hdr,kM,if_pos hc92,e3,<-e2];simp[hd110,hd34,hd92]
      ·have hd92:¬d=92:=by rintro rfl;simp at b4
       have ga1:IntKind.i64.wrap ((st:Int)+((p+1:Nat):Int))=(st:Int)+((p+1:Nat):Int):=aY z8 z8;have ga2:IntKind.i64.wrap ((st:Int)+((p+1:Nat):Int) -1)=(st:Int)+p:=by rw[aY z8 z8];omega
       have ga3:IntKind.i64.wrap ((st:Int)+((p+1:Nat):Int)+1)=(st:Int)+p+2:=by rw[aY z8 z8];omega
       have ga4:=True.intro;refine ZT 9 (a5 y3 ga1 ga2 ga3 ga4) ?_;refine ZA0 vE (nL hBd (by simp only[aTi,iB];omega) 6 ((st:Int)+p) ((st:Int)+p+2)) ?_;rintro _ H2 ⟨rfl,cid2,hB2,f2⟩;refine oN ?_;rw[aUa]at hB2;refine key H2 d (p+1) [gZ 6 ((st:Int)+p) ((st:Int)+p+2)] cid2 _ ⟨rfl,rfl,rfl,rfl,rfl,rfl⟩ ⟨hB2,hFr.trans f2,z8,z8, ?_,z6⟩;rw[hdr,kM,if_pos hc92,e3,<-e2];simp[hd110,hd34,hd92]
   ·refine wK ?_;refine key H1 c0 p [] cid1 _ ⟨rfl,rfl,rfl,rfl,rfl,rfl⟩ ⟨hBr,hFr,aSl _,z8, ?_,z6⟩;have hc92:¬c0=92:=by rintro rfl;simp at b1
    rw[hdr,kM,if_neg hc92,hd1,<-e1];rfl
  ·rintro _ T' H' ⟨rfl,c,p',rp,cid',t0,t1,t2,t7,t8,t9,hBd',hFr',hp',hpl,hu',hrp⟩;refine mE ?_;refine aG5 [(0, .optr ib 0),(1, .str text),(2, .int .i64 (st:Int)),(7, .optr H.length 0),(8, .int .i64 ((p':Nat):Int)),(9, .int .u8 c.toNat)] (by intro p hp;simp only[aTv,aT7,or_false]at hp;rcases hp with rfl|rfl|rfl|rfl|rfl|rfl<;>assumption) ?_;refine aCg ?_;refine aGu (hst out) rfl z7 (Za tN) ?_;refine TG (C':=Bx E0 H.length H.length (out++ [c])) (R:=λr H''=>r= .ifc none/\H''=H') (Zc tN) (mL tN) z7 aLi (λE vargs hC ho hH hrl=>aQv z8 E vargs hC ho hH hrl) ?_;rintro _ _ ⟨rfl,rfl⟩;refine OW ?_;refine mE ?_;have gw2:IntKind.i64.wrap (((p':Nat):Int)+1)=((p'+1:Nat):Int):=by rw[aY z8 z8];omega
   refine yT (hst (out++ [c])) ?_;refine eE (Za (a2 y3 gw2)) z7 ?_;intro E a hC ho hH ht;refine⟨text.length- (p'+1),E,_,z8,rfl,⟨p'+1,out++ [c],reps++rp,cid',rfl,z8,rfl,hC,by rw[hH];exact hBd',by rw[hH];exact hFr', ?_,by simp;omega,by simp;omega,z8⟩,ho,ht.sel (KH _ ?_)⟩
   ·rw[hu,hu'];simp
   ·intro p hp;simp only[aTv,aT7,or_false]at hp;rcases hp with rfl|rfl|rfl|rfl|rfl<;>rfl
 ·have gc:decide (((p:Nat):Int)<((text.length:Nat):Int) -1)=false:=decide_eq_false z8;refine yT (hst out) ?_;refine wF rfl (Zn gc) ?_;refine bD ?_;refine mE ?_
  repeat (refine xZ ?_)
  refine aCg ?_;refine TG (C':=λE=>E0.leN H.length E) (R:=λr H'=>r= .str out/\H'=H1) (Zc tN) (mL tN) z7 aP4 (λE vargs hC ho hH hrl=>aOv E vargs hC ho hH hrl) ?_;rintro _ _ ⟨rfl,rfl⟩;refine aGu (OP (aSl _)) rfl z7 (Za tN) ?_;refine OW ?_;refine mE ?_;refine yT (OP (aSl _)) ?_;refine wT ?_;intro E a hC ho hH ht;rw[aA6 (l:=text.drop p) (by rw[aS8];omega),aT4,aT4]at hu;refine⟨E,_,rfl,hC,ho,ht, .inr rfl,_,rfl, ?_⟩;unfold wD;rw[hu,hH];exact⟨rfl,cid1,hBd,hFr⟩
end Go.Abs
set_option maxRecDepth 4000
namespace Go.Abs
open Go.Proofs
theorem tV.fr{e3 e4:Value}{F F':List Nat}{H H':aC}(h:tV e3 e4 H)(f:Fr F F' H H')(h1:1∉F)(h2:2∉F):tV e3 e4 H':=⟨by rw[f.same 1 (lG h.1) h1];exact h.1,by rw[f.same 2 (lG h.2.1) h2];exact h.2.1,h.2.2⟩
theorem iH.glob{src:List UInt8}{off ib i:Nat}{ds:List Dg}{cid:List Nat}{H:aC}(h:iH src off ds ib cid H){b:Nat}{vs:List Value}(hi:H[i]? =some (.glob b vs)):i≠ib/\i∉cid:=by
 obtain⟨dv,h1,h2,h3⟩:=h;refine⟨λe=>(by rw[e,h1]at hi;cases hi),λe=> ?_⟩;cases h2 with
 |nil=>cases e
 |msl hH _ _=>rw[aT2]at e;rw[e,hH]at hi;cases hi
theorem aEw{src:List UInt8}{ib i off:Nat}{t:St}{n:Nd}{cv:PV}{ds:List Dg}{cid:List Nat}{H0:aC}{e3 e4:Value}(hE:tV e3 e4 H0)(hB:iH src off ds ib cid H0)(hr:H0[i]? =some (zE n cv))(hib:i≠ib)(hic:i∉cid)(hl:ds.length+t.text.length<iB)(hlt:off+t.text.length<iB):
  aN Tryz.prog 104 [.optr ib 0, .optr i 0,t.enc] H0 λr H'=>r= .tup []/\∃cid',iH src (off+t.text.length) (fI t off n ds).2 ib cid' H'/\H'[i]? =some (zE (fI t off n ds).1 cv)/\i∉cid'/\Fr (i::ib::cid) (i::ib::cid') H0 H':=by
 obtain⟨dv,hb,hk,hne⟩:=id hB;simp only[iB]at hl hlt;have hbl:=lG hb;have hrl:=lG hr;have qb:=aA hb;have qr:=aA hr;have gw:IntKind.i64.wrap (((off:Nat):Int)+((t.text.length:Nat):Int))=((off+t.text.length:Nat):Int):=by rw[aY z8 z8];omega
 have qs:∀L o,(H0++L).set ib o=H0.set ib o++L:=λL o=>XT hbl;have nB:(ib=H0.length)=False:=by simp;omega
 have nB2:∀k,(ib=H0.length+k)=False:=λk=>by simp;omega
 have nB3:(H0.length=ib)=False:=by simp;omega
 have hcell:=hk.cell;refine aF (N:=81) Tryz.func104 rfl rfl z6 λhb'=> ?_;have x1:=a5 hb hr qb qr (a5 gw qs nB nB2 nB3);refine ZE (a2 dM x1) ?_;refine ZE (a3 y3 rI x1) ?_;refine wQ ?_;refine uX 0 (n0:=H0.length+1) (by first|rfl| (simp only[aTi,aS2,aT5,Nat.reduceAdd,aTh,hb,hr,qb,qr,gw,qs,nB,nB2,nB3,lS];done)) (by kernel_rfl) ?_;refine rC 10 (by first|rfl| (simp only[aTi,aS2,aT5,Nat.reduceAdd,aTh,hb,hr,qb,qr,gw,qs,nB,nB2,nB3,lS];done)) (Zp (a5 y3 y9 dM rI x1)) z7 z7 z7 ?_;refine BM (by first| (simp only[LS,HS,aUa,aSg,aT1,hb,hr,qb,qr,gw,qs,nB,nB2,nB3,lS]<;>with_reducible rfl)|rfl) ?_;refine uF (bm:= [0,1,3,7,0,16,48,127,255,511,1023]) (fresh:=(H0.length+1)) (by kernel_rfl) (Zx (a2 y3 x1)) z7 (by repeat (first|exact fK.base _|with_reducible apply fK.keep|apply fK.drop)) ?_;refine ZL [0,1,5,6] x1 ?_;refine wQ ?_;refine bG (λH1=>iH src (off+t.text.length) ds ib cid H1/\H1[i]? =some (zE n cv)/\H1[H0.length]? =some (.row [.int .i64 t.kind, .str t.text, .slice (t.ch.map St.enc) .none])/\Fr (i::ib::cid) (i::ib::cid) H0 H1/\tV e3 e4 H1) ?_ ?_
 ·refine⟨⟨dv,ap1 hbl,hk.fr λj hj=>by have:=hk.lt j hj;rw[RX this (by rintro rfl;exact hne hj)],hne⟩,by rw[RX hrl hib];exact hr,ap3 (k:=0),⟨z6,λid h1 h2=>RX h1 (λe=>h2 (by simp[e])),λid h _=>h⟩, ?_⟩;exact⟨by rw[RX (lG hE.1) (hB.glob hE.1).1];exact hE.1,by rw[RX (lG hE.2.1) (hB.glob hE.2.1).1];exact hE.2.1,hE.2.2⟩
 rintro H1 ⟨hB1,hr1,ht1,f1,hE1⟩;obtain⟨dv1,hb1,hk1,hne1⟩:=id hB1;have hil:=lG hr1;have x2:=a4 hb1 hr1 ht1 x1;refine eE (Za (a3 y3 dM x2)) z7 ?_;refine qB ?_;have hcs:t.kind=101\/t.kind=102\/(t.kind=108/\t.text= [])\/(t.kind=108/\¬t.text= [])\/t.kind=103\/t.kind=105\/t.kind=106\/(t.kind≠101/\t.kind≠102/\t.kind≠108/\t.kind≠103/\t.kind≠105/\t.kind≠106):=by
  have h8:t.kind=101\/t.kind=102\/t.kind=108\/t.kind=103\/t.kind=105\/t.kind=106\/(t.kind≠101/\t.kind≠102/\t.kind≠108/\t.kind≠103/\t.kind≠105/\t.kind≠106):=z8
  by_cases h:t.text= []<;>rcases h8 with h1|h1|h1|h1|h1|h1|h1<;>simp[h,h1]
 rcases hcs with hk9|hk9| ⟨hk9,hte⟩| ⟨hk9,hte⟩|hk9|hk9|hk9| ⟨hk9,hk8,hk7,hk6,hk5,hk4⟩
 ·
  have g101:decide (t.kind=101)=true:=decide_eq_true z8;have g102:decide (t.kind=102)=false:=decide_eq_false z8;have g108:decide (t.kind=108)=false:=decide_eq_false z8;have g103:decide (t.kind=103)=false:=decide_eq_false z8;have g105:decide (t.kind=105)=false:=decide_eq_false z8;have g106:decide (t.kind=106)=false:=decide_eq_false z8;have hx:fI t off n ds=(n,ds):=by unfold fI;simp only[g101,if_true,if_false,aTc]
  have x3:=a5 g101 g102 g108 g103 (a3 g105 g106 x2);refine ZE (a2 y3 x3) ?_;refine ZG x3 ?_;refine qK ?_;refine ZG x3 ?_;refine wQ ?_;refine wT ⟨.inr rfl,_,rfl, ?_⟩;rw[hx];exact⟨rfl,cid,hB1,hr1,hic,f1⟩
 ·
  have g101:decide (t.kind=101)=false:=decide_eq_false z8;have g102:decide (t.kind=102)=true:=decide_eq_true z8;have g108:decide (t.kind=108)=false:=decide_eq_false z8;have g103:decide (t.kind=103)=false:=decide_eq_false z8;have g105:decide (t.kind=105)=false:=decide_eq_false z8;have g106:decide (t.kind=106)=false:=decide_eq_false z8;have hx:fI t off n ds=(n,ds):=by unfold fI;simp only[g101,g102,if_true,if_false,aTc]
  have x4:=a5 g101 g102 g108 g103 (a3 g105 g106 x2);refine ZE (a2 y3 x4) ?_;refine ZF x4 ?_;refine ZE (a2 y3 x4) ?_;refine ZG x4 ?_;refine wQ ?_;refine wT ⟨.inr rfl,_,rfl, ?_⟩;rw[hx];exact⟨rfl,cid,hB1,hr1,hic,f1⟩
 ·
  have g101:decide (t.kind=101)=false:=decide_eq_false z8;have g102:decide (t.kind=102)=false:=decide_eq_false z8;have g108:decide (t.kind=108)=true:=decide_eq_true z8;have g103:decide (t.kind=103)=false:=decide_eq_false z8;have g105:decide (t.kind=105)=false:=decide_eq_false z8;have g106:decide (t.kind=106)=false:=decide_eq_false z8;have ge:decide (t.text= [])=true:=decide_eq_true hte;have hx:fI t off n ds=(n,ds++ [gZ 1 off off]):=by unfold fI;simp only[g101,g102,g108,ge,if_true,if_false,aTc]
  have x5:=a5 g101 g102 g108 g103 (a4 g105 g106 ge x2);refine ZE (a2 y3 x5) ?_;refine ZF x5 ?_;refine ZE (a2 y3 x5) ?_;refine ZF x5 ?_;refine ZE (a2 y3 x5) ?_;refine ZG x5 ?_;refine ZE (a3 y9 dM x5) ?_;refine ZG x5 ?_;refine ZT 3 x5 ?_;refine ZA x5 vE (nL hB1 (by simp only[iB];omega) 1 off off) ?_;rintro _ H2 ⟨rfl,cid2,hB2,f2⟩;obtain⟨hr2,hic2,f3⟩:=zS f2 hr1 hib hic;refine oN ?_;refine wQ ?_;refine wT ⟨.inr rfl,_,rfl, ?_⟩;rw[hx];exact⟨rfl,cid2,hB2,hr2,hic2,f1.trans f3⟩
 ·
  have g101:decide (t.kind=101)=false:=decide_eq_false z8;have g102:decide (t.kind=102)=false:=decide_eq_false z8;have g108:decide (t.kind=108)=true:=decide_eq_true z8;have g103:decide (t.kind=103)=false:=decide_eq_false z8;have g105:decide (t.kind=105)=false:=decide_eq_false z8;have g106:decide (t.kind=106)=false:=decide_eq_false z8;have ge:decide (t.text= [])=false:=decide_eq_false hte;have hx:fI t off n ds=(iY n off ((off+t.text.length:Nat):Int),ds++ [gZ 3 off ((off+t.text.length:Nat):Int)]):=by unfold fI;simp only[g101,g102,g108,ge,if_true,if_false,aTc]<;>rfl
  have x6:=a5 g101 g102 g108 g103 (a4 g105 g106 ge x2);refine ZE (a2 y3 x6) ?_;refine ZF x6 ?_;refine ZE (a2 y3 x6) ?_;refine ZF x6 ?_;refine ZE (a2 y3 x6) ?_;refine ZG x6 ?_;refine ZE (a3 y9 dM x6) ?_;refine ZF x6 ?_;refine qK ?_;refine ZT 6 (a3 y3 rI x6) ?_;refine ZA x6 vE (nL hB1 (by simp only[iB];omega) 3 off ((off+t.text.length:Nat):Int)) ?_;rintro _ H2 ⟨rfl,cid2,hB2,f3⟩;obtain⟨hr2,hic2,f4⟩:=zS f3 hr1 hib hic;have f2:=f1.trans f4;obtain⟨dv2,hb2,hk2,hne2⟩:=id hB2;have hil2:=lG hr2;refine oN ?_;refine ZL [0,1,6] (a3 hb2 hr2 x6) ?_;refine ZT 6 (a5 y3 rI hb2 hr2 x6) ?_;refine ZA (a3 hb2 hr2 x6) AC (sC (n:=n) (cv:=cv) hr2 ((off:Nat):Int) ((off+t.text.length:Nat):Int)) ?_;rintro _ _ ⟨rfl,rfl⟩;refine oN ?_;refine⟨(by first|exact .inl rfl|exact .inl trivial|trivial),_,rfl, ?_⟩;rw[hx];exact⟨rfl,_,hB2.set hib hic2 _,aSz hil2,hic2,f2.setI _⟩
 ·
  have g101:decide (t.kind=101)=false:=decide_eq_false z8;have g102:decide (t.kind=102)=false:=decide_eq_false z8;have g108:decide (t.kind=108)=false:=decide_eq_false z8;have g103:decide (t.kind=103)=true:=decide_eq_true z8;have g105:decide (t.kind=105)=false:=decide_eq_false z8;have g106:decide (t.kind=106)=false:=decide_eq_false z8;have hx:fI t off n ds=(iY (fG n t.text off) off ((off+t.text.length:Nat):Int),ds++(if decide ((t.text.length:Int)>30)=true then [gZ 5 off ((off+t.text.length:Nat):Int)]else [])):=by
   unfold fI;simp only[g101,g102,g108,g103,if_true,if_false,aTc];refine congrArg (Prod.mk _) ?_
   split<;>simp
  have x7:=a5 g101 g102 g108 g103 (a3 g105 g106 x2);refine ZE (a2 y3 x7) ?_;refine ZF x7 ?_;refine ZE (a2 y3 x7) ?_;refine ZF x7 ?_;refine ZE (a2 y3 x7) ?_;refine ZF x7 ?_;refine ZE (a2 y3 x7) ?_;refine ZG x7 ?_;refine ZT 5 (a3 y9 dM x7) ?_;refine ZA x7 aKp (aF0 hB1 (by simp only[iB];omega) hr1 hib hic t.text off) ?_;rintro _ H2 ⟨rfl,cid2,hB2,hr2,hic2,f3⟩;have f2:=f1.trans f3;obtain⟨dv2,hb2,hk2,hne2⟩:=id hB2;have hil2:=lG hr2;refine oN ?_;refine ZL [0,1,6] (a3 hb2 hr2 x7) ?_;refine ZT 6 (a5 y3 rI hb2 hr2 x7) ?_;refine ZA (a3 hb2 hr2 x7) AC (sC (n:=fG n t.text off) (cv:=cv) hr2 ((off:Nat):Int) ((off+t.text.length:Nat):Int)) ?_;rintro _ _ ⟨rfl,rfl⟩;refine oN ?_;refine⟨(by first|exact .inl rfl|exact .inl trivial|trivial),_,rfl, ?_⟩;rw[hx];exact⟨rfl,_,hB2.set hib hic2 _,aSz hil2,hic2,f2.setI _⟩
 ·
  have g101:decide (t.kind=101)=false:=decide_eq_false z8;have g102:decide (t.kind=102)=false:=decide_eq_false z8;have g108:decide (t.kind=108)=false:=decide_eq_false z8;have g103:decide (t.kind=103)=false:=decide_eq_false z8;have g105:decide (t.kind=105)=true:=decide_eq_true z8;have g106:decide (t.kind=106)=false:=decide_eq_false z8;have hx:fI t off n ds=(iY (qJ n (GD t.text)) off ((off+t.text.length:Nat):Int),ds++JO t.text off ((off+t.text.length:Nat):Int)):=by
   unfold fI GD JO;simp only[g101,g102,g108,g103,g105,if_true,if_false,aTc]
   split<;>simp_all
  have x8:=a5 g101 g102 g108 g103 (a3 g105 g106 x2);refine ZE (a2 y3 x8) ?_;refine ZF x8 ?_;refine ZE (a2 y3 x8) ?_;refine ZF x8 ?_;refine ZE (a2 y3 x8) ?_;refine ZF x8 ?_;refine ZE (a2 y3 x8) ?_;refine ZF x8 ?_;refine ZE (a2 y3 x8) ?_;refine ZG x8 ?_;refine ZT 5 (a3 y9 dM x8) ?_;refine ZA x8 aNz (WR hE1 hB1 (by simp only[iB];omega) t.text off z8) ?_;rintro _ Hq ⟨rfl,cid2,hBq,fq⟩;obtain⟨hrq,hic2,fq2⟩:=zS fq hr1 hib hic;have f2:=f1.trans fq2;obtain⟨dv2,hbq,hkq,hneq⟩:=id hBq;have hilq:=lG hrq;have hs2:∀o,(Hq.set i o)[ib]? =some (.row [.str src, .int .i64 ((off+t.text.length:Nat):Int),dv2]):=λo=>by rw[aS0 hib];exact hbq
  have nIq:(i=Hq.length)=False:=by simp;omega
  have x9:=a5 hrq hbq hs2 nIq x8;refine ZX (a3 y3 bY x9) ?_;refine ZL [0,1,6] x9 ?_;refine ZT 6 (a3 y3 rI x9) ?_;refine ZA x9 AC (sC (n:=qJ n (GD t.text)) (cv:=cv) (aSz hilq) ((off:Nat):Int) ((off+t.text.length:Nat):Int)) ?_;rintro _ _ ⟨rfl,rfl⟩;refine oN ?_;refine⟨(by first|exact .inl rfl|exact .inl trivial|trivial),_,rfl, ?_⟩;rw[hx,aUe];exact⟨rfl,_,hBq.set hib hic2 _,aSz hilq,hic2,f2.setI _⟩
 ·
  have g101:decide (t.kind=101)=false:=decide_eq_false z8;have g102:decide (t.kind=102)=false:=decide_eq_false z8;have g108:decide (t.kind=108)=false:=decide_eq_false z8;have g103:decide (t.kind=103)=false:=decide_eq_false z8;have g105:decide (t.kind=105)=false:=decide_eq_false z8;have g106:decide (t.kind=106)=true:=decide_eq_true z8;have hx:fI t off n ds=(iY (KL n (wD t.text off).1) off ((off+t.text.length:Nat):Int),ds++(wD t.text off).2):=by unfold fI;simp only[g101,g102,g108,g103,g105,g106,if_true,if_false,aTc]<;>rfl
  have x10:=a5 g101 g102 g108 g103 (a3 g105 g106 x2);refine ZE (a2 y3 x10) ?_;refine ZF x10 ?_;refine ZE (a2 y3 x10) ?_;refine ZF x10 ?_;refine ZE (a2 y3 x10) ?_;refine ZF x10 ?_;refine ZE (a2 y3 x10) ?_;refine ZF x10 ?_;refine ZE (a2 y3 x10) ?_;refine ZF x10 ?_;refine ZE (a2 y3 x10) ?_;refine ZG x10 ?_;refine ZT 5 (a3 y9 dM x10) ?_;refine ZA x10 aLs (aPu hB1 t.text off (by simp only[iB];omega) (by simp only[iB];omega)) ?_;rintro _ Hq ⟨rfl,cid2,hBq,fq⟩;obtain⟨hrq,hic2,fq2⟩:=zS fq hr1 hib hic;have f2:=f1.trans fq2;obtain⟨dv2,hbq,hkq,hneq⟩:=id hBq;have hilq:=lG hrq;have hs2:∀o,(Hq.set i o)[ib]? =some (.row [.str src, .int .i64 ((off+t.text.length:Nat):Int),dv2]):=λo=>by rw[aS0 hib];exact hbq
  have nIq:(i=Hq.length)=False:=by simp;omega
  have x11:=a5 hrq hbq hs2 nIq x10;refine ZX (a3 y9 bY x11) ?_;refine ZL [0,1,6] x11 ?_;refine ZT 6 (a3 y3 rI x11) ?_;refine ZA x11 AC (sC (n:=KL n (wD t.text off).1) (cv:=cv) (aSz hilq) ((off:Nat):Int) ((off+t.text.length:Nat):Int)) ?_;rintro _ _ ⟨rfl,rfl⟩;refine oN ?_;refine⟨(by first|exact .inl rfl|exact .inl trivial|trivial),_,rfl, ?_⟩;rw[hx,aUe];exact⟨rfl,_,hBq.set hib hic2 _,aSz hilq,hic2,f2.setI _⟩
 ·
  have g101:decide (t.kind=101)=false:=decide_eq_false z8;have g102:decide (t.kind=102)=false:=decide_eq_false z8;have g108:decide (t.kind=108)=false:=decide_eq_false z8;have g103:decide (t.kind=103)=false:=decide_eq_false z8;have g105:decide (t.kind=105)=false:=decide_eq_false z8;have g106:decide (t.kind=106)=false:=decide_eq_false z8;have hx:fI t off n ds=(iY (jB n t.text) off ((off+t.text.length:Nat):Int),ds):=by unfold fI;simp only[g101,g102,g108,g103,g105,g106,if_true,if_false,aTc]<;>rfl
  have x12:=a5 g101 g102 g108 g103 (a3 g105 g106 x2);refine ZE (a2 y3 x12) ?_;refine ZF x12 ?_;refine ZE (a2 y3 x12) ?_;refine ZF x12 ?_;refine ZE (a2 y3 x12) ?_;refine ZF x12 ?_;refine ZE (a2 y3 x12) ?_;refine ZF x12 ?_;refine ZE (a2 y3 x12) ?_;refine ZF x12 ?_;refine ZE (a2 y3 x12) ?_;refine ZF x12 ?_;refine ZT 3 (a3 y9 dM x12) ?_;refine ZA x12 aNm (WU (n:=n) (cv:=cv) hr1 t.text) ?_;rintro _ H2 ⟨rfl,hH2⟩;have hB2:iH src (off+t.text.length) ds ib cid H2:=by rw[hH2];exact hB1.set hib hic _
  have hr2:H2[i]? =some (zE (jB n t.text) cv):=by rw[hH2];exact aSz hil
  have f2:Fr (i::ib::cid) (i::ib::cid) H0 H2:=by rw[hH2];exact f1.setI _
  have hic2:=hic;obtain⟨dv2,hb2,hk2,hne2⟩:=id hB2;have hil2:=lG hr2;refine oN ?_;refine ZL [0,1,6] (a3 hb2 hr2 x12) ?_;refine ZT 6 (a5 y3 rI hb2 hr2 x12) ?_;refine ZA (a3 hb2 hr2 x12) AC (sC (n:=jB n t.text) (cv:=cv) hr2 ((off:Nat):Int) ((off+t.text.length:Nat):Int)) ?_;rintro _ _ ⟨rfl,rfl⟩;refine oN ?_;refine⟨(by first|exact .inl rfl|exact .inl trivial|trivial),_,rfl, ?_⟩;rw[hx];exact⟨rfl,_,hB2.set hib hic2 _,aSz hil2,hic2,f2.setI _⟩
set_option maxRecDepth 4000
theorem YY{src:List UInt8}{n m:Nd}{ds ds':List Dg}(h:NW src n ds=some (m,ds')):(n.kind=60/\ds'=ds/\∃c cs,n.kids=c::cs/\m=fC c n.st n.en)\/
  (n.kind=46/\∃cd,cd=(if decide (n.st=n.en)=true then(1:Int)else 2)/\(0<=n.st/\n.st<=n.en/\n.en<=src.length/\ds.length<iB)/\m=⟨46,0,(src.drop n.st.toNat).take (n.en.toNat-n.st.toNat),n.st,n.en, -1,[]⟩/\ds'=ds++ [gZ cd n.st n.en])\/(n.kind≠60/\n.kind≠46/\n=m/\ds=ds'):=by
 unfold NW at h;simp only[decide_eq_true_eq]at h
 split at h
 ·rename_i h1
  split at h
  ·rename_i c cs hc;injection h with h;injection h with h2 h3;exact .inl ⟨h1,h3.symm,c,cs,hc,h2.symm⟩
  ·cases h
 rename_i h60
 split at h
 ·rename_i h46
  split at h
  ·rename_i hb;injection h with h;injection h with h2 h3;exact .inr (.inl ⟨h46,_,rfl,hb,h2.symm,by simpa using h3.symm⟩)
  ·cases h
 ·rename_i h46;injection h with h;injection h with h2 h3;exact .inr (.inr ⟨h60,h46,h2,h3⟩)
theorem aBq{src:List UInt8}{n m:Nd}{ds ds':List Dg}{off ib:Nat}{cid:List Nat}{H:aC}(hm:NW src n ds=some (m,ds'))(hB:iH src off ds ib cid H):aN Tryz.prog 106 [.optr ib 0,n.enc] H λr H'=>r=m.enc/\∃cid',iH src off ds' ib cid' H'/\Fr (ib::cid) (ib::cid') H H':=by
 have hcs:=YY hm;refine aF (N:=51) Tryz.func106 rfl rfl z6 λhb'=> ?_;refine ZE bY ?_;rcases hcs with⟨hk,rfl,c,cs,hc,rfl⟩| ⟨hk,cd,hcde,⟨hb0,hb1,hb9,hlr⟩,rfl,rfl⟩| ⟨h1,h2,rfl,rfl⟩
 ·
  have g60:decide (n.kind=60)=true:=decide_eq_true z8;have g46:decide (n.kind=46)=false:=decide_eq_false z8;have gc:n.kids.map Nd.enc=c.enc::cs.map Nd.enc:=by rw[hc];rfl
  have gpos:((0:Int)<((cs.length+1:Nat):Int))=True:=eq_true z8;refine wQ ?_;refine eE (by simp only[kA,seval,y3,bY,aB,qC,eX,eY,g60,g46,gc,hc,gpos,aTo,Nd.enc_len]<;>with_reducible rfl) z7 ?_;refine qB ?_;refine wQ ?_;refine eE (by simp only[kA,seval,y3,aB,qC,eX,eY,g60,g46,gc,hc,gpos,aTo,Nd.enc_len]<;>with_reducible rfl) z7 ?_;refine wQ ?_;refine jJ rfl (by simp only[jN,seval,aB,qC,eX,eY,g60,g46,gc,hc,gpos,aTo,Nd.enc_len]<;>with_reducible rfl) ?_;refine wQ ?_;refine eE (by simp only[kA,seval,zY,bY,aB,qC,eX,eY,g60,g46,gc,hc,gpos,aTo,Nd.enc_len]<;>with_reducible rfl) z7 ?_;refine wQ ?_;refine uX 0 (n0:=H.length+3) (by first|rfl| (simp only[aTi,aS2,aT5,Nat.reduceAdd,aTh,g60,g46,gc,hc,gpos,aTo,Nd.enc_len];done)) (by kernel_rfl) ?_;refine BM (by first| (simp only[LS,HS,aUa,aSg,aT1,g60,g46,gc,hc,gpos,aTo,Nd.enc_len]<;>with_reducible rfl)|rfl) ?_;refine uF (bm:= [0,1,0,4,3,19,63,127]) (fresh:=(H.length+3)) (by kernel_rfl) (by simp only[jX,jO,jN,seval,y3,bY,aB,qC,eX,eY,g60,g46,gc,hc,gpos,aTo,Nd.enc_len]<;>with_reducible rfl) z7 (by repeat (first|exact fK.base _|with_reducible apply fK.keep|apply fK.drop)) ?_;refine wL [4,5] (by simp only[jN,seval,aB,qC,eX,eY,g60,g46,gc,hc,gpos,aTo,Nd.enc_len]<;>with_reducible rfl) ?_;refine wQ ?_;refine eE (by simp only[kA,seval,bY,aB,qC,eX,eY,g60,g46,gc,hc,gpos,aTo,Nd.enc_len]<;>with_reducible rfl) z7 ?_;refine wQ ?_;refine wT ⟨.inr rfl,_,(cD 4 31 rfl nQ z7 (by simp only[jL,jN,seval,aB,qC,eX,eY,g60,g46,gc,hc,gpos,aTo,Nd.enc_len]<;>with_reducible rfl)), ?_⟩;refine⟨?_,cid,hB.app _,(Fr.refl _ _).app _⟩
  first|rfl| (simp only[jN,seval,aB,qC,eX,eY];done)|simp only[fC,Nd.enc_eq,PV.drop1,List.map,PV.drop0,Nd.kind,Nd.value,Nd.text,Nd.st,Nd.en,Nd.ns,Nd.kids]
 ·
  have g60:decide (n.kind=60)=false:=decide_eq_false z8;have g46:decide (n.kind=46)=true:=decide_eq_true z8;refine ZE (a4 y3 bY g60 g46) ?_;refine qB ?_;refine ZE (a3 y3 g60 g46) ?_;refine ZF (a2 g60 g46) ?_;refine ZE (a3 y3 g60 g46) ?_;refine ZG (a2 g60 g46) ?_;refine ZE (a2 g60 g46) ?_;refine ZE (a4 y3 bY g60 g46) ?_;refine ZI (a2 g60 g46) (λbt28=> ?_) (λbt28=> ?_)
  ·
   have hcd:cd=1:=by rw[hcde];exact if_pos bt28
   refine ZE (a2 g60 g46) ?_;refine ZL [0,3,4,6] (a2 g60 g46) ?_;refine ZT 6 (a4 y3 bY g60 g46) ?_;refine ZA (a2 g60 g46) vE (nL (hB.app _) hlr 1 n.st n.en) ?_;rintro _ H2 ⟨rfl,cid2,hB2,f2⟩;obtain⟨dv2,hb2,hk2,hne2⟩:=id hB2;have hlt:=hB.lt;have n3:H.length∉ib::cid:=λe=>by have:=hlt H.length (by simpa using e);omega
   have n4:H.length+1∉ib::cid:=λe=>by have:=hlt (H.length+1) (by simpa using e);omega
   have h3:H2[H.length]? =some (CE n):=by rw[f2.same _ z6 n3];simp
   have h4:H2[H.length+1]? =some (BL):=by rw[f2.same _ z6 n4];simp
   have hl4:=lG h4;have hs4:∀o,(H2.set (H.length+1) o)[H.length+1]? =some o:=λo=>aSz hl4;have nI4:(H.length+1=H2.length)=False:=by simp;omega
   have OJ:(0<=n.en/\n.en<=(src.length:Int))=True:=eq_true ⟨z8,hb9⟩;have PE:(0<=n.st/\n.st<=((n.en.toNat:Nat):Int))=True:=eq_true ⟨hb0,z8⟩;have gs3:List.drop n.st.toNat (List.take n.en.toNat src)=(src.drop n.st.toNat).take (n.en.toNat-n.st.toNat):=List.drop_take;refine oN ?_;refine wQ ?_;refine uX 0 rfl (by kernel_rfl) ?_;refine rC 14 rfl (by simp only[jP,jO,jN,seval,y3,y9,bY,rI,jS,aB,qC,eX,eY,g60,g46,hb2,h3,h4,hs4,nI4,OJ,PE,gs3,lS]<;>with_reducible rfl) z7 z7 z7 ?_;refine BM (by first| (simp only[LS,HS,aUa,aSg,aT1,g60,g46,hb2,h3,h4,hs4,nI4,OJ,PE,gs3,lS]<;>with_reducible rfl)|rfl) ?_;refine uF (bm:= [0,1,3,7,0,16,0,64,255,0,512,0,2048,8191,16383]) (fresh:=0) (by kernel_rfl) (Zx (a5 bY g60 g46 hb2 (a5 h3 h4 hs4 nI4 (a3 OJ PE gs3)))) z7 (by repeat (first|exact fK.base _|with_reducible apply fK.keep|apply fK.drop)) ?_;refine wQ ?_;refine wT ⟨.inr rfl,_,(cD 4 31 rfl nQ z7 (by simp only[jL,jN,seval,aB,qC,eX,eY,g60,g46,hb2,h3,h4,hs4,nI4,OJ,PE,gs3,lS]<;>with_reducible rfl)), ?_⟩;rw[hcd];refine⟨?_,cid2,hB2.set (λe=>n4 (by simp[e])) (λe=> ?_) _, ?_⟩
   ·first|rfl| (simp only[jN,seval,aB,qC,eX,eY];done)|simp only[Nd.enc_eq,PV.drop1,List.map,PV.drop0,Nd.kind,Nd.value,Nd.text,Nd.st,Nd.en,Nd.ns,Nd.kids]
   ·exact n4 (f2.ids _ (aUj _ e) z6)
   ·have f3:=f2.of_app;exact⟨by rw[lS];exact f3.len,λid q1 q2=>by rw[aS0 z8];exact f3.same id q1 q2,f3.ids⟩
  ·
   have hcd:cd=2:=by rw[hcde];exact if_neg (by rw[bt28];simp)
   refine qK ?_;refine ZT 6 (a4 y3 bY g60 g46) ?_;refine ZA (a2 g60 g46) vE (nL (hB.app _) hlr 2 n.st n.en) ?_;rintro _ H2 ⟨rfl,cid2,hB2,f2⟩;obtain⟨dv2,hb2,hk2,hne2⟩:=id hB2;have hlt:=hB.lt;have n3:H.length∉ib::cid:=λe=>by have:=hlt H.length (by simpa using e);omega
   have n4:H.length+1∉ib::cid:=λe=>by have:=hlt (H.length+1) (by simpa using e);omega
   have h3:H2[H.length]? =some (CE n):=by rw[f2.same _ z6 n3];simp
   have h4:H2[H.length+1]? =some (BL):=by rw[f2.same _ z6 n4];simp
   have hl4:=lG h4;have hs4:∀o,(H2.set (H.length+1) o)[H.length+1]? =some o:=λo=>aSz hl4;have nI4:(H.length+1=H2.length)=False:=by simp;omega
   have OJ:(0<=n.en/\n.en<=(src.length:Int))=True:=eq_true ⟨z8,hb9⟩;have PE:(0<=n.st/\n.st<=((n.en.toNat:Nat):Int))=True:=eq_true ⟨hb0,z8⟩;have gs3:List.drop n.st.toNat (List.take n.en.toNat src)=(src.drop n.st.toNat).take (n.en.toNat-n.st.toNat):=List.drop_take;refine oN ?_;have x1:=a5 g60 g46 hb2 h3 (a5 h4 hs4 nI4 OJ (a2 PE gs3));refine ZL [0,3,4] x1 ?_;refine wQ ?_;refine uX 0 rfl (by kernel_rfl) ?_;refine rC 14 rfl (by simp only[jP,jO,jN,seval,y3,y9,bY,rI,jS,aB,qC,eX,eY,g60,g46,hb2,h3,h4,hs4,nI4,OJ,PE,gs3,lS]<;>with_reducible rfl) z7 z7 z7 ?_;refine BM (by first| (simp only[LS,HS,aUa,aSg,aT1,g60,g46,hb2,h3,h4,hs4,nI4,OJ,PE,gs3,lS]<;>with_reducible rfl)|rfl) ?_;refine uF (bm:= [0,1,3,7,0,16,0,64,255,0,512,0,2048,8191,16383]) (fresh:=0) (by kernel_rfl) (Zx (a2 bY x1)) z7 (by repeat (first|exact fK.base _|with_reducible apply fK.keep|apply fK.drop)) ?_;refine wQ ?_;refine wT ⟨.inr rfl,_,(cD 4 31 rfl nQ z7 (by simp only[jL,jN,seval,aB,qC,eX,eY,g60,g46,hb2,h3,h4,hs4,nI4,OJ,PE,gs3,lS]<;>with_reducible rfl)), ?_⟩;rw[hcd];refine⟨?_,cid2,hB2.set (λe=>n4 (by simp[e])) (λe=> ?_) _, ?_⟩
   ·first|rfl| (simp only[jN,seval,aB,qC,eX,eY];done)|simp only[Nd.enc_eq,PV.drop1,List.map,PV.drop0,Nd.kind,Nd.value,Nd.text,Nd.st,Nd.en,Nd.ns,Nd.kids]
   ·exact n4 (f2.ids _ (aUj _ e) z6)
   ·have f3:=f2.of_app;exact⟨by rw[lS];exact f3.len,λid q1 q2=>by rw[aS0 z8];exact f3.same id q1 q2,f3.ids⟩
 ·
  have g60:decide (n.kind=60)=false:=decide_eq_false z8;have g46:decide (n.kind=46)=false:=decide_eq_false z8;refine ZE (a4 y3 bY g60 g46) ?_;refine qB ?_;refine ZE (a3 y3 g60 g46) ?_;refine ZF (a2 g60 g46) ?_;refine ZE (a3 y3 g60 g46) ?_;refine ZF (a2 g60 g46) ?_;refine qK ?_;refine ZE (a3 bY g60 g46) ?_;refine wQ ?_;refine wT ⟨.inr rfl,_,(cD 4 31 rfl nQ z7 (by simp only[jL,jN,seval,aB,qC,eX,eY,g60,g46]<;>with_reducible rfl)), ?_⟩;refine⟨?_,cid,hB.app _,(Fr.refl _ _).app _⟩
  first|rfl| (simp only[jN,seval,aB,qC,eX,eY];done)|exact Nd.enc_drop1 _
set_option maxRecDepth 4000
theorem BU:PV.fits ⟨true,7,80⟩ (aT (Value.agg #[Value.int IntKind.i64 0,Value.int IntKind.i64 0,Value.string {data:= #[]},Value.int IntKind.i64 0,Value.int IntKind.i64 0,Value.int IntKind.i64 0,Value.slice none 0 0]))=true:=by kernel_rfl
theorem BV:(aT (Value.agg #[Value.int IntKind.i64 0,Value.int IntKind.i64 0,Value.string {data:= #[]},Value.int IntKind.i64 0,Value.int IntKind.i64 0,Value.int IntKind.i64 0,Value.slice none 0 0])).drop1= .agg [.int .i64 0, .int .i64 0, .str [], .int .i64 0, .int .i64 0, .int .i64 0, .slice [] .none]:=by rfl
theorem QA(t:Nd):t.enc.cells.all PV.isCell=true:=by rw[Nd.enc_cells];rfl
theorem lJ(kids:List Nd)(t:Nd):aH ((kids++ [t]).map Nd.enc)=aH (kids.map Nd.enc)++ [.int .i64 t.kind, .int .i64 t.value, .str t.text, .int .i64 t.st, .int .i64 t.en, .int .i64 t.ns, .slice (t.kids.map Nd.enc) .none]:=by
 rw[List.map_append,cN];simp[aH,Nd.enc_cells]
theorem mQ(kids:List Nd):(aH (kids.map Nd.enc)).length=kids.length*7:=kG Nd.enc_len kids
theorem XH{A rest:List PV}{m:Nat}{x0 x1 x2 x3 x4 x5 x6 a0 a1 a2 a3 a4 a5 a6:PV}(hA:A.length=m):
  (((((((A++x0::x1::x2::x3::x4::x5::x6::rest).set m a0).set (m+1) a1).set (m+2) a2).set (m+3) a3).set (m+4) a4).set (m+5) a5).set (m+6) a6=A++ [a0,a1,a2,a3,a4,a5,a6]++rest:=by
 subst hA;rw[aTw _ _ (aSl _),Nat.sub_self]
 iterate 6 rw[aTw _ _ z8]
 simp[show A.length+1-A.length=1 by omega,show A.length+2-A.length=2 by omega,show A.length+3-A.length=3 by omega,show A.length+4-A.length=4 by omega,show A.length+5-A.length=5 by omega,show A.length+6-A.length=6 by omega]
theorem Nd.enc_agg(t:Nd):PV.agg t.enc.cells=t.enc:=by rw[Nd.enc_cells,Nd.enc_eq]
theorem MY(n:Nd)(t:List UInt8)(s:Int):(fG n t s).kids=n.kids:=by unfold fG;split<;>rfl
theorem RJ(n:Nd)(t:List UInt8):(jB n t).kids=n.kids:=by
 unfold jB
 split
 ·rfl
 split
 ·rfl
 split
 ·rfl
 split
 ·rfl
 split
 ·rfl
 ·rfl
theorem AP(t:St)(off:Nat)(n:Nd)(ds:List Dg):(fI t off n ds).1.kids=n.kids:=by
 unfold fI;simp only
 split
 ·rfl
 split
 ·rfl
 split
 ·split<;>rfl
 split
 ·exact MY n _ _
 split
 ·split<;>rfl
 split
 ·rfl
 ·exact RJ n _
theorem Fr.out{F F':List Nat}{H H':aC}(f:Fr F F' H H'){x:Nat}(h:x<H.length)(hx:x∉F):x∉F':=λe=>hx (f.ids x e h)
theorem aRe{F F1 F2:List Nat}{H H1 H2 L:aC}(a:Fr F F1 H H1)(b:Fr F1 F2 (H1++L) H2):Fr F F2 H H2:=a.trans b.of_app
theorem aRb{F F1 F2:List Nat}{i:Nat}{H H1 H2 L:aC}(a:Fr F F1 H H1)(b:Fr (i::F1) (i::F2) (H1++L) H2)(hi:H.length<=i):Fr F F2 H H2:=
 ⟨aSm a.len (aSm z6 b.len),λid h1 h2=>by
  have h3:=a.len;rw[b.same id (by simp;omega) (λe=>by rcases aTv.1 e with e|e;omega;exact h2 (a.ids id e h1)),aSv z8];exact a.same id h1 h2,λid h1 h2=>by
  have h3:=a.len;rcases aTv.1 (b.ids id (aUj _ h1) (by simp;omega))with e|e
  ·omega
  ·exact a.ids id e h2⟩
theorem tV.app{e3 e4:Value}{H:aC}(h:tV e3 e4 H)(L:aC):tV e3 e4 (H++L):=⟨aA h.1 L,aA h.2.1 L,h.2.2⟩
def NC(src:List UInt8)(e3 e4:Value)(ib:Nat)(t:St):Prop:=∀(off:Nat) (ds:List Dg) (off':Nat) (m:Nd) (ds':List Dg) (cid:List Nat) (H:aC),uG src t off ds=some (off',m,ds')->iH src off ds ib cid H->tV e3 e4 H->
 aN Tryz.prog 56 [.optr ib 0,t.enc] H λr H'=>r=m.enc/\∃cid',iH src off' ds' ib cid' H'/\Fr (ib::cid) (ib::cid') H H'
theorem LB(src:List UInt8)(t:St)(off:Nat)(ds:List Dg):uG src t off ds=if t.ch.length<iB then(oK src t.ch off ⟨t.kind,0,[],off, -1, -1,[]⟩ ds).bind λr=>(NW src (fC r.2.1 r.2.1.st (max r.2.1.en r.2.1.st)) r.2.2).bind λm=>some (r.1,m.1,m.2)else none:=by
 cases t;rw[uG];rfl
theorem EP(src:List UInt8)(c:St)(cs:List St)(off:Nat)(n:Nd)(ds:List Dg):oK src (c::cs) off n ds=if decide (c.kind>=100)=true then(if ds.length+c.text.length<iB/\off+c.text.length<iB then oK src cs (off+c.text.length) (fI c off n ds).1 (fI c off n ds).2 else none)
  else(uG src c off ds).bind λr=>if n.kids.length<iB then oK src cs r.1 (mW (iY n r.2.1.st r.2.1.en) r.2.1) r.2.2 else none:=by rw[oK]
theorem aK0{src:List UInt8}{e3 e4:Value}{ib:Nat}{t:St}(ih:∀c∈t.ch,NC src e3 e4 ib c):NC src e3 e4 ib t:=by
 intro off ds off' m ds' cid H0 hm hB hE;rw[LB]at hm
 split at hm
 case isFalse=>cases hm
 rename_i hlen;simp only[iB]at hlen;obtain⟨⟨off2,n2,ds2⟩,hkids,hm⟩:=oB hm;obtain⟨⟨m',dm⟩,hfin,hm⟩:=oB hm;injection hm with hm;injection hm with hm1 hm2;injection hm2 with hm2 hm3;simp only at hfin hm1;subst hm1 hm2 hm3;have hmx:maxLen=9223372036854775807:=z7
 have hblt:=hB.lt;have hbl:=hblt ib (.inl rfl);obtain⟨dv,hb,hk,hne⟩:=id hB;have qb:=aA hb;have nc:∀k,H0.length+k∉cid:=λk e=>by have:=hblt _ (.inr e);omega
 have h1b:=(hB.glob hE.1);have h2b:=(hB.glob hE.2.1);refine aF (N:=57) Tryz.func56 rfl rfl z6 λhb'=> ?_;refine ZE (a4 bY dM hb qb) ?_;refine ZE (a4 y3 rI hb qb) ?_;refine ZE (a5 y3 bY dM hb qb) ?_;refine ZE (a4 nG dM hb qb) ?_;refine qB ?_;refine eC (σ:=Nat×Nat×Nd×List Dg) (λ(z:Nat×Nat×Nd×List Dg)=> [(0, .optr ib 0),(4, .optr (H0.length+1) 0),(6, .optr (H0.length+2) 0),(19, .slice (t.ch.map St.enc) .none),(20,aB (t.ch.length:Int)),(21,aB (z.1:Int))]) (λ(z:Nat×Nat×Nd×List Dg)=>λH1=>z.1<=t.ch.length/\oK src (t.ch.drop z.1) z.2.1 z.2.2.1 z.2.2.2=some (off2,n2,ds2)/\∃cid1,iH src z.2.1 z.2.2.2 ib cid1 H1/\(∃cv kid,H1[H0.length+2]? =some (zE z.2.2.1 cv)/\kJ Nd.enc 7 H1 cv z.2.2.1.kids kid/\∀x∈kid,H0.length+3<=x/\x∉cid1)/\H1[H0.length+1]? =some (BL)/\H0.length+1∉cid1/\H0.length+2∉cid1/\Fr (ib::cid) (ib::cid1) H0 H1) (λ(z:Nat×Nat×Nd×List Dg)=>t.ch.length-z.1) ((0,off,(Nd.mk t.kind 0 [] ((off:Nat):Int) (-1) (-1) []),ds)) (Zt (a2 hb qb)) (⟨aTn _,hkids,cid,hB.app _,⟨.slice [] .full,[],by simp[Nd.kind,Nd.value,Nd.text,Nd.st,Nd.en,Nd.ns], .nil,λx hx=>by cases hx⟩,z6,nc 1,nc 2,(Fr.refl _ H0).app _⟩) ?_;intro z H1 hg;obtain⟨j,off1,n,DE⟩:=z;obtain⟨hj,hk1,cid1,hB1,⟨cv,kid,hn1,hc1,hd1⟩,hz1,hzc1,hnc1,f1⟩:=hg;simp only at hj hk1 hB1 hn1 hc1 hz1 f1;have hil1:=lG hn1;have hE1:=hE.fr f1 (by simp[h1b.1,h1b.2]) (by simp[h2b.1,h2b.2]);have qn1:=aA hn1;have qz1:=aA hz1;rcases aSk j t.ch.length with hi|hi
 ·
  have gi:=bS hi;have ge:=eH St.enc hi;have gl:decide ((j:Int)<(t.ch.length:Int))=true:=decide_eq_true z8;have gwj:IntKind.i64.wrap ((j:Int)+1)=((j+1:Nat):Int):=by rw[aY z8 z8];omega
  rw[aUc hi,EP]at hk1;have x1:=a5 hb qb hn1 hz1 (a5 qn1 qz1 gi ge (a2 gl gwj));refine ZE (a2 y3 x1) ?_;refine ZG x1 ?_;refine qK ?_;refine qB ?_;refine ZE (a3 nG dM x1) ?_;refine ZE (a3 y3 dM x1) ?_;refine ZI x1 (λbt27=> ?_) (λbt27=> ?_)
  ·
   rw[if_pos bt27]at hk1
   split at hk1
   case isFalse=>cases hk1
   rename_i hgd;refine ZT 2 (a2 dM x1) ?_;refine ZA x1 aK3 (aEw (hE1.app _) (hB1.app _) (qn1 _) z8 hnc1 hgd.1 hgd.2) ?_;rintro _ H2 ⟨rfl,cid2,hB2,hn2,hnc2,g2⟩;refine oN ?_;refine wQ ?_;refine bD ?_;simp only[aW,aO,reduceIte,Nat.reduceEqDiff,aUb,if_true,if_false];refine ZE (a2 y3 x1) ?_
   try simp only[aW,aO]
   have f2:=aRb f1 g2 z8;have hkx:∀x∈kid,x<H1.length/\x∉(H0.length+2)::ib::cid1:=λx hx=>⟨hc1.lt x hx,by have:=hd1 x hx;simp only[aTv,not_or];exact⟨z8,z8,this.2⟩⟩;have hzx:H0.length+1∉(H0.length+2)::ib::cid1:=by simp only[aTv,not_or];exact⟨z8,z8,hzc1⟩
   have hzl:=lG hz1;exact⟨(j+1,off1+t.ch[j].text.length,(fI t.ch[j] off1 n DE).1,(fI t.ch[j] off1 n DE).2),by show t.ch.length- (j+1)<t.ch.length-j;omega,ZV,hi,hk1,cid2,hB2,⟨cv,kid,hn2,by rw[AP];exact hc1.fr (λx hx=>by rw[g2.same x (by have:=(hkx x hx).1;simp;omega) (hkx x hx).2,aSv (hkx x hx).1]),λx hx=>⟨(hd1 x hx).1,λe=>g2.out (by have:=(hkx x hx).1;simp;omega) (hkx x hx).2 (by simp[e])⟩⟩,by rw[g2.same _ (by simp;omega) hzx];exact qz1 _,λe=>g2.out (by simp;omega) hzx (by simp[e]),hnc2,f2⟩
  ·
   rw[if_neg (by rw[bt27];simp)]at hk1;obtain⟨⟨off3,m3,QP⟩,hnode,hk1⟩:=oB hk1;simp only at hk1
   split at hk1
   case isFalse=>cases hk1
   rename_i hlk;refine qK ?_;refine ZT 2 (a2 dM x1) ?_;refine ZA x1 aG4 (ih t.ch[j] (aTk hi) off1 DE off3 m3 QP cid1 _ hnode (hB1.app _) (hE1.app _)) ?_;rintro _ H2 ⟨rfl,cid2,hB2,g2⟩;have f2:=aRe f1 g2;have hnx:H0.length+2∉ib::cid1:=by simp only[aTv,not_or];exact⟨z8,hnc1⟩
   have hzx:H0.length+1∉ib::cid1:=by simp only[aTv,not_or];exact⟨z8,hzc1⟩
   have hzl:=lG hz1;have hkx:∀x∈kid,x<H1.length/\x∉ib::cid1:=λx hx=>⟨hc1.lt x hx,by have:=hd1 x hx;simp only[aTv,not_or];exact⟨z8,this.2⟩⟩;have hn2:H2[H0.length+2]? =some (zE n cv):=by rw[g2.same _ (by simp;omega) hnx];exact qn1 _
   have hz2:H2[H0.length+1]? =some (BL):=by rw[g2.same _ (by simp;omega) hzx];exact qz1 _
   have hc2:kJ Nd.enc 7 H2 cv n.kids kid:=hc1.fr λx hx=>by rw[g2.same x (by have:=(hkx x hx).1;simp;omega) (hkx x hx).2,aSv (hkx x hx).1]
   have hd2:∀x∈kid,H0.length+3<=x/\x∉cid2:=λx hx=>⟨(hd1 x hx).1,λe=>g2.out (by have:=(hkx x hx).1;simp;omega) (hkx x hx).2 (by simp[e])⟩;have hnc2:H0.length+2∉cid2:=λe=>g2.out (by simp;omega) hnx (by simp[e]);have hzc2:H0.length+1∉cid2:=λe=>g2.out (by simp;omega) hzx (by simp[e]);have qn2:=aA hn2;have hil2:=lG hn2;have x2:=a3 hn2 qn2 x1;refine ZX (a2 bY x2) ?_;refine ZT 4 (a3 y3 bY x2) ?_;refine ZA x2 AC (sC (n:=n) (cv:=cv) (qn2 _) m3.st m3.en) ?_;rintro _ _ ⟨rfl,rfl⟩;refine oN ?_;refine ZL [0,4,6,9,19,20,21] x2 ?_;refine bG (λH3=>iH src off3 QP ib cid2 H3/\(∃cv kid,H3[H0.length+2]? =some (zE (iY n m3.st m3.en) cv)/\kJ Nd.enc 7 H3 cv n.kids kid/\∀x∈kid,H0.length+3<=x/\x∉cid2)/\H3[H0.length+1]? =some (BL)/\(∃mid,mid=H2.length/\mid<H3.length/\H0.length+3<=mid/\H3[mid]? =some (CE m3))/\Fr (ib::cid) (ib::cid2) H0 H3) ?_ ?_
   ·have hl2:=lG hn2;have hg2:=f2.len;refine⟨(hB2.app _).set z8 hnc2 _,⟨cv,kid,by rw[aSz (by simp;omega)],(hc2.fr λx hx=>by have:=hd1 x hx;have:=hc2.lt x hx;rw[aS0 z8,aSv z8]),hd2⟩,by rw[aS0 z8];exact aA hz2 _,⟨H2.length,rfl,z6,z8,by rw[aS0 z8];simp⟩,⟨by simp;omega,λid h1 h2=>by rw[aS0 z8,aSv z8];exact f2.same id h1 h2,λid h1 h2=>f2.ids id h1 h2⟩⟩
   rintro H3 ⟨hB3,⟨cv3,kid3,hn3,hc3,hd3⟩,hz3,⟨mid,hmid,hml,hmg,hM3⟩,f3⟩;rw[<-hmid];have hil3:=lG hn3;have hzl3:=lG hz3;have qn3:=aA hn3;have qM3:=aA hM3;rcases hc3.cases2 with⟨hke,rfl,hkd⟩| ⟨ic,c1,rest1,rfl,hkd,hic,hicc,hicm⟩
   ·
    have hkl:n.kids.length=0:=by rw[hke];rfl
    refine wQ ?_;refine eK 0 (by kernel_rfl) ?_;refine gM 5 (bm:= [0,1,0,3,0,31,63,127,63,319]) (by kernel_rfl) z7 (by kernel_rfl) (by kernel_rfl) ?_;refine FM (a5 zY bY hn3 hM3 (a5 qn3 qM3 BU BV iT)) ?_;refine kK (k:=5) (bm:= [0,1,0,3,0,31,63,127,63,319]) (by kernel_rfl) rfl (by kernel_rfl) (by kernel_rfl) ?_;refine sR (enc:=Nd.enc) (sz:=7) Nd.enc_len QA z7 (xs:=n.kids) (a:=⟨0,0,[],0,0,0,[]⟩) (mL (a5 hn3 hM3 qn3 qM3 (a3 BU BV iT))) rfl z7 z7 (fV (a5 hn3 hM3 qn3 qM3 (a3 BU BV iT))) (fV (a5 hn3 hM3 qn3 qM3 (a3 BU BV iT))) hc3 DZ rfl (by show(_+1)*80<=_;simp only[iB]at hlk;omega) (by simp only[iB]at hlk;omega) (by rw[DZ];rfl) SI rfl ?_;intro cvA kidA HA hkA hcA hlA hsA;refine oN ?_;show kB _ _ _ _ _ _ _ _;rcases hkA.cases2 with⟨e,_⟩| ⟨ic3,c3,pI,rfl,rfl,hic3,hcl3,hmx3⟩
    ·simp at e
    obtain⟨RR,hRR⟩:∃RR,RR=aH ((n.kids++ [(⟨0,0,[],0,0,0,[]⟩:Nd)]).map Nd.enc)++pI:=⟨_,rfl⟩;rw[<-hRR]at hic3;simp only[aTi,aS2,aT5,aTh]at hcl3⊢;have lRR:RR.length=c3*7:=by rw[hRR,aTi,mQ];simp;omega
    have hb7:(n.kids.length*7+7<=c3*7)=True:=by simp;omega
    have gk:=bS (n:=n.kids.length+1) (i:=n.kids.length) z8;have gp:(0<((n.kids.length+1:Nat):Int))=True:=eq_true z8;have hb8:(7<=c3*7)=True:=by simp;omega
    have hicA:=lG hic3;have hicn:ic3≠H0.length+2/\H0.length+3<=ic3/\ic3∉cid2/\ic3≠ib:=by
     rcases hcA ic3 z6 with h|h
     ·have:=hd3 ic3 h;exact⟨z8,this.1,this.2,z8⟩
     ·exact⟨z8,z8,λe=>by have:=hB3.lt ic3 (.inr e);omega,z8⟩
    have knil:∀x,x<H3.length->x∉kid3->HA[x]? =H3[x]? :=hsA;have hnA:=(hsA _ (show H0.length+2<H3.length by omega) (λe=>by have:=hd3 _ e;omega)).trans hn3;have hlA2:=lG hnA;have q5:∀o,(HA.set ic3 o)[ic3]? =some o:=λo=>aSz hicA;have q6:=λo=>(aS0 (a:=o) hicn.1).trans hnA;have q7:∀o o2,(HA.set ic3 o).set ic3 o2=HA.set ic3 o2:=λo o2=>aUe ..;have q8:∀o,(HA.set (H0.length+2) o)[ic3]? =some (.row RR):=λo=>by rw[aS0 (Ne.symm hicn.1)];exact hic3
    have n1:(ic3==H0.length+2)=false:=by simpa using hicn.1
    have n2:(H0.length+2==ic3)=false:=by simpa using Ne.symm hicn.1
    have n3:∀k,(ic3=HA.length+k)=False:=λk=>by simp;omega
    have n4:∀k,(H0.length+2=HA.length+k)=False:=λk=>by simp;omega
    have n5:(ic3=HA.length)=False:=by simp;omega
    have n6:(H0.length+2=HA.length)=False:=by simp;omega
    refine gJ 4 (bm:= [0,1,0,3,0,31,63,127,63,319]) (by kernel_rfl) z7 (by kernel_rfl) (by kernel_rfl) ?_;refine kU (bm:= [0,1,0,3,0,31,63,127,63,319]) (fresh:=HA.length+7) (by kernel_rfl) (by simp only[jD,jO,jN,seval,zY,bY,aB,qC,eX,eY,hn3,hM3,qn3,qM3,BU,BV,if_true,lS,tN,hb7,hb8,lRR,gk,gp,Nat.zero_mul,aTh,hic3,hnA,q5,q6,q7,q8,n1,n2,n3,n4,n5,n6]<;>with_reducible rfl) z7 ?_;refine fF ?_;refine bG (λH4=>iH src off3 QP ib cid2 H4/\(∃cv kid,H4[H0.length+2]? =some (zE (mW (iY n m3.st m3.en) m3) cv)/\kJ Nd.enc 7 H4 cv (mW (iY n m3.st m3.en) m3).kids kid/\∀x∈kid,H0.length+3<=x/\x∉cid2)/\H4[H0.length+1]? =some (BL)/\Fr (ib::cid) (ib::cid2) H0 H4) ?_ ?_
    ·have hg:∀x,x<H3.length->x∉kid3->x≠H0.length+2->∀o1 o2,((HA.set ic3 o1).set (H0.length+2) o2)[x]? =H3[x]? :=λx h1 h2 h3 o1 o2=>by
      rw[aS0 (Ne.symm h3),aS0 (λe=>by subst e;rcases hcA ic3 z6 with h|h;exact h2 h;omega)];exact hsA x h1 h2
     have hl3:=hB3.lt;refine⟨hB3.fr λx hx=>hg x (hl3 x hx) (λe=>by have:=hd3 x e;rcases hx with rfl|hx;omega;exact this.2 hx) (by rintro rfl;rcases hx with h|hx;omega;exact hnc2 hx) _ _,⟨.msl ic3 0 (n.kids.length+1) c3,[ic3],by rw[aSz (by simpa using hlA2)];rfl, .of (rest:=pI) (by simp[mW,iY,Nd.kids]) ?_ z8 hmx3,λx hx=>by rw[aT2]at hx;subst hx;exact⟨hicn.2.1,hicn.2.2.1⟩⟩,by rw[hg _ z8 (λe=>by have:=hd3 _ e;omega) z8];exact hz3,by simp only[lS];have:=f3.len;omega,λid h1 h2=>by have:=f3.len;rw[hg id z8 (λe=>by have:=hd3 id e;omega) z8];exact f3.same id h1 h2,λid h1 h2=>f3.ids id h1 h2⟩;rw[aS0 (Ne.symm hicn.1),aSz hicA,hRR];show _=some (AObj.row (aH ((n.kids++ [m3]).map Nd.enc)++pI));rw[lJ,lJ];refine congrArg (λz=>some (AObj.row z)) ?_;rw[aUa]
     first|exact XH (mQ n.kids)|exact XH (m:=0) (by rw[hke];rfl)
    rintro H4 ⟨hB4,⟨cv4,kid4,hn4,hc4,hd4⟩,hz4,f4⟩;refine ZE (a3 y3 hkl x2) ?_
    try simp only[aW,aO]
    exact⟨(j+1,off3,mW (iY n m3.st m3.en) m3,QP),by show t.ch.length- (j+1)<t.ch.length-j;omega,ZV,hi,hk1,cid2,hB4,⟨cv4,kid4,hn4,hc4,hd4⟩,hz4,hzc2,hnc2,f4⟩
   ·
    refine wQ ?_;refine eK 0 (by kernel_rfl) ?_;refine gM 5 (bm:= [0,1,0,3,0,31,63,127,63,319]) (by kernel_rfl) z7 (by kernel_rfl) (by kernel_rfl) ?_;refine FM (a5 zY bY hn3 hM3 (a5 qn3 qM3 BU BV iT)) ?_;refine kK (k:=5) (bm:= [0,1,0,3,0,31,63,127,63,319]) (by kernel_rfl) rfl (by kernel_rfl) (by kernel_rfl) ?_;refine sR (enc:=Nd.enc) (sz:=7) Nd.enc_len QA z7 (xs:=n.kids) (a:=⟨0,0,[],0,0,0,[]⟩) (mL (a5 hn3 hM3 qn3 qM3 (a3 BU BV iT))) rfl z7 z7 (fV (a5 hn3 hM3 qn3 qM3 (a3 BU BV iT))) (fV (a5 hn3 hM3 qn3 qM3 (a3 BU BV iT))) hc3 DZ rfl (by show(_+1)*80<=_;simp only[iB]at hlk;omega) (by simp only[iB]at hlk;omega) (by rw[DZ];rfl) SI rfl ?_;intro cvA kidA HA hkA hcA hlA hsA;refine oN ?_;show kB _ _ _ _ _ _ _ _;rcases hkA.cases2 with⟨e,_⟩| ⟨ic3,c3,pI,rfl,rfl,hic3,hcl3,hmx3⟩
    ·simp at e
    obtain⟨RR,hRR⟩:∃RR,RR=aH ((n.kids++ [(⟨0,0,[],0,0,0,[]⟩:Nd)]).map Nd.enc)++pI:=⟨_,rfl⟩;rw[<-hRR]at hic3;simp only[aTi,aS2,aT5,aTh]at hcl3⊢;have lRR:RR.length=c3*7:=by rw[hRR,aTi,mQ];simp;omega
    have hb7:(n.kids.length*7+7<=c3*7)=True:=by simp;omega
    have gk:=bS (n:=n.kids.length+1) (i:=n.kids.length) z8;have gp:(0<((n.kids.length+1:Nat):Int))=True:=eq_true z8;have hb8:(7<=c3*7)=True:=by simp;omega
    have hicA:=lG hic3;have hicn:ic3≠H0.length+2/\H0.length+3<=ic3/\ic3∉cid2/\ic3≠ib:=by
     rcases hcA ic3 z6 with h|h
     ·have:=hd3 ic3 h;exact⟨z8,this.1,this.2,z8⟩
     ·exact⟨z8,z8,λe=>by have:=hB3.lt ic3 (.inr e);omega,z8⟩
    have knil:∀x,x<H3.length->x∉kid3->HA[x]? =H3[x]? :=hsA;have hnA:=(hsA _ (show H0.length+2<H3.length by omega) (λe=>by have:=hd3 _ e;omega)).trans hn3;have hlA2:=lG hnA;have q5:∀o,(HA.set ic3 o)[ic3]? =some o:=λo=>aSz hicA;have q6:=λo=>(aS0 (a:=o) hicn.1).trans hnA;have q7:∀o o2,(HA.set ic3 o).set ic3 o2=HA.set ic3 o2:=λo o2=>aUe ..;have q8:∀o,(HA.set (H0.length+2) o)[ic3]? =some (.row RR):=λo=>by rw[aS0 (Ne.symm hicn.1)];exact hic3
    have n1:(ic3==H0.length+2)=false:=by simpa using hicn.1
    have n2:(H0.length+2==ic3)=false:=by simpa using Ne.symm hicn.1
    have n3:∀k,(ic3=HA.length+k)=False:=λk=>by simp;omega
    have n4:∀k,(H0.length+2=HA.length+k)=False:=λk=>by simp;omega
    have n5:(ic3=HA.length)=False:=by simp;omega
    have n6:(H0.length+2=HA.length)=False:=by simp;omega
    refine gJ 4 (bm:= [0,1,0,3,0,31,63,127,63,319]) (by kernel_rfl) z7 (by kernel_rfl) (by kernel_rfl) ?_;refine kU (bm:= [0,1,0,3,0,31,63,127,63,319]) (fresh:=HA.length+7) (by kernel_rfl) (by simp only[jD,jO,jN,seval,zY,bY,aB,qC,eX,eY,hn3,hM3,qn3,qM3,BU,BV,if_true,lS,tN,hb7,hb8,lRR,gk,gp,Nat.zero_mul,aTh,hic3,hnA,q5,q6,q7,q8,n1,n2,n3,n4,n5,n6]<;>with_reducible rfl) z7 ?_;refine fF ?_;refine bG (λH4=>iH src off3 QP ib cid2 H4/\(∃cv kid,H4[H0.length+2]? =some (zE (mW (iY n m3.st m3.en) m3) cv)/\kJ Nd.enc 7 H4 cv (mW (iY n m3.st m3.en) m3).kids kid/\∀x∈kid,H0.length+3<=x/\x∉cid2)/\H4[H0.length+1]? =some (BL)/\Fr (ib::cid) (ib::cid2) H0 H4) ?_ ?_
    ·have hg:∀x,x<H3.length->x∉kid3->x≠H0.length+2->∀o1 o2,((HA.set ic3 o1).set (H0.length+2) o2)[x]? =H3[x]? :=λx h1 h2 h3 o1 o2=>by
      rw[aS0 (Ne.symm h3),aS0 (λe=>by subst e;rcases hcA ic3 z6 with h|h;exact h2 h;omega)];exact hsA x h1 h2
     have hl3:=hB3.lt;refine⟨hB3.fr λx hx=>hg x (hl3 x hx) (λe=>by have:=hd3 x e;rcases hx with rfl|hx;omega;exact this.2 hx) (by rintro rfl;rcases hx with h|hx;omega;exact hnc2 hx) _ _,⟨.msl ic3 0 (n.kids.length+1) c3,[ic3],by rw[aSz (by simpa using hlA2)];rfl, .of (rest:=pI) (by simp[mW,iY,Nd.kids]) ?_ z8 hmx3,λx hx=>by rw[aT2]at hx;subst hx;exact⟨hicn.2.1,hicn.2.2.1⟩⟩,by rw[hg _ z8 (λe=>by have:=hd3 _ e;omega) z8];exact hz3,by simp only[lS];have:=f3.len;omega,λid h1 h2=>by have:=f3.len;rw[hg id z8 (λe=>by have:=hd3 id e;omega) z8];exact f3.same id h1 h2,λid h1 h2=>f3.ids id h1 h2⟩;rw[aS0 (Ne.symm hicn.1),aSz hicA,hRR];show _=some (AObj.row (aH ((n.kids++ [m3]).map Nd.enc)++pI));rw[lJ,lJ];refine congrArg (λz=>some (AObj.row z)) ?_;rw[aUa]
     first|exact XH (mQ n.kids)|exact XH (m:=0) (by rw[hke];rfl)
    rintro H4 ⟨hB4,⟨cv4,kid4,hn4,hc4,hd4⟩,hz4,f4⟩;refine ZE (a2 y3 x2) ?_
    try simp only[aW,aO]
    exact⟨(j+1,off3,mW (iY n m3.st m3.en) m3,QP),by show t.ch.length- (j+1)<t.ch.length-j;omega,ZV,hi,hk1,cid2,hB4,⟨cv4,kid4,hn4,hc4,hd4⟩,hz4,hzc2,hnc2,f4⟩
 ·
  have gl:decide ((j:Int)<(t.ch.length:Int))=false:=decide_eq_false z8;rw[List.drop_eq_nil_of_le hi,oK]at hk1;injection hk1 with hk1;injection hk1 with hk1 hk2;injection hk2 with hk2 hk3;subst hk1 hk2 hk3;have x3:=a5 hb qb hn1 hz1 (a3 qn1 qz1 gl);refine ZE (a2 y3 x3) ?_;refine ZF x3 ?_;refine wQ ?_;refine bD ?_;simp only[aW,aO,reduceIte,Nat.reduceEqDiff,aUb,if_true,if_false];refine wQ ?_;have hs12:∀o,(H1.set (H0.length+2) o)[H0.length+2]? =some o:=λo=>aSz hil1;have nI1:(H0.length+2=H1.length)=False:=by simp;omega
  refine eE (Za (a5 y3 bY hs12 nI1 x3)) z7 ?_;obtain⟨hkn,rfl,rfl⟩| ⟨ic,c',rest',rfl,rfl,hH,hcl',hmx'⟩:=hc1.cases2
  ·
   refine bG (λH5=>iH src off1 DE ib cid1 H5/\H5[H0.length+1]? =some (BL)/\(∃cs,H5[H0.length+2]? =some (.row cs)/\7<=cs.length/\(cs.take 7).map PV.drop1=(fC n n.st (max n.en n.st)).enc.cells)/\Fr (ib::cid) (ib::cid1) H0 H5) ?_ ?_
   ·exact⟨hB1.set z8 hnc1 _,by rw[aS0 z8];exact hz1,⟨_,aSz hil1,z6,by rw[Nd.enc_cells];show _= [_,_,_,_,_,_,PV.slice (n.kids.map Nd.enc) .none];rw[hkn];rfl⟩,⟨by simp only[lS];exact f1.len,λid h1 h2=>by rw[aS0 z8];exact f1.same id h1 h2,f1.ids⟩⟩
   rintro H5 ⟨hB5,hz5,⟨cs5,hcs5,hl5,hd5⟩,f5⟩;have hl5:(7<=cs5.length)=True:=by simp;omega
   have hz5l:=lG hz5;have hL5:(cs5.take 7).length=7:=by simp;omega
   refine wQ ?_;refine wR ?_;refine eT 2 (by simp only[kA,seval,bY,aB,qC,eX,eY,hb,qb,hn1,hz1,qn1,qz1,gl,hz5,hcs5,hl5,hL5,hd5,Nd.enc_cells,Nd.enc_agg]<;>with_reducible rfl) z7 ?_;refine oC (by simp only[kC,seval,aB,qC,eX,eY,hb,qb,hn1,hz1,qn1,qz1,gl,hz5,hcs5,hl5,hL5,hd5,Nd.enc_cells,Nd.enc_agg]<;>with_reducible rfl) (by simp only[kC,seval,aB,qC,eX,eY,hb,qb,hn1,hz1,qn1,qz1,gl,hz5,hcs5,hl5,hL5,hd5,Nd.enc_cells,Nd.enc_agg]) z7 XK (aBq hfin hB5) ?_;rintro _ H6 ⟨rfl,cid6,hB6,g6⟩;have hzx6:H0.length+1∉ib::cid1:=by simp only[aTv,not_or];exact⟨z8,hzc1⟩
   have hz6:H6[H0.length+1]? =some (BL):=by rw[g6.same _ hz5l hzx6];exact hz5
   have hz6l:=lG hz6;have hzc6:H0.length+1∉cid6:=λe=>g6.out hz5l hzx6 (by simp[e]);have hs6:∀o,(H6.set (H0.length+1) o)[H0.length+1]? =some o:=λo=>aSz hz6l;have nZ6:(H0.length+1=H6.length)=False:=by simp;omega
   have f6:=f5.trans g6;refine nO (by simp only[kA,seval,bY,aB,qC,eX,eY,hb,qb,hn1,hz1,qn1,qz1,gl,hz6,hs6,nZ6,hz5,hcs5,hl5,hL5,hd5,Nd.enc_cells,Nd.enc_agg]<;>with_reducible rfl) z7 ?_;refine wQ ?_;refine wT ⟨.inr rfl,_,(cD 4 31 rfl nQ z7 (by simp only[jL,jN,seval,aB,qC,eX,eY,hb,qb,hn1,hz1,qn1,qz1,gl,hz6,hs6,nZ6,hs6]<;>with_reducible rfl)), ?_⟩;exact⟨rfl,cid6,hB6.set z8 hzc6 _,by rw[lS];exact f6.len,λid h1 h2=>by rw[aS0 z8];exact f6.same id h1 h2,f6.ids⟩
  ·
   obtain⟨es,he1,he2,he3⟩:=JQ 7 (c'-n.kids.length) rest' z8;have hicd:=hd1 ic z6;have hrow:((H1.set (H0.length+2) (.row [.int .i64 n.kind, .int .i64 n.value, .str n.text, .int .i64 n.st, .int .i64 (max n.en n.st), .int .i64 n.ns, .msl ic 0 n.kids.length c'])))[ic]? =some (.row (aH (n.kids.map Nd.enc++es))):=by rw[aS0 z8,hH,cN,he2]
   refine zO ic n.kids.length 7 (H0.length+2) (n.kids.map Nd.enc++es) hrow z6 (λe he=> ?_) (aSz hil1) z8 (cs':= [.int .i64 n.kind, .int .i64 n.value, .str n.text, .int .i64 n.st, .int .i64 (max n.en n.st), .int .i64 n.ns, .slice (n.kids.map Nd.enc) .none]) rfl (λi h1 h2=> ?_) ?_
   ·rcases aTs.1 he with he|he
    ·obtain⟨v,_,rfl⟩:=aTq.1 he;exact v.enc_len
    ·exact he3 e he
   ·match i,h1,h2 with
    |0,_,_=>exact .same _
    |1,_,_=>exact .same _
    |2,_,_=>exact .same _
    |3,_,_=>exact .same _
    |4,_,_=>exact .same _
    |5,_,_=>exact .same _
    |6,_,_=>
     have:(n.kids.map Nd.enc++es).take n.kids.length=n.kids.map Nd.enc:=by rw[List.take_append_of_le_length z6,aUf z6]
     have h:=Fz.msl (id:=ic) (k:=n.kids.length) (es:=n.kids.map Nd.enc++es) c' z8;rw[this]at h;exact h
   refine bG (λH5=>iH src off1 DE ib cid1 H5/\H5[H0.length+1]? =some (BL)/\(∃cs,H5[H0.length+2]? =some (.row cs)/\7<=cs.length/\(cs.take 7).map PV.drop1=(fC n n.st (max n.en n.st)).enc.cells)/\Fr (ib::cid) (ib::cid1) H0 H5) ?_ ?_
   ·exact⟨((hB1.set z8 hnc1 _).set z8 hicd.2 _).set z8 hnc1 _,by rw[aS0 z8,aS0 z8,aS0 z8];exact hz1,⟨_,aSz (by simpa using hil1),z6,by rw[Nd.enc_cells];rfl⟩,⟨by simp only[lS];exact f1.len,λid h1 h2=>by rw[aS0 z8,aS0 z8,aS0 z8];exact f1.same id h1 h2,f1.ids⟩⟩
   rintro H5 ⟨hB5,hz5,⟨cs5,hcs5,hl5,hd5⟩,f5⟩;have hl5:(7<=cs5.length)=True:=by simp;omega
   have hz5l:=lG hz5;have hL5:(cs5.take 7).length=7:=by simp;omega
   refine wQ ?_;refine wR ?_;refine eT 2 (by simp only[kA,seval,bY,aB,qC,eX,eY,hb,qb,hn1,hz1,qn1,qz1,gl,hz5,hcs5,hl5,hL5,hd5,Nd.enc_cells,Nd.enc_agg]<;>with_reducible rfl) z7 ?_;refine oC (by simp only[kC,seval,aB,qC,eX,eY,hb,qb,hn1,hz1,qn1,qz1,gl,hz5,hcs5,hl5,hL5,hd5,Nd.enc_cells,Nd.enc_agg]<;>with_reducible rfl) (by simp only[kC,seval,aB,qC,eX,eY,hb,qb,hn1,hz1,qn1,qz1,gl,hz5,hcs5,hl5,hL5,hd5,Nd.enc_cells,Nd.enc_agg]) z7 XK (aBq hfin hB5) ?_;rintro _ H6 ⟨rfl,cid6,hB6,g6⟩;have hzx6:H0.length+1∉ib::cid1:=by simp only[aTv,not_or];exact⟨z8,hzc1⟩
   have hz6:H6[H0.length+1]? =some (BL):=by rw[g6.same _ hz5l hzx6];exact hz5
   have hz6l:=lG hz6;have hzc6:H0.length+1∉cid6:=λe=>g6.out hz5l hzx6 (by simp[e]);have hs6:∀o,(H6.set (H0.length+1) o)[H0.length+1]? =some o:=λo=>aSz hz6l;have nZ6:(H0.length+1=H6.length)=False:=by simp;omega
   have f6:=f5.trans g6;refine nO (by simp only[kA,seval,bY,aB,qC,eX,eY,hb,qb,hn1,hz1,qn1,qz1,gl,hz6,hs6,nZ6,hz5,hcs5,hl5,hL5,hd5,Nd.enc_cells,Nd.enc_agg]<;>with_reducible rfl) z7 ?_;refine wQ ?_;refine wT ⟨.inr rfl,_,(cD 4 31 rfl nQ z7 (by simp only[jL,jN,seval,aB,qC,eX,eY,hb,qb,hn1,hz1,qn1,qz1,gl,hz6,hs6,nZ6,hs6]<;>with_reducible rfl)), ?_⟩;exact⟨rfl,cid6,hB6.set z8 hzc6 _,by rw[lS];exact f6.len,λid h1 h2=>by rw[aS0 z8];exact f6.same id h1 h2,f6.ids⟩
theorem LP(src:List UInt8)(e3 e4:Value)(ib:Nat):∀(k:Nat) (t:St),SizeOf.sizeOf t<k->NC src e3 e4 ib t
 |0,t,h=>z8
 |k+1,t,h=>aK0 λc hc=>LP src e3 e4 ib k c (by
  cases t with
  |mk kk tx ch=>
   have:=List.sizeOf_lt_of_mem (show c∈ch from hc);simp at h;omega)
theorem aE3(src:List UInt8)(e3 e4:Value)(ib:Nat)(t:St):NC src e3 e4 ib t:=LP src e3 e4 ib _ t (aT9 _)
section
variable{P:Program}{N nb:Nat}{ops:Array Oper}{Q:dG}
theorem KZ{o:Oper}{l:List Oper}{T:aD}{H:aC}{x:Operand}{t:TypeId}{ei:TypeId×TI}{id off n c:Nat}{cs:List PV}{z:PV}(hid:H[id]? =some (.row cs))(hw:aU ops.toList T N o=some true)
  (hop:o.op= .call ⟨.builtin .clear, #[x], #[t]⟩) (okx:aQ N x=true) (hx:bT T x= .msl id off n c) (hte:dH P t=some ei) (hz:dC P ei.1=some z) (hzf:z.fits ei.2=true) (hzc:z.cells.all PV.isCell=true) (hfit:off+n*ei.2.sz<=cs.length)
  (h:bH P N nb ops Q l (bU T o.dst .junk) (H.set id (.row (cY cs off (aS6 n z.cells).flatten)))):bH P N nb ops Q (o::l) T H:=by
 obtain⟨e,i⟩:=ei;obtain⟨h1,h2⟩:=dE hte;obtain⟨dd,f,h3,h4,rfl⟩:=cA h2;obtain⟨f',zv,h5,h6,rfl⟩:=eQ hz;simp only at h5 hzf hfit;rw[h4]at h5;cases h5;obtain⟨hzs,hzj⟩:=PV.fits_spec hzf;simp only at hzs;have hsrc:((aS6 n (aT zv).cells).flatten).length=n*f.size:=by simp[hzs]
 refine fW hw (λE a ho hH ht=> ?_) h;subst hH;have hvx:=aM ht x okx;rw[hx]at hvx;have vx:a.eval x= .slice (some ⟨E.ρ id,off,none⟩) n c:=by
  generalize a.eval x=w at hvx;cases hvx with
  |msl _ _ _ _ hbn hm=>rfl
 have hzl:RL E.view (Builtin.zeroCells zv.cells n) ((aS6 n (aT zv).cells).flatten):=by
  have:=qV (V:=E.view) zv hzj n;rw[lB]at this;exact this
 have hall:((aS6 n (aT zv).cells).flatten).all PV.isCell=true:=by
  rw[aTr]at hzc⊢;intro v hv;obtain⟨l,hl,hv⟩:=List.mem_flatten.1 hv;rw[List.mem_replicate]at hl;rw[hl.2]at hv;exact hzc v hv
 obtain⟨E',e1',e2,e3,e4⟩:=vC (P:=P) (id:=id) (off:=off) (Builtin.zeroCells zv.cells n).toList ((aS6 n (aT zv).cells).flatten) 0 E cs ho hid (by rw[aSs];exact hzl.1) (λj hj=>by
  have:=hzl.2 j hj;rw[aSo]at this;rw[aTe,aTf];exact this) hall (by rw[aSs,hzl.1,hsrc];omega)
 refine⟨E', .tuple #[], .inl ?_,e2,e3,by rw[e4,Nat.add_zero], .junk _⟩;unfold execOp;rw[hop];simp only;refine(fL (c:=⟨.builtin .clear, #[x], #[t]⟩) (a:=a) (E:=E) (P:=P) (xs:= [x]) (ts:= [t]) (ty:=o.type) rfl rfl rfl (s:=Builtin.clear_ #[t] o.type #[a.eval x]) rfl).trans ?_
 by_cases hn:n=0
 ·subst hn;have hE:E'.w=E.w:=by
   have:(Builtin.zeroCells zv.cells 0).toList= []:=by simp[Builtin.zeroCells]
   rw[this]at e1';injection e1' with _ e1';exact e1'.symm
  simp only[Builtin.clear_,aTa,aTo,aS4,aS h1,aS5,aS7,vx,hE]
 ·obtain⟨n',rfl⟩:∃n',n=n'+1:=⟨n-1,z8⟩;simp only[Builtin.clear_,aTa,aTo,aS4,aS h1,jH h4 h6,aS5,aS7,vx,e1']
theorem AY{o:Oper}{T:aD}{t y':TypeId}{x y:Operand}{ks:List FT}{ps qs:List PV}(ng:Bool)(F:zJ P t ks)(hop:o.op= .binOp (if ng then .neq else .eql) t x y y')(hx:bT T x= .agg ps)(hy:bT T y= .agg qs)(fx:uB ks ps=true)(fy:uB ks qs=true)(okx:aQ N x=true)(oky:aQ N y=true):
  ∀(E:aE) (a:Act),E.Ok->(∀x∈o.op.operands.toList,aQ N x=true->aL E.view (a.eval x) (bT T x))->∃val,(execOp a.eval o).run P E.w= .ok (.value val) E.w/\aL E.view val (.bool (xor ng (gN ps qs))):=by
 intro E A ho he;have rx:=he x (by rw[hop];simp[Op.operands]) okx;have ry:=he y (by rw[hop];simp[Op.operands]) oky;rw[hx]at rx;rw[hy]at ry;generalize hvx:A.eval x=vx at rx;generalize hvy:A.eval y=vy at ry;cases rx with
 |agg xs _ a1 a2=>
  cases ry with
  |agg ys _ b1 b2=>
   have g:∀op w,(eqGuard op t x y (.agg xs) (.agg ys)).run P w= .ok () w:=λop w=>by
    unfold eqGuard;simp only[aS4,run_program,aS5,F.gu,aTp,if_true,Sem.run_ite,aS7]
    split<;>rfl
   refine⟨.bool (xor ng (gN ps qs)), ?_, .bool _⟩;unfold execOp;rw[hop];cases ng<;>simp only[aTc,if_true,if_false,aS4,hvx,hvy,g,aS5,binOp,EB F (.agg xs _ a1 a2) (.agg ys _ b1 b2) (mZ fx) (mZ fy) (λi h h1 h2=>⟨pJ fx i h h1,pJ fy i h h2⟩),aS7,Bool.false_xor,Bool.true_xor]
end
set_option maxRecDepth 4000
def xA(a b:Dg):Bool:=gN a.enc.cells b.enc.cells
theorem yY{a b:Dg}:xA a b=true↔a=b:=by
 unfold xA;rw[Dg.enc_cells,Dg.enc_cells];obtain⟨a1,a2,a3,a4,a5⟩:=a;obtain⟨b1,b2,b3,b4,b5⟩:=b;simp[gN,AQ]
def gd(ds:List Dg)(m:Nat):Dg:=ds.getD m ⟨0,0,0,0,[]⟩
def cU(ds:List Dg):Nat->List Dg
 |0=> []
 |m+1=>if m=0\/xA (gd ds m) (gd ds (m-1))=false then cU ds m++ [gd ds m]else cU ds m
theorem KM(ds:List Dg):∀m,(cU ds m).length<=m
 |0=>aSl _
 |m+1=>by
  have:=KM ds m;unfold cU
  split
  ·rw[aTi];simp;omega
  ·omega
def rD(ds:List Dg):List Dg:=cU ds ds.length
theorem vJ{ds:List Dg}{m:Nat}(h:m<ds.length):gd ds m=ds[m]:=by unfold gd;rw[aTe,aTd h];rfl
theorem SQ(L:List Dg)(rest:List PV)(pos:Nat)(h:pos<L.length):(((aH (L.map Dg.enc)++rest).drop (pos*5)).take 5).map PV.drop1=(L[pos]).enc.cells:=by
 have e:L=L.take pos++L[pos]::L.drop (pos+1):=by rw[<-aUc h,aT3]
 have hl:(aH ((L.take pos).map Dg.enc)).length=pos*5:=by rw[kG Dg.enc_len,aS9,Nat.min_eq_left z8]
 conv=>lhs;rw[e]
 rw[List.map_append,cN,aUa,<-hl,List.drop_left];rw[aTg,show aH (L[pos].enc::(L.drop (pos+1)).map Dg.enc)=L[pos].enc.cells++aH ((L.drop (pos+1)).map Dg.enc)from rfl,aUa];rw[List.take_append_of_le_length (by rw[Dg.enc_len];omega),aUf (by rw[Dg.enc_len];omega),Dg.enc_cells];rfl
theorem aOz(A B:List Dg)(x y:Dg)(rest:List PV):cY (aH ((A++y::B).map Dg.enc)++rest) (A.length*5) x.enc.cells=aH ((A++x::B).map Dg.enc)++rest:=by
 have hl:(aH (A.map Dg.enc)).length=A.length*5:=kG Dg.enc_len A;have e:∀z:Dg,aH ((A++z::B).map Dg.enc)++rest=aH (A.map Dg.enc)++(z.enc.cells++(aH (B.map Dg.enc)++rest)):=λz=>by
  rw[List.map_append,cN,aTg,show aH (z.enc::B.map Dg.enc)=z.enc.cells++aH (B.map Dg.enc)from rfl];simp
 rw[e,e,<-hl,jW _ _ _ (by rw[aTi,Dg.enc_len,Dg.enc_len];omega),aUa];congr 2
theorem RZ:zJ Tryz.prog 84 [.int, .int, .int, .int, .str]:=⟨⟨_,Tryz.underlying84,rfl,λi h h2=>by
 match i,h2 with
 |0,_=>exact⟨z6,rfl,Tryz.underlying3⟩
 |1,_=>exact⟨z6,rfl,Tryz.underlying3⟩
 |2,_=>exact⟨z6,rfl,Tryz.underlying3⟩
 |3,_=>exact⟨z6,rfl,Tryz.underlying3⟩
 |4,_=>exact⟨z6,rfl,Tryz.underlying9⟩⟩,by kernel_rfl,by kernel_rfl⟩
def zD:List PV:= [.int .i64 0, .int .i64 0, .int .i64 0, .int .i64 0, .str []]
def rA(ds:List Dg)(rest:List PV):List PV:=(aS6 (ds.length- (rD ds).length) zD).flatten++rest
theorem YP(ds:List Dg):(rD ds).length<=ds.length:=KM ds _
theorem VI(ds:List Dg)(rest:List PV){c:Nat}(hc:ds.length*5+rest.length=c*5):(rD ds).length*5+(rA ds rest).length=c*5:=by
 have:=YP ds;unfold rA;rw[aTi];simp[zD];omega
theorem IW(t:Dg):uB [.int, .int, .int, .int, .str] t.enc.cells=true:=by rw[Dg.enc_cells];rfl
theorem UN{H:aC}{id c:Nat}{ds:List Dg}{rest:List PV}(hH:H[id]? =some (.row (aH (ds.map Dg.enc)++rest)))(hc:ds.length*5+rest.length=c*5)(hm:c<=maxLen)(hl:ds.length<iB):aN Tryz.prog 59 [.msl id 0 ds.length c] H λr H'=>r= .msl id 0 (rD ds).length c/\H'=H.set id (.row (aH ((rD ds).map Dg.enc)++rA ds rest)):=by
 have hil:=lG hH;simp only[iB]at hl;have hmx:maxLen=9223372036854775807:=z7
 obtain⟨R,hR⟩:∃R,R=aH (ds.map Dg.enc)++rest:=⟨_,rfl⟩;rw[<-hR]at hH;have dY:∀l:List Dg,(aH (l.map Dg.enc)).length=l.length*5:=λl=>kG Dg.enc_len l;have lR:R.length=c*5:=by rw[hR,aTi,dY];exact hc
 have hs1:∀o,(H.set id o)[id]? =some o:=λo=>aSz hil;have hs2:∀o o2,(H.set id o).set id o2=H.set id o2:=λo o2=>aUe ..;have hs3:H.set id (.row R)=H:=pO hH;refine aF (N:=61) Tryz.func59 rfl rfl z6 λhb'=> ?_;refine uA ?_;rcases aSk ds.length 2 with hn2|hn2
 ·
  have g2:decide (((ds.length:Nat):Int)<2)=true:=decide_eq_true z8;have hself:rD ds=ds:=by
   match ds,hn2 with
   | [],_=>rfl
   | [_],_=>rfl
  refine ZE (a4 y3 rS nT g2) ?_;refine ZG g2 ?_;refine ZE g2 ?_;refine wQ ?_;refine wT ⟨.inr rfl,_,rfl, ?_⟩;have hrs:rA ds rest=rest:=by unfold rA;rw[hself,Nat.sub_self];rfl
  exact⟨by rw[hself];rfl,by rw[hself,hrs,<-hR];exact hs3.symm⟩
 ·
  have g2:decide (((ds.length:Nat):Int)<2)=false:=decide_eq_false z8;have c1take:cU ds 1=ds.take 1:=by
   match ds,hn2 with
   |d::r,_=>rfl
  refine ZE (a4 y3 rS nT g2) ?_;refine ZF g2 ?_;refine qK ?_;refine ZE g2 ?_;refine qB ?_;refine eC (σ:=Nat) (λ(k:Nat)=> [(0, .msl id 0 ds.length c),(3,aB (k:Int))]) (λ(k:Nat)=>λH1=>1<=k/\k<=ds.length/\cU ds k=ds.take k/\H1=H) (λ(k:Nat)=>ds.length-k) (1) (Zt g2) (⟨aSl _,z8,c1take,rfl⟩) ?_;intro k H1 hg;obtain⟨hk1,hk2,hcu,hHe⟩:=hg;subst hHe;rcases aSk k ds.length with hkl|hkl
  ·
   have gl0:decide (((k:Nat):Int)<((ds.length:Nat):Int))=true:=decide_eq_true z8;have gi1:=bS (n:=ds.length) (i:=k) z8;have gi2:=bS (n:=ds.length) (i:=k-1) z8;have gw1:IntKind.i64.wrap (((k:Nat):Int) -1)=((k-1:Nat):Int):=by rw[aY z8 z8];omega
   have gw2:IntKind.i64.wrap (((k:Nat):Int)+1)=((k+1:Nat):Int):=by rw[aY z8 z8];omega
   have gb1:(k*5+5<=R.length)=True:=eq_true (by rw[lR];omega);have gb2:((k-1)*5+5<=R.length)=True:=eq_true (by rw[lR];omega);have gl1:((R.drop (k*5)).take 5).map PV.drop1=(gd ds k).enc.cells:=by rw[hR,SQ _ _ _ z8,vJ z8]
   have gl2:((R.drop ((k-1)*5)).take 5).map PV.drop1=(gd ds (k-1)).enc.cells:=by rw[hR,SQ _ _ _ z8,vJ z8]
   refine ZE (a5 y3 rS nT g2 gl0) ?_;refine ZG g2 ?_;refine qK ?_;refine qB ?_;refine wQ ?_;refine dA (by kernel_rfl) ?_;refine AZ 9 (a5 y3 rS nT g2 (a5 vB gi1 gi2 gw1 (a5 gb1 gb2 gl1 gl2 hH))) ?_;have x1:=a5 vB gi1 gi2 gw1 (a5 gb1 gb2 gl1 gl2 hH);refine rP (Ze x1) (by rfl) (AY false RZ (ps:=(gd ds k).enc.cells) (qs:=(gd ds (k-1)).enc.cells) rfl (Zer x1) (Zer x1) (IW _) (IW _) z7 z7) ?_;refine xN (by simp only[jP,jO,jN,seval,aB,g2,Dg.enc_len,vB,tN,gi1,gi2,gw1,gb1,gb2,gl1,gl2,hH]<;>with_reducible rfl) z7 (by repeat (first|exact fK.base _|with_reducible apply fK.keep|apply fK.drop)) ?_;refine wQ ?_;refine wC rfl (by simp only[jN,seval,aB,g2]<;>with_reducible rfl) (λbt25=> ?_) (λbt25=> ?_)
   ·
    have hcu1:cU ds (k+1)=cU ds k:=by
     have he:xA (gd ds k) (gd ds (k-1))=true:=by simpa[xA]using bt25
     rw[cU,if_neg (by rintro(h|h);omega;rw[he]at h;cases h)]
    refine ZT 2 g2 ?_;refine iM (mL tN) (fJ (id:=id) (n:=ds.length) (c:=c) (k:=k) (kk:=.i64) rfl z7 z7 BF (fV tN) (fV tN) z8 z8) ?_;refine ZX g2 ?_;refine ZL [0,3,4] g2 ?_;refine ZE g2 ?_;refine qB ?_;refine eC (σ:=Nat×Nat) (λ(z:Nat×Nat)=> [(0, .msl id 0 ds.length c),(3,aB (z.1:Int)),(4, .msl id (k*5) (ds.length-k) (c-k)),(5,aB (z.2:Int))]) (λ(z:Nat×Nat)=>λH2=>1<=z.2/\k+z.2<=ds.length/\z.1=(cU ds (k+z.2)).length/\z.1+1<=k+z.2/\∃RI,RI=aH ((cU ds (k+z.2)++ds.drop z.1).map Dg.enc)++rest/\H2=H1.set id (.row RI)) (λ(z:Nat×Nat)=>ds.length-z.2) ((k,1)) (Zt g2) (⟨aSl _,z8,by rw[hcu1,hcu,aS9];show k=_;omega,aSl _,R,by rw[hcu1,hcu,hR];show _=aH ((ds.take k++ds.drop k).map Dg.enc)++rest;rw[aT3],hs3.symm⟩) ?_;intro z H2 hg;obtain⟨k1,k2⟩:=z;obtain⟨hz1,hz2,hz3,hz4,RI,hRI,hHI⟩:=hg;simp only at hz1 hz2 hz3 hz4 hRI;subst hHI;rcases aSk (k+k2) ds.length with hlt|hge
    ·
     have gl9:decide (((k2:Nat):Int)<((ds.length-k:Nat):Int))=true:=decide_eq_true z8;have nIs:(id=H1.length)=False:=by simp;omega
     have gi3:=bS (n:=ds.length-k) (i:=k2) z8;have gi4:=bS (n:=ds.length-k) (i:=k2-1) z8;have gi5:=bS (n:=ds.length) (i:=k1) z8;have gw3:IntKind.i64.wrap (((k2:Nat):Int) -1)=((k2-1:Nat):Int):=by rw[aY z8 z8];omega
     have gw5:IntKind.i64.wrap (((k1:Nat):Int)+1)=((k1+1:Nat):Int):=by rw[aY z8 z8];omega
     have gw6:IntKind.i64.wrap (((k2:Nat):Int)+1)=((k2+1:Nat):Int):=by rw[aY z8 z8];omega
     have hcl:=KM ds (k+k2);have lL:(cU ds (k+k2)++ds.drop k1).length=ds.length:=by rw[aTi,<-hz3,aS8];omega
     have lRI:RI.length=c*5:=by rw[hRI,aTi,dY,lL];exact hc
     have gb3:(k*5+k2*5+5<=c*5)=True:=eq_true z8;have gb4:(k*5+(k2-1)*5+5<=c*5)=True:=eq_true z8;have gb5:(k1*5+5<=c*5)=True:=eq_true z8;have hLg:∀p (h1:k1<=p) (h2:p<ds.length),(cU ds (k+k2)++ds.drop k1)[p]'(by rw[lL];exact h2)=gd ds p:=λp h1 h2=>by
      rw[List.getElem_append_right z8,List.getElem_drop,vJ h2];congr 1;omega
     have gl3:((RI.drop (k*5+k2*5)).take 5).map PV.drop1=(gd ds (k+k2)).enc.cells:=by rw[hRI,<-Nat.add_mul,SQ _ _ _ (by rw[lL];omega),hLg _ z8 z8]
     have gl4:((RI.drop (k*5+(k2-1)*5)).take 5).map PV.drop1=(gd ds (k+k2-1)).enc.cells:=by rw[hRI,<-Nat.add_mul,SQ _ _ _ (by rw[lL];omega),hLg _ z8 z8,show k+(k2-1)=k+k2-1 by omega]
     refine ZE (a5 y3 rS nT g2 gl9) ?_;refine ZG g2 ?_;refine qK ?_;refine qB ?_;refine wQ ?_;refine dA (by kernel_rfl) ?_;refine AZ 9 (a5 y3 rS nT g2 (a5 vB hs1 hs2 nIs (a5 gi3 gi4 gi5 gw3 (a5 gb3 gb4 gb5 gl3 (a2 gl4 lRI))))) ?_;have x2:=a5 vB hs1 hs2 nIs (a5 gi3 gi4 gi5 gw3 (a5 gb3 gb4 gb5 gl3 (a2 gl4 lRI)));refine rP (Ze x2) (by rfl) (AY true RZ (ps:=(gd ds (k+k2)).enc.cells) (qs:=(gd ds (k+k2-1)).enc.cells) rfl (Zer x2) (Zer x2) (IW _) (IW _) z7 z7) ?_;refine xN (by simp only[jP,jO,jN,seval,aB,g2,Dg.enc_len,vB,tN,hs1,hs2,nIs,lS,gi3,gi4,gi5,gw3,gb3,gb4,gb5,gl3,gl4,lRI]<;>with_reducible rfl) z7 (by repeat (first|exact fK.base _|with_reducible apply fK.keep|apply fK.drop)) ?_;refine wQ ?_;refine wC rfl (by simp only[jN,seval,aB,g2]<;>with_reducible rfl) (λbt44=> ?_) (λbt44=> ?_)
     ·
      have hne:xA (gd ds (k+k2)) (gd ds (k+k2-1))=false:=by simpa[xA]using bt44
      have hcn:cU ds (k+(k2+1))=cU ds (k+k2)++ [gd ds (k+k2)]:=by
       rw[show k+(k2+1)=(k+k2)+1 by omega,cU,if_pos (.inr hne)]
      refine wQ ?_;refine eE (by simp only[kA,seval,rS,nT,aB,g2,Dg.enc_len,vB,tN,hs1,hs2,nIs,lS,gi3,gi4,gi5,gw3,gb3,gb4,gb5,gl3,gl4,lRI]<;>with_reducible rfl) z7 ?_;refine wL [0,3,4,5] (by simp only[jN,seval,aB,g2]<;>with_reducible rfl) ?_;refine wQ ?_;refine eE (by simp only[kA,seval,y3,aB,g2,gw5]<;>with_reducible rfl) z7 ?_;refine wQ ?_;refine eE (by simp only[kA,seval,y3,aB,g2,gw6]<;>with_reducible rfl) z7 ?_
      try simp only[aW,aO]
      refine⟨(k1+1,k2+1),by show ds.length- (k2+1)<ds.length-k2;omega,ZV,by show 1<=k2+1;omega,by show k+(k2+1)<=_;omega,by show k1+1=_;rw[hcn,aTi,<-hz3];rfl,by show k1+1+1<=k+(k2+1);omega,_, ?_,rfl⟩;rw[hRI];have hdk:ds.drop k1=gd ds k1::ds.drop (k1+1):=by rw[aUc z8,vJ z8]
      show cY _ (k1*5) _=aH ((cU ds (k+(k2+1))++ds.drop (k1+1)).map Dg.enc)++rest;rw[hcn,hdk];have hst:=aOz (cU ds (k+k2)) (ds.drop (k1+1)) (gd ds (k+k2)) (gd ds k1) rest;rw[<-hz3]at hst;rw[hst];simp
     ·
      have hne:xA (gd ds (k+k2)) (gd ds (k+k2-1))=true:=by simpa[xA]using bt44
      have hcn:cU ds (k+(k2+1))=cU ds (k+k2):=by
       rw[show k+(k2+1)=(k+k2)+1 by omega,cU,if_neg (by rintro(h|h);omega;rw[hne]at h;cases h)]
      refine qK ?_;refine ZE (a3 y3 g2 gw6) ?_
      try simp only[aW,aO]
      refine⟨(k1,k2+1),by show ds.length- (k2+1)<ds.length-k2;omega,ZV,by show 1<=k2+1;omega,by show k+(k2+1)<=_;omega,by show k1=_;rw[hcn];exact hz3,by show k1+1<=k+(k2+1);omega,RI, ?_,rfl⟩;show RI=aH ((cU ds (k+(k2+1))++ds.drop k1).map Dg.enc)++rest;rw[hcn];exact hRI
    ·
     have gl9:decide (((k2:Nat):Int)<((ds.length-k:Nat):Int))=false:=decide_eq_false z8;have hcl:=KM ds (k+k2);have lL:(cU ds (k+k2)++ds.drop k1).length=ds.length:=by rw[aTi,<-hz3,aS8];omega
     have lRI:RI.length=c*5:=by rw[hRI,aTi,dY,lL];exact hc
     refine ZE (a5 y3 rS nT g2 gl9) ?_;refine ZF g2 ?_;refine wQ ?_;refine bD ?_;simp only[aW,aO,reduceIte,Nat.reduceEqDiff,aUb,if_true,if_false];refine ZT 2 g2 ?_;refine iM (mL tN) (fJ (id:=id) (n:=ds.length) (c:=c) (k:=k1) (kk:=.i64) rfl z7 z7 BF (fV tN) (fV tN) z8 z8) ?_;refine KZ (hs1 _) (mL tN) rfl z7 (fV tN) BF SA rfl z7 (by show k1*5+(ds.length-k1)*5<=_;rw[lRI];omega) ?_;obtain⟨src,hse⟩:∃src,src=(aS6 (ds.length-k1) zD).flatten:=⟨_,rfl⟩;have hsrc:src.length=(ds.length-k1)*5:=by rw[hse];simp[zD]
     rw[hs2];show bH _ _ _ _ _ _ _ (H1.set id (.row (cY RI (k1*5) (aS6 (ds.length-k1) zD).flatten)));rw[<-hse];refine oN ?_;refine ZT 2 g2 ?_;refine nR (id:=id) (n:=ds.length) (c:=c) (kk:=.i64) (k:=k1) (mL tN) rfl z7 z7 BF (fV tN) (fV tN) z8 ?_;refine ZX g2 ?_;refine wQ ?_;refine wT ⟨.inr rfl,_,rfl, ?_⟩;have hkn:k+k2=ds.length:=z8
     rw[hkn]at hz3 hRI;refine⟨by rw[hz3];rfl, ?_⟩
     ·congr 2;have hrs:rA ds rest=src++rest:=by unfold rA rD;rw[<-hz3,hse]
      rw[hRI,hrs];unfold rD;rw[List.map_append,cN,aUa,hz3,<-dY,jW _ _ _ (by rw[aTi,dY,aS8,hsrc];omega),aUa];congr 2;rw[List.drop_append_of_le_length (by rw[dY,aS8,hsrc];omega),List.drop_of_length_le (by rw[dY,aS8,hsrc];omega)];rfl
   ·
    have hcu1:cU ds (k+1)=cU ds k++ [gd ds k]:=by
     have he:xA (gd ds k) (gd ds (k-1))=false:=by simpa[xA]using bt25
     rw[cU,if_pos (.inr he)]
    refine qK ?_;refine ZE (a3 y3 g2 gw2) ?_
    try simp only[aW,aO]
    exact⟨k+1,by show ds.length- (k+1)<ds.length-k;omega,ZV,z8,z8,by rw[hcu1,hcu,vJ z8,aT8 z8],by trivial⟩
  ·
   have gl0:decide (((k:Nat):Int)<((ds.length:Nat):Int))=false:=decide_eq_false z8;have hself:rD ds=ds:=by
    unfold rD;rw[show ds.length=k by omega,hcu,aUf hkl]
   refine ZE (a5 y3 rS nT g2 gl0) ?_;refine ZF g2 ?_;refine wQ ?_;refine bD ?_;simp only[aW,aO,reduceIte,Nat.reduceEqDiff,aUb,if_true,if_false];refine ZE g2 ?_;refine wQ ?_;refine wT ⟨.inr rfl,_,rfl, ?_⟩;have hrs:rA ds rest=rest:=by unfold rA;rw[hself,Nat.sub_self];rfl
   exact⟨by rw[hself];rfl,by rw[hself,hrs,<-hR];exact hs3.symm⟩
set_option maxRecDepth 4000
theorem aOx:zJ Tryz.prog 77 [.int, .str]:=⟨⟨_,Tryz.underlying77,rfl,λi h h2=>by
 match i,h2 with
 |0,_=>exact⟨z6,rfl,Tryz.underlying3⟩
 |1,_=>exact⟨z6,rfl,Tryz.underlying9⟩⟩,by kernel_rfl,by kernel_rfl⟩
theorem aDc(s:Tk):gN s.enc.cells s.enc.cells=true:=by simp[Tk.enc_cells,gN,AQ]
theorem aF3(s:Dg):gN s.enc.cells s.enc.cells=true:=by simp[Dg.enc_cells,gN,AQ]
theorem aQe(us:List Tk)(hx:us.length<=maxLen):PC Tryz.prog 30 [.slice (us.map Tk.enc) .none, .slice (us.map Tk.enc) .none] (.bool true):=by
 refine dN (N:=26) Tryz.func30 rfl rfl z6 (by simp[jR,jK,gV]) (.bool _) ?_;refine ZE (a2 dT bN) ?_;refine ZE (a5 y3 lT JZ dT bN) ?_;refine ZF (a2 dT bN) ?_;refine qK ?_;refine ZE (a4 lT JZ dT bN) ?_;refine wQ ?_;refine fN (σ:=Unit) (us.length) (λ(u_:Unit)=> [(0, .slice (us.map Tk.enc) .none),(1, .slice (us.map Tk.enc) .none)]) [0,1] ([]) (λ(u_:Unit)=> []) (λ(i:Nat) (u_:Unit)=>True) (()) ([]) rfl rfl rfl rfl rfl rfl rfl rfl rfl z7 z7 z7 (λ_=>rfl) (hx) ⟨(Zf (a2 dT bN)),(Zf (a2 dT bN)),(Zf (a2 dT bN)),(Zf (a2 dT bN)),trivial⟩ (Zf (a2 dT bN)) z6 (λ_ _ _=>by first|exact aTn _| (simp only[aTi];omega)) ?_ ?_ ?_
 ·exact λi s hg=>⟨by first|exact dF _| (simp only[aT4];assumption)| (refine iK hb' z6 ?_;repeat (first|exact dF _|exact trivial|exact iX _| (refine jF.cons ?_ ?_)| (refine gY (by first|exact St.bel _ _|exact gV _ _|exact Tk.bel _ _|exact jR _ _|exact iV _ z6|exact At.bel _ _|exact sU _ _|exact jY _ z6|exact Sy.bel _ _|exact sS _ _|exact jV _ z6|exact Md.bel _ _|exact Dg.bel _ _|exact sV _ _|exact jK _ _|exact Tk.bel _ _|exact St.bel _ _|exact Nd.bel _ _|exact Dg.bel _ _|exact cQ _ _|exact gV _ _|exact eD _ _|exact rO _ _|exact cR _|exact cT _|exact aZ.optr _ _ (by first| (simp;done)| (simp;omega))|exact aZ.int _ _|exact aZ.bool _|exact aZ.str _|exact aZ.nilp|exact aZ.nilfn|exact aZ.optr _ _ z6|exact cR _|exact cT _|exact iC _ _|assumption) ?_))),by repeat (first|exact kI.nil|refine kI.cons (by first|exact St.bel _ _|exact gV _ _|exact Tk.bel _ _|exact jR _ _|exact iV _ z6|exact At.bel _ _|exact sU _ _|exact jY _ z6|exact Sy.bel _ _|exact sS _ _|exact jV _ z6|exact Md.bel _ _|exact Dg.bel _ _|exact sV _ _|exact jK _ _|exact Tk.bel _ _|exact St.bel _ _|exact Nd.bel _ _|exact Dg.bel _ _|exact cQ _ _|exact gV _ _|exact eD _ _|exact rO _ _|exact cR _|exact cT _|exact aZ.optr _ _ (by first| (simp;done)| (simp;omega))|exact aZ.int _ _|exact aZ.bool _|exact aZ.str _|exact aZ.nilp|exact aZ.nilfn|exact aZ.optr _ _ z6|exact cR _|exact cT _|exact iC _ _|assumption) ?_)⟩
 ·intro i u_ hi hg;have g1:=bS hi;have g2:=eH Tk.enc hi;have hs:=aDc us[i];refine wQ ?_;refine eE (by simp only[kA,seval,aB,qC,decide_true,aTt,g1,tN,g2,Tk.enc_len]<;>with_reducible rfl) z7 ?_;refine wQ ?_;refine dA (by kernel_rfl) ?_;refine vQ 8 (by simp only[jP,jO,jN,seval,lT,JZ,aB,qC,decide_true,aTt,g1,tN,g2,Tk.enc_len]<;>with_reducible rfl) z7 ?_;refine CO (ps:=us[i].enc.cells) (qs:=us[i].enc.cells) aOx rfl (fV tN) (fV tN) rfl rfl (Zer tN) (Zer tN) z7 z7 ?_;rw[hs];refine xN (by simp only[jP,jO,jN,seval,aB,qC,decide_true,aTt,g1,tN,g2,Tk.enc_len]<;>with_reducible rfl) z7 (by repeat (first|exact fK.base _|with_reducible apply fK.keep|apply fK.drop)) ?_;refine wQ ?_;refine wF rfl (by simp only[jN,seval,aB,qC,decide_true,aTt,g1,tN,g2,Tk.enc_len,aTt]<;>with_reducible rfl) ?_;refine qK ?_;exact⟨ZV,(),[],ZV,rfl,trivial⟩
 ·intro u_ hg;refine ZE (a2 dT bN) ?_;refine wQ ?_;refine wT ⟨.inr rfl,_,rfl, ?_⟩;rfl
theorem aP6(us:List Dg)(hx:us.length<=maxLen):PC Tryz.prog 34 [.slice (us.map Dg.enc) .none, .slice (us.map Dg.enc) .none] (.bool true):=by
 refine dN (N:=26) Tryz.func34 rfl rfl z6 (by simp[jR,jK,gV]) (.bool _) ?_;refine ZE (a2 dT bN) ?_;refine ZE (a5 y3 rS nT dT bN) ?_;refine ZF (a2 dT bN) ?_;refine qK ?_;refine ZE (a4 rS nT dT bN) ?_;refine wQ ?_;refine fN (σ:=Unit) (us.length) (λ(u_:Unit)=> [(0, .slice (us.map Dg.enc) .none),(1, .slice (us.map Dg.enc) .none)]) [0,1] ([]) (λ(u_:Unit)=> []) (λ(i:Nat) (u_:Unit)=>True) (()) ([]) rfl rfl rfl rfl rfl rfl rfl rfl rfl z7 z7 z7 (λ_=>rfl) (hx) ⟨(Zf (a2 dT bN)),(Zf (a2 dT bN)),(Zf (a2 dT bN)),(Zf (a2 dT bN)),trivial⟩ (Zf (a2 dT bN)) z6 (λ_ _ _=>by first|exact aTn _| (simp only[aTi];omega)) ?_ ?_ ?_
 ·exact λi s hg=>⟨by first|exact dF _| (simp only[aT4];assumption)| (refine iK hb' z6 ?_;exact ZH),ZR⟩
 ·intro i u_ hi hg;have g1:=bS hi;have g2:=eH Dg.enc hi;have hs:=aF3 us[i];have x1:=a4 dT bN g1 g2;refine ZE x1 ?_;refine wQ ?_;refine dA (by kernel_rfl) ?_;refine AZ 8 (a3 rS nT x1) ?_;refine CO (ps:=us[i].enc.cells) (qs:=us[i].enc.cells) RZ rfl (fV tN) (fV tN) rfl rfl (Zer tN) (Zer tN) z7 z7 ?_;rw[hs];refine FM x1 ?_;refine ZF x1 ?_;refine qK ?_;exact⟨ZV,(),[],ZV,rfl,trivial⟩
 ·intro u_ hg;refine ZE (a2 dT bN) ?_;refine wQ ?_;refine wT ⟨.inr rfl,_,rfl, ?_⟩;rfl
theorem EZ:∀(k:Nat) (t:St),t.size<=k->k<=1000000->PC Tryz.prog 28 [t.enc,t.enc] (.bool true)
 |0,t,h,_=>by cases t;simp[St.size]at h
 |k+1,t,h,hk=>by
  have hks:t.size=1+bE t.ch:=by cases t;simp only[St.size,St.ch]
  have hkl:=iR t.ch;have hmx:maxLen=9223372036854775807:=z7
  refine dN (N:=46) Tryz.func28 rfl rfl z6 (by simp[St.bel,Tk.bel,jR,gV,aZ.int,aZ.str,aZ.bool,eD]) (.bool _) ?_;have x1:=a3 dT bN bF;refine ZE (a2 dM x1) ?_;refine tL (a5 y3 y9 nG dM x1) ?_;refine ZF x1 ?_;refine qK ?_;refine ZL [2,3] x1 ?_;refine ZE (a3 nG dM x1) ?_;refine wQ ?_;refine fN (σ:=Unit) (t.ch.length) (λ(u_:Unit)=> [(2, .optr 0 0),(3, .optr 1 0)]) [2,3] ([]) (λ(u_:Unit)=> [.row [.int .i64 t.kind, .str t.text, .slice (t.ch.map St.enc) .none], .row [.int .i64 t.kind, .str t.text, .slice (t.ch.map St.enc) .none]]) (λ(i:Nat) (u_:Unit)=>True) (()) (_) rfl rfl rfl rfl rfl rfl rfl rfl rfl z7 z7 z7 (λ_=>rfl) (z8) ⟨(Zf x1),(Zf x1),(Zf x1),(Zf x1),trivial⟩ (Zf x1) z6 (λ_ _ _=>by first|exact aTn _| (simp only[aTi];omega)) ?_ ?_ ?_
  ·intro i u_ hg;refine⟨?_,ZR⟩;simp only[aT1];exact ZH
  ·intro i u_ hi hg;have g1:=bS hi;have g2:=eH St.enc hi;have hmem:t.ch[i]∈t.ch:=aTk hi;have hsa:=St.size_ch (t:=t) hmem;obtain⟨u,hu⟩:∃u,u=t.ch[i]:=⟨_,rfl⟩;rw[<-hu]at g2 hmem hsa;have ih:=EZ k u z8 z8;refine ZE (a3 g1 g2 x1) ?_;refine wQ ?_;refine dA (by kernel_rfl) ?_;refine AZ 10 (a5 nG dM g1 g2 x1) ?_;refine ZpK (a3 g1 g2 x1) aGp (λhc=>ih _) ?_;refine FM (a3 g1 g2 x1) ?_;refine ZF (a3 g1 g2 x1) ?_;refine qK ?_;exact⟨ZV,(),_,ZV,by simp only[jN,seval,aB,qC]<;>rfl,trivial⟩
  ·intro u_ hg;refine ZE x1 ?_;refine wQ ?_;refine wT ⟨.inr rfl,_,rfl, ?_⟩;rfl
set_option maxRecDepth 4000
def rM(z:Int×Bool)(c:UInt8):Int×Bool:=if 10*z.1+((c-48).toNat:Int)>2147483647 then(2147483647,false)else(10*z.1+((c-48).toNat:Int),z.2)
def wH(s:List UInt8):Int×Bool:=s.foldl rM (0,true)
theorem VB{s:List UInt8}{i:Nat}(hi:i<s.length):wH (s.take (i+1))=rM (wH (s.take i)) s[i]:=by
 unfold wH;rw[aT8 hi,List.foldl_append];rfl
theorem aD3{z:Int×Bool}(c:UInt8)(h:0<=z.1/\z.1<=2147483647):0<=(rM z c).1/\(rM z c).1<=2147483647:=by
 unfold rM;split
 ·exact⟨z7,z7⟩
 ·rename_i q;simp only;omega
theorem aDn(s:List UInt8):0<=(wH s).1/\(wH s).1<=2147483647:=by
 have:∀(l:List UInt8) (z:Int×Bool),0<=z.1/\z.1<=2147483647->0<=(l.foldl rM z).1/\(l.foldl rM z).1<=2147483647:=by
  intro l;induction l with
  |nil=>exact λz h=>h
  |cons c l ih=>exact λz h=>ih _ (aD3 c h)
 exact this s _ ⟨z7,z7⟩
theorem aOs(c:UInt8):IntKind.u8.wrap ((c.toNat:Int) -48)=((c-48).toNat:Int):=by
 have h:=c.toNat_lt;rw[UInt8.toNat_sub,show(48:UInt8).toNat=48 from rfl];have e:IntKind.u8.wrap ((c.toNat:Int) -48)=((c.toNat:Int) -48)%256:=rfl;rw[e];omega
theorem SN(n:Nat)(l:List UInt8):aZ n (.slice (l.map u8v) .none):=.slice _ _ (λe he c hc=>by
 obtain⟨s,_,rfl⟩:=aTq.1 he;have hc:c∈ [u8v s]:=hc;rw[aT2.1 hc];exact .int _ _) (λi e=>by cases e)
theorem NI(s:List UInt8)(hm:s.length<=2000):PC Tryz.prog 183 [.str s] (.tup [.int .i64 (wH s).1, .bool (wH s).2]):=by
 have hmx:maxLen=9223372036854775807:=z7
 have hm':s.length<=maxLen:=z8
 refine dN (N:=26) Tryz.func183 rfl rfl z6 (by simp[aZ.str]) (.tup _ (by simp[aZ.int,aZ.bool])) ?_;refine uA ?_;refine uA ?_;refine ZT0 1 ?_;refine JY rfl (KU tN) z7 Tryz.underlying9 Tryz.underlying124 Tryz.underlying5 hm' (mL tN) ?_;refine ZX (a2 y5 aPq) ?_;refine wQ ?_;refine fN (σ:=Int×Bool) (s.length) (λ(z:Int×Bool)=> [(4, .int .i64 z.1),(5, .bool z.2),(9, .slice (s.map u8v) .none)]) [4,5,9] ([]) (λ(z:Int×Bool)=> []) (λ(i:Nat) (z:Int×Bool)=>z=wH (s.take i)) ((0,true)) ([]) rfl rfl rfl rfl rfl rfl rfl rfl rfl z7 z7 z7 (λ_=>rfl) (hm') (Zt tN) (Zf tN) (by simp[wH]) (λ_ _ _=>by first|exact aTn _| (simp only[aTi];omega)) ?_ ?_ ?_
 ·exact λi s hg=>⟨by first|exact dF _| (simp only[aT4];assumption)| (refine iK hb' z6 ?_;repeat (first|exact dF _|exact trivial|exact iX _| (refine jF.cons ?_ ?_)| (refine gY (by first|exact SN _ _|exact St.bel _ _|exact gV _ _|exact Tk.bel _ _|exact jR _ _|exact iV _ z6|exact At.bel _ _|exact sU _ _|exact jY _ z6|exact Sy.bel _ _|exact sS _ _|exact jV _ z6|exact Md.bel _ _|exact Dg.bel _ _|exact sV _ _|exact jK _ _|exact Tk.bel _ _|exact St.bel _ _|exact Nd.bel _ _|exact Dg.bel _ _|exact cQ _ _|exact gV _ _|exact eD _ _|exact rO _ _|exact cR _|exact cT _|exact aZ.optr _ _ (by first| (simp;done)| (simp;omega))|exact aZ.int _ _|exact aZ.bool _|exact aZ.str _|exact aZ.nilp|exact aZ.nilfn|exact aZ.optr _ _ z6|exact cR _|exact cT _|exact iC _ _|assumption) ?_))),by repeat (first|exact kI.nil|refine kI.cons (by first|exact SN _ _|exact St.bel _ _|exact gV _ _|exact Tk.bel _ _|exact jR _ _|exact iV _ z6|exact At.bel _ _|exact sU _ _|exact jY _ z6|exact Sy.bel _ _|exact sS _ _|exact jV _ z6|exact Md.bel _ _|exact Dg.bel _ _|exact sV _ _|exact jK _ _|exact Tk.bel _ _|exact St.bel _ _|exact Nd.bel _ _|exact Dg.bel _ _|exact cQ _ _|exact gV _ _|exact eD _ _|exact rO _ _|exact cR _|exact cT _|exact aZ.optr _ _ (by first| (simp;done)| (simp;omega))|exact aZ.int _ _|exact aZ.bool _|exact aZ.str _|exact aZ.nilp|exact aZ.nilfn|exact aZ.optr _ _ z6|exact cR _|exact cT _|exact iC _ _|assumption) ?_)⟩
 ·intro i z hi hg;have g1:=bS hi;have hst:=VB hi;have hz1:0<=z.1/\z.1<=2147483647:=by rw[hg];exact aDn _
  rw[<-hg]at hst;obtain⟨c,hc⟩:∃c,c=s[i]:=⟨_,rfl⟩;have g2:(s.map u8v)[i]? =some (.int .u8 c.toNat):=by rw[aTb,aTd hi,hc];rfl
  rw[<-hc]at hst;have hu:=aOs c;have hlt:=(c-48).toNat_lt;have w1:IntKind.i64.wrap (10*z.1)=10*z.1:=aY z8 z8;have w2:IntKind.i64.wrap (((c-48).toNat:Nat):Int)=(((c-48).toNat:Nat):Int):=aY z8 z8;have w3:IntKind.i64.wrap (10*z.1+(((c-48).toNat:Nat):Int))=10*z.1+(((c-48).toNat:Nat):Int):=aY z8 z8;have x1:=a5 g1 g2 hu w1 (a2 w2 w3);refine ZE (a3 y5 aPq x1) ?_;refine ZE (a3 y3 y5 x1) ?_;refine ZE (a2 y3 x1) ?_;refine ZI x1 (λbt22=> ?_) (λbt22=> ?_)
  ·
   have hn:rM z c=(2147483647,false):=by unfold rM;rw[if_pos (of_decide_eq_true bt22)]
   refine ZE x1 ?_;exact⟨ZV,rM z c,[],⟨by rw[hn];rfl,by rw[hn];rfl,rfl,trivial⟩,rfl,hst.symm⟩
  ·
   have hn:rM z c=(10*z.1+((c-48).toNat:Int),z.2):=by unfold rM;rw[if_neg (of_decide_eq_false bt22)]
   refine qK ?_;exact⟨ZV,rM z c,[],⟨by rw[hn];rfl,by rw[hn];rfl,rfl,trivial⟩,rfl,hst.symm⟩
 ·intro z hg;rw[aUd]at hg;refine uA ?_;refine wQ ?_;refine wT ⟨.inr rfl,_,(cW (.tmp 2) (.tmp 3) rfl (aR z7) (aR z7)), ?_⟩;rw[<-hg];rfl
set_option maxRecDepth 4000
def rT(st:Int)(z:List UInt8×List Dg×Bool)(i:Nat)(c:UInt8):List UInt8×List Dg×Bool:=
 if(!z.2.2&&c==92)=true then(z.1,z.2.1,true)
 else if(z.2.2&&c==110)=true then(z.1++ [10],z.2.1,false)
 else(z.1++ [c],(if((z.2.2&& !(c==34))&& !(c==92))=true then z.2.1++ [gZ 6 (st+(i:Int) -1) (st+(i:Int)+1)]else z.2.1),false)
def jT(s:List UInt8)(st:Int):Nat->List UInt8×List Dg×Bool
 |0=>([],[],false)
 |j+1=>rT st (jT s st j) (j+1) (s.getD (j+1) 0)
theorem aB3(st:Int)(z:List UInt8×List Dg×Bool)(i:Nat)(c:UInt8):(rT st z i c).1.length<=z.1.length+1/\(rT st z i c).2.1.length<=z.2.1.length+1:=by
 unfold rT;split
 ·exact⟨z6,z6⟩
 ·split
  ·exact⟨z6,z6⟩
  ·exact⟨z6,by simp only;split<;>simp⟩
theorem CQ(s:List UInt8)(st:Int):∀j,(jT s st j).1.length<=j/\(jT s st j).2.1.length<=j
 |0=>⟨by simp[jT],by simp[jT]⟩
 |j+1=>by
  have h:=CQ s st j;have k:=aB3 st (jT s st j) (j+1) (s.getD (j+1) 0);rw[jT];omega
theorem aAy(s:List UInt8)(st:Int)(hm:s.length<=2000)(h0:0<=st)(h1:st<=1000000):PC Tryz.prog 182 [.str s,aB st] (.tup [.str (jT s st (s.length-2)).1, .slice ((jT s st (s.length-2)).2.1.map Dg.enc) .none]):=by
 have hmx:maxLen=9223372036854775807:=z7
 refine dN (N:=70) Tryz.func182 rfl rfl z6 (by simp[aZ.str,aZ.int]) (.tup _ (by simp[jK,aZ.str])) ?_;refine uA ?_;refine uA ?_;refine uA ?_;refine uA ?_;refine uA ?_;refine wQ ?_;refine sO 7 5 (es:= []) (Zny tN) ?_;refine fB ?_;refine iD (σ:=Nat×List UInt8×List Dg×Bool) (λ(z:Nat×List UInt8×List Dg×Bool)=> [(0, .str s),(1,aB st),(9,aB ((z.1+1:Nat):Int)),(6, .str z.2.1),(7, .slice (z.2.2.1.map Dg.enc) (.tok 0)),(8, .bool z.2.2.2)]) ([]) (λ(z:Nat×List UInt8×List Dg×Bool)=> [.buf z.2.2.1.length 5]) (λ(z:Nat×List UInt8×List Dg×Bool)=>s.length-z.1) (λ(z:Nat×List UInt8×List Dg×Bool)=>z.1<=s.length-2/\z.2=jT s st z.1) ((0,[],[],false)) (_) ⟨(Zf tN),(Zf tN),(Zf tN),(Zf tN),(Zf tN),(Zf tN),trivial⟩ (Zf tN) (⟨z8,rfl⟩) (λ_ _=>by first|exact aTn _| (simp only[aTi];omega)) ?_ ?_
 ·exact λz hg=>⟨by simp only[aT1];repeat (first|exact dF _|exact trivial| (refine jF.cons ?_ ?_)),by repeat (first|exact kI.nil|refine kI.cons (by first|exact QS _ z6|exact St.bel _ _|exact gV _ _|exact Tk.bel _ _|exact jR _ _|exact iV _ z6|exact At.bel _ _|exact sU _ _|exact jY _ z6|exact Sy.bel _ _|exact sS _ _|exact jV _ z6|exact Md.bel _ _|exact Dg.bel _ _|exact sV _ _|exact jK _ _|exact Tk.bel _ _|exact St.bel _ _|exact Nd.bel _ _|exact Dg.bel _ _|exact cQ _ _|exact gV _ _|exact eD _ _|exact rO _ _|exact cR _|exact cT _|exact aZ.optr _ _ (by first| (simp;done)| (simp;omega))|exact aZ.int _ _|exact aZ.bool _|exact aZ.str _|exact aZ.nilp|exact aZ.nilfn|exact aZ.optr _ _ z6|exact cR _|exact cT _|exact iC _ _|assumption) ?_)⟩
 ·intro z hg;have hz2:=hg.2;have hzl:=CQ s st z.1;rw[<-hz2]at hzl;have wl:IntKind.i64.wrap ((s.length:Int) -1)=(s.length:Int) -1:=aY z8 z8;refine ZE (a3 y3 y9 wl) ?_;refine ZI wl (λbt14=> ?_) (λbt14=> ?_)
  ·
   have hi:z.1+1<s.length-1:=by have:=of_decide_eq_true bt14;omega
   have hi2:z.1+1<s.length:=z8
   have g1:=bS hi2;have hgd:s.getD (z.1+1) 0=s[z.1+1]:=by rw[aTe,aTd hi2];rfl
   obtain⟨c,hc⟩:∃c,s[z.1+1]=c:=⟨_,rfl⟩;rw[hc]at hgd;have g2:s[z.1+1]? =some c:=by rw[aTd hi2,hc]
   have g3:(s.take (z.1+1+1)).drop (z.1+1)= [c]:=by rw[List.drop_take,aUc hi2,hc,show z.1+1+1- (z.1+1)=1 by omega];rfl
   have w1:IntKind.i64.wrap (((z.1+1:Nat):Int)+1)=((z.1+1+1:Nat):Int):=by rw[aY z8 z8];omega
   have w2:IntKind.i64.wrap (st+((z.1+1:Nat):Int))=st+((z.1+1:Nat):Int):=aY z8 z8;have w3:IntKind.i64.wrap (st+((z.1+1:Nat):Int) -1)=st+((z.1+1:Nat):Int) -1:=aY z8 z8;have w4:IntKind.i64.wrap (st+((z.1+1:Nat):Int)+1)=st+((z.1+1:Nat):Int)+1:=aY z8 z8;have g4:(0<=((z.1+1+1:Nat):Int)/\((z.1+1+1:Nat):Int)<=(s.length:Int))=True:=by simp;omega
   have g6:(0<=((z.1+1:Nat):Int)/\((z.1+1:Nat):Int)<=((z.1+1+1:Nat):Int))=True:=by simp;omega
   have g5:(z.2.1.length+1<=maxLen)=True:=by simp;omega
   have ha:=DU (us:=z.2.2.1) (u:=⟨6,0,st+((z.1+1:Nat):Int) -1,st+((z.1+1:Nat):Int)+1,[]⟩) (id:=0) (tl:=.full) z8;have e92:decide ((c.toNat:Int)=92)=(c==92):=kV c 92 z7;have e110:decide ((c.toNat:Int)=110)=(c==110):=kV c 110 z7;have e34:decide ((c.toNat:Int)=34)=(c==34):=kV c 34 z7;refine qK ?_;refine qB ?_;refine qB ?_;refine tL (a5 y5 y9 wl g1 (a2 g2 e92)) ?_;refine ZI wl (λbt49=> ?_) (λbt49=> ?_)
   ·
    have hst:rT st z.2 (z.1+1) c=(z.2.1,z.2.2.1,true):=by unfold rT;rw[if_pos bt49]
    refine ZE wl ?_;refine wQ ?_;refine bD ?_;simp only[aW,aO,reduceIte,Nat.reduceEqDiff,aUb,if_true,if_false];refine ZL [0,1,6,7,8,9] wl ?_;refine ZE (a3 y3 wl w1) ?_
    try simp only[aW,aO]
    first|exact⟨(z.1+1,z.2.1,z.2.2.1,true),_,by show s.length- (z.1+1)<s.length-z.1;omega,⟨rfl,rfl,rfl,rfl,rfl,rfl,trivial⟩,by simp only[jN,seval,aB,qG,aTi,aSi]<;>rfl,z8,by rw[jT,<-hz2,hgd,hst]⟩|exact⟨(z.1+1,z.2.1++ [10],z.2.2.1,false),_,by show s.length- (z.1+1)<s.length-z.1;omega,⟨rfl,rfl,rfl,rfl,rfl,rfl,trivial⟩,by simp only[jN,seval,aB,qG,aTi,aSi]<;>rfl,z8,by rw[jT,<-hz2,hgd,hst]⟩|exact⟨(z.1+1,z.2.1++ [c],z.2.2.1++ [gZ 6 (st+((z.1+1:Nat):Int) -1) (st+((z.1+1:Nat):Int)+1)],false),_,by show s.length- (z.1+1)<s.length-z.1;omega,⟨rfl,rfl,rfl,rfl,rfl,rfl,trivial⟩,by simp only[jN,seval,aB,qG,aTi,aSi]<;>rfl,z8,by rw[jT,<-hz2,hgd,hst]⟩|exact⟨(z.1+1,z.2.1++ [c],z.2.2.1,false),_,by show s.length- (z.1+1)<s.length-z.1;omega,⟨rfl,rfl,rfl,rfl,rfl,rfl,trivial⟩,by simp only[jN,seval,aB,qG,aTi,aSi]<;>rfl,z8,by rw[jT,<-hz2,hgd,hst]⟩
   ·
    refine tL (a5 y5 y9 wl g1 (a2 g2 e110)) ?_;refine ZI wl (λbt58=> ?_) (λbt58=> ?_)
    ·
     have hst:rT st z.2 (z.1+1) c=(z.2.1++ [10],z.2.2.1,false):=by unfold rT;rw[if_neg (by rw[bt49];decide),if_pos bt58]
     refine ZL [0,1,6,7,8,9] wl ?_;refine wQ ?_;refine eE (by simp only[kA,seval,y9,aB,qG,wl,g5,aSi]<;>with_reducible rfl) z7 ?_;refine ZE wl ?_;refine ZE (a3 y3 wl w1) ?_
     try simp only[aW,aO]
     first|exact⟨(z.1+1,z.2.1,z.2.2.1,true),_,by show s.length- (z.1+1)<s.length-z.1;omega,⟨rfl,rfl,rfl,rfl,rfl,rfl,trivial⟩,by simp only[jN,seval,aB,qG,aTi,aSi]<;>rfl,z8,by rw[jT,<-hz2,hgd,hst]⟩|exact⟨(z.1+1,z.2.1++ [10],z.2.2.1,false),_,by show s.length- (z.1+1)<s.length-z.1;omega,⟨rfl,rfl,rfl,rfl,rfl,rfl,trivial⟩,by simp only[jN,seval,aB,qG,aTi,aSi]<;>rfl,z8,by rw[jT,<-hz2,hgd,hst]⟩|exact⟨(z.1+1,z.2.1++ [c],z.2.2.1++ [gZ 6 (st+((z.1+1:Nat):Int) -1) (st+((z.1+1:Nat):Int)+1)],false),_,by show s.length- (z.1+1)<s.length-z.1;omega,⟨rfl,rfl,rfl,rfl,rfl,rfl,trivial⟩,by simp only[jN,seval,aB,qG,aTi,aSi]<;>rfl,z8,by rw[jT,<-hz2,hgd,hst]⟩|exact⟨(z.1+1,z.2.1++ [c],z.2.2.1,false),_,by show s.length- (z.1+1)<s.length-z.1;omega,⟨rfl,rfl,rfl,rfl,rfl,rfl,trivial⟩,by simp only[jN,seval,aB,qG,aTi,aSi]<;>rfl,z8,by rw[jT,<-hz2,hgd,hst]⟩
    ·
     refine ZL [0,1,6,7,8,9] wl ?_;refine tL (a5 y5 y9 wl g1 (a3 g2 e34 e92)) ?_;refine ZI wl (λbt29=> ?_) (λbt29=> ?_)
     ·
      have hst:rT st z.2 (z.1+1) c=(z.2.1++ [c],z.2.2.1++ [gZ 6 (st+((z.1+1:Nat):Int) -1) (st+((z.1+1:Nat):Int)+1)],false):=by unfold rT;rw[if_neg (by rw[bt49];decide),if_neg (by rw[bt58];decide),if_pos bt29]
      refine ZE (a5 y3 rS nT wl (a4 ha w2 w3 w4)) ?_;refine ZL [0,1,6,7,8,9] wl ?_;refine wQ ?_;refine eE (by simp only[kA,seval,y3,y9,aB,qG,wl,jS,g3,g4,g5,g6,w1,tN,aSi]<;>with_reducible rfl) z7 ?_;refine ZE wl ?_;refine ZE (a3 y3 wl w1) ?_
      try simp only[aW,aO]
      first|exact⟨(z.1+1,z.2.1,z.2.2.1,true),_,by show s.length- (z.1+1)<s.length-z.1;omega,⟨rfl,rfl,rfl,rfl,rfl,rfl,trivial⟩,by simp only[jN,seval,aB,qG,aTi,aSi]<;>rfl,z8,by rw[jT,<-hz2,hgd,hst]⟩|exact⟨(z.1+1,z.2.1++ [10],z.2.2.1,false),_,by show s.length- (z.1+1)<s.length-z.1;omega,⟨rfl,rfl,rfl,rfl,rfl,rfl,trivial⟩,by simp only[jN,seval,aB,qG,aTi,aSi]<;>rfl,z8,by rw[jT,<-hz2,hgd,hst]⟩|exact⟨(z.1+1,z.2.1++ [c],z.2.2.1++ [gZ 6 (st+((z.1+1:Nat):Int) -1) (st+((z.1+1:Nat):Int)+1)],false),_,by show s.length- (z.1+1)<s.length-z.1;omega,⟨rfl,rfl,rfl,rfl,rfl,rfl,trivial⟩,by simp only[jN,seval,aB,qG,aTi,aSi]<;>rfl,z8,by rw[jT,<-hz2,hgd,hst]⟩|exact⟨(z.1+1,z.2.1++ [c],z.2.2.1,false),_,by show s.length- (z.1+1)<s.length-z.1;omega,⟨rfl,rfl,rfl,rfl,rfl,rfl,trivial⟩,by simp only[jN,seval,aB,qG,aTi,aSi]<;>rfl,z8,by rw[jT,<-hz2,hgd,hst]⟩
     ·
      have hst:rT st z.2 (z.1+1) c=(z.2.1++ [c],z.2.2.1,false):=by unfold rT;rw[if_neg (by rw[bt49];decide),if_neg (by rw[bt58];decide),if_neg (by rw[bt29];decide)]
      refine qK ?_;refine wQ ?_;refine eE (by simp only[kA,seval,y3,y9,aB,qG,wl,jS,g3,g4,g5,g6,w1,tN,aSi]<;>with_reducible rfl) z7 ?_;refine ZL [0,1,6,7,8,9] wl ?_;refine ZE wl ?_;refine ZE (a3 y3 wl w1) ?_
      try simp only[aW,aO]
      first|exact⟨(z.1+1,z.2.1,z.2.2.1,true),_,by show s.length- (z.1+1)<s.length-z.1;omega,⟨rfl,rfl,rfl,rfl,rfl,rfl,trivial⟩,by simp only[jN,seval,aB,qG,aTi,aSi]<;>rfl,z8,by rw[jT,<-hz2,hgd,hst]⟩|exact⟨(z.1+1,z.2.1++ [10],z.2.2.1,false),_,by show s.length- (z.1+1)<s.length-z.1;omega,⟨rfl,rfl,rfl,rfl,rfl,rfl,trivial⟩,by simp only[jN,seval,aB,qG,aTi,aSi]<;>rfl,z8,by rw[jT,<-hz2,hgd,hst]⟩|exact⟨(z.1+1,z.2.1++ [c],z.2.2.1++ [gZ 6 (st+((z.1+1:Nat):Int) -1) (st+((z.1+1:Nat):Int)+1)],false),_,by show s.length- (z.1+1)<s.length-z.1;omega,⟨rfl,rfl,rfl,rfl,rfl,rfl,trivial⟩,by simp only[jN,seval,aB,qG,aTi,aSi]<;>rfl,z8,by rw[jT,<-hz2,hgd,hst]⟩|exact⟨(z.1+1,z.2.1++ [c],z.2.2.1,false),_,by show s.length- (z.1+1)<s.length-z.1;omega,⟨rfl,rfl,rfl,rfl,rfl,rfl,trivial⟩,by simp only[jN,seval,aB,qG,aTi,aSi]<;>rfl,z8,by rw[jT,<-hz2,hgd,hst]⟩
  ·
   have hi:z.1=s.length-2:=by have:=of_decide_eq_false bt14;omega
   have hv:jT s st (s.length-2)=z.2:=by rw[<-hi];exact hg.2.symm
   refine wQ ?_;refine bD ?_;simp only[aW,aO,reduceIte,Nat.reduceEqDiff,aUb,if_true,if_false];refine ZE wl ?_;refine wQ ?_;refine wT ⟨.inr rfl,_,(cW (.tmp 4) (.tmp 5) rfl (aR z7) (aR z7)), ?_⟩;simp only[jN,seval,aB,qG,hv]
   try rfl
set_option maxRecDepth 4000
def rR(t:St)(st:Int):List Dg:=
 if(decide (t.kind=108)&&decide (t.text= []))=true then [gZ 1 st (st+t.text.length)]
 else if decide (t.kind=108)=true then [gZ 3 st (st+t.text.length)]
 else if(decide (t.kind=103)&&decide ((t.text.length:Int)>30))=true then [gZ 5 st (st+t.text.length)]
 else if decide (t.kind=106)=true then(jT t.text st (t.text.length-2)).2.1
 else if decide (t.kind=105)=true then(if(wH t.text).2=true then []else [gZ 4 st (st+t.text.length)])
 else []
theorem aFb(t:St)(st:Int)(hm:t.text.length<=2000)(h0:0<=st)(h1:st<=1000000):PC Tryz.prog 110 [t.enc,aB st] (.slice ((rR t st).map Dg.enc) .none):=by
 have hmx:maxLen=9223372036854775807:=z7
 have w1:IntKind.i64.wrap (st+(t.text.length:Int))=st+(t.text.length:Int):=aY z8 z8;refine dN (N:=69) Tryz.func110 rfl rfl z6 (by simp[St.bel,aZ.int]) (jK _ _) ?_;refine ZE (a2 dM w1) ?_;refine ZE (a5 y3 y9 dM nT w1) ?_;refine qB ?_;refine tL (a4 y3 y9 dM w1) ?_;refine ZI w1 (λbt17=> ?_) (λbt17=> ?_)
 ·
  have hx:rR t st= [gZ 1 st (st+t.text.length)]:=by unfold rR;rw[if_pos bt17]
  refine ZL [5] w1 ?_;refine ZE (a3 y3 nT w1) ?_;refine ZE (a3 rS nT w1) ?_;refine wQ ?_;refine wT ⟨.inr rfl,_,rfl, ?_⟩;rw[hx];rfl
 ·
  refine ZL [1,2,5] w1 ?_;refine ZE (a3 y3 dM w1) ?_;refine ZI w1 (λbt27=> ?_) (λbt27=> ?_)
  ·
   have hx:rR t st= [gZ 3 st (st+t.text.length)]:=by unfold rR;rw[if_neg (by rw[bt17];decide)];rw[if_pos bt27]
   refine ZE (a3 y3 nT w1) ?_;refine ZE (a3 rS nT w1) ?_;refine wQ ?_;refine wT ⟨.inr rfl,_,rfl, ?_⟩;rw[hx];rfl
  ·
   refine tL (a4 y3 y9 dM w1) ?_;refine ZI w1 (λbt32=> ?_) (λbt32=> ?_)
   ·
    have hx:rR t st= [gZ 5 st (st+t.text.length)]:=by unfold rR;rw[if_neg (by rw[bt17];decide)];rw[if_neg (by rw[bt27];decide)];rw[if_pos bt32]
    refine ZE (a3 y3 nT w1) ?_;refine ZL [5] w1 ?_;refine ZE (a3 rS nT w1) ?_;refine wQ ?_;refine wT ⟨.inr rfl,_,rfl, ?_⟩;rw[hx];rfl
   ·
    refine ZE (a3 y3 dM w1) ?_;refine ZI w1 (λbt43=> ?_) (λbt43=> ?_)
    ·
     have hx:rR t st=(jT t.text st (t.text.length-2)).2.1:=by unfold rR;rw[if_neg (by rw[bt17];decide)];rw[if_neg (by rw[bt27];decide)];rw[if_neg (by rw[bt32];decide)];rw[if_pos bt43]
     refine ZL [1,2] w1 ?_;refine ZT 3 (a3 y9 dM w1) ?_;refine ZP w1 aBg (aAy t.text st hm h0 h1 _) ?_;refine ZX w1 ?_;refine ZE w1 ?_;refine wQ ?_;refine wT ⟨.inr rfl,_,rfl, ?_⟩;rw[hx];rfl
    ·
     refine ZL [2,5] w1 ?_;refine ZE (a3 y3 dM w1) ?_;refine ZI w1 (λbt55=> ?_) (λbt55=> ?_)
     ·
      refine ZT 2 (a3 y9 dM w1) ?_;refine ZP w1 aBu (NI t.text hm _) ?_;refine ZX w1 ?_;refine ZE w1 ?_;refine ZI w1 (λbt65=> ?_) (λbt65=> ?_)
      ·
       have hx:rR t st= []:=by unfold rR;rw[if_neg (by rw[bt17];decide)];rw[if_neg (by rw[bt27];decide)];rw[if_neg (by rw[bt32];decide)];rw[if_neg (by rw[bt43];decide)];rw[if_pos bt55];rw[if_pos bt65]
       refine ZE w1 ?_;refine wQ ?_;refine wT ⟨.inr rfl,_,rfl, ?_⟩;rw[hx];rfl
      ·
       have hx:rR t st= [gZ 4 st (st+t.text.length)]:=by unfold rR;rw[if_neg (by rw[bt17];decide)];rw[if_neg (by rw[bt27];decide)];rw[if_neg (by rw[bt32];decide)];rw[if_neg (by rw[bt43];decide)];rw[if_pos bt55];rw[if_neg (by rw[bt65];decide)]
       refine qK ?_;refine ZE (a3 y3 nT w1) ?_;refine ZE (a3 rS nT w1) ?_;refine wQ ?_;refine wT ⟨.inr rfl,_,rfl, ?_⟩;rw[hx];rfl
     ·
      have hx:rR t st= []:=by unfold rR;rw[if_neg (by rw[bt17];decide)];rw[if_neg (by rw[bt27];decide)];rw[if_neg (by rw[bt32];decide)];rw[if_neg (by rw[bt43];decide)];rw[if_neg (by rw[bt55];decide)]
      refine ZE w1 ?_;refine wQ ?_;refine wT ⟨.inr rfl,_,rfl, ?_⟩;rw[hx];rfl
set_option maxRecDepth 4000
def lX(n:Nd)(t:St)(st:Int):Nd:=
 if((decide (t.kind=103)&&decide (n.ns<0))&&([2,3,4,5,6,8,9,11,13,14,15,16,18,31,32,34,44]:List Int).any (λx=>decide (n.kind=x)))=true then LV n t.text st
 else if decide (t.kind=105)=true then qJ n (wH t.text).1
 else if decide (t.kind=106)=true then KL n (jT t.text st (t.text.length-2)).1
 else if(decide (t.text= [112,117,98])&&decide (t.kind=104))=true then qJ n (orI n.value 1)
 else if(decide (t.text= [109,117,116])&&decide (t.kind=104))=true then qJ n (orI n.value 1)
 else if(decide (t.text= [42])&&decide (n.kind=2))=true then qJ n (orI n.value 2)
 else if(decide (t.text= [116,114,117,101])&&decide (n.kind=28))=true then qJ n 1
 else if(decide (t.kind=107)&&(decide (n.kind=39)||decide (n.kind=40)))=true then(if decide (n.text= [])=true then KL n t.text else n)
 else n
theorem nD{H:aC}{i:Nat}(o:AObj)(L:aC):Fr [i] [i] H (H.set i o++L):=⟨z6,λid h1 h2=>by rw[aSv (by simpa using h1),aS0 (λe=>h2 (by simp[e]))],λid h _=>h⟩
theorem nH{H:aC}{i:Nat}(L:aC):Fr [i] [i] H (H++L):=⟨z6,λid h1 h2=>by rw[aSv h1],λid h _=>h⟩
theorem aDy{H:aC}{i:Nat}(h:i<H.length)(o:AObj)(L:aC):(H.set i o++L)[i]? =some o:=by rw[aSv (by simpa using h),aSz h]
theorem aCm{H:aC}{i:Nat}{n:Nd}{cv:PV}(hr:H[i]? =some (zE n cv))(t:St)(st:Int)(hm:t.text.length<=2000)(h0:0<=st)(h1:st<=1000000):aN Tryz.prog 111 [.optr i 0,t.enc,aB st] H λr H'=>r= .tup []/\Fr [i] [i] H H'/\H'[i]? =some (zE (lX n t st) cv):=by
 have hmx:maxLen=9223372036854775807:=z7
 have hil:=lG hr;have qr:=aA hr;have qs:∀L o,(H++L).set i o=H.set i o++L:=λL o=>XT hil;have qs2:∀o L o2,(H.set i o++L).set i o2=H.set i o2++L:=λo L o2=>by rw[List.set_append_left _ _ (by simpa using hil),aUe]
 have qg:=aDy hil;have nB:(i=H.length)=False:=by simp;omega
 have nB2:∀k,(i=H.length+k)=False:=λk=>by simp;omega
 have nB3:(H.length=i)=False:=by simp;omega
 refine aF (N:=153) Tryz.func111 rfl rfl z6 λhb'=> ?_;have x1:=a5 hr qr qs qs2 (a4 qg nB nB2 nB3);refine ZE (a2 dM x1) ?_;refine qB ?_;refine wQ ?_;refine dA (by kernel_rfl) ?_;refine AZ 11 (a4 y3 bY dM x1) ?_;refine ZpK x1 aMb (λhc=>aD4 _) ?_;refine AZ 4 (a3 y3 bY x1) ?_;refine ZpK x1 aP7 (λhc=>aNw [2,3,4,5,6,8,9,11,13,14,15,16,18,31,32,34,44] n.kind z7 _) ?_;refine FM x1 ?_;refine ZI x1 (λbt6=> ?_) (λbt6=> ?_)
 ·
  have hx:lX n t st=LV n t.text st:=by unfold lX;rw[if_pos bt6]
  refine ZL [0,2,4] x1 ?_;refine ZE (a5 y3 y9 bY dM x1) ?_;refine⟨.inl rfl,_,rfl, ?_⟩;rw[hx];first|exact⟨rfl,nD _ _,qg _ _⟩|exact⟨rfl,nH _,qr _⟩
 ·
  refine ZL [0,2,4] x1 ?_;refine ZE (a3 y3 dM x1) ?_;refine ZI x1 (λbt34=> ?_) (λbt34=> ?_)
  ·
   have hx:lX n t st=qJ n (wH t.text).1:=by unfold lX;rw[if_neg (by rw[bt6];decide)];rw[if_pos bt34]
   refine ZT 3 (a3 y9 dM x1) ?_;refine ZP x1 aBu (NI t.text hm _) ?_;refine ZX (a3 y3 bY x1) ?_;refine⟨.inl rfl,_,rfl, ?_⟩;rw[hx];first|exact⟨rfl,nD _ _,qg _ _⟩|exact⟨rfl,nH _,qr _⟩
  ·
   refine ZE (a3 y3 dM x1) ?_;refine ZI x1 (λbt47=> ?_) (λbt47=> ?_)
   ·
    have hx:lX n t st=KL n (jT t.text st (t.text.length-2)).1:=by unfold lX;rw[if_neg (by rw[bt6];decide)];rw[if_neg (by rw[bt34];decide)];rw[if_pos bt47]
    refine ZT 4 (a3 y9 dM x1) ?_;refine ZP x1 aBg (aAy t.text st hm h0 h1 _) ?_;refine ZX (a3 y9 bY x1) ?_;refine⟨.inl rfl,_,rfl, ?_⟩;rw[hx];first|exact⟨rfl,nD _ _,qg _ _⟩|exact⟨rfl,nH _,qr _⟩
   ·
    refine tL (a4 y3 y9 dM x1) ?_;refine ZI x1 (λbt61=> ?_) (λbt61=> ?_)
    ·
     have hx:lX n t st=qJ n (orI n.value 1):=by unfold lX;rw[if_neg (by rw[bt6];decide)];rw[if_neg (by rw[bt34];decide)];rw[if_neg (by rw[bt47];decide)];rw[if_pos bt61]
     refine ZL [0] x1 ?_;refine ZT 4 (a3 y3 bY x1) ?_;refine iM (mL x1) (pR (op:=.or) (m:=n.value) (n:=1) (r:=orI n.value 1) rfl (.inl ⟨rfl,rfl⟩) z7 z7 (fV x1) (fV x1)) ?_;refine ZX (a3 y3 bY x1) ?_;refine⟨.inl rfl,_,rfl, ?_⟩;rw[hx];first|exact⟨rfl,nD _ _,qg _ _⟩|exact⟨rfl,nH _,qr _⟩
    ·
     refine ZL [0,4] x1 ?_;refine tL (a4 y3 y9 dM x1) ?_;refine ZI x1 (λbt77=> ?_) (λbt77=> ?_)
     ·
      have hx:lX n t st=qJ n (orI n.value 1):=by unfold lX;rw[if_neg (by rw[bt6];decide)];rw[if_neg (by rw[bt34];decide)];rw[if_neg (by rw[bt47];decide)];rw[if_neg (by rw[bt61];decide)];rw[if_pos bt77]
      refine ZT 4 (a3 y3 bY x1) ?_;refine iM (mL x1) (pR (op:=.or) (m:=n.value) (n:=1) (r:=orI n.value 1) rfl (.inl ⟨rfl,rfl⟩) z7 z7 (fV x1) (fV x1)) ?_;refine ZX (a3 y3 bY x1) ?_;refine⟨.inl rfl,_,rfl, ?_⟩;rw[hx];first|exact⟨rfl,nD _ _,qg _ _⟩|exact⟨rfl,nH _,qr _⟩
     ·
      refine tL (a5 y3 y9 bY dM x1) ?_;refine ZI x1 (λbt93=> ?_) (λbt93=> ?_)
      ·
       have hx:lX n t st=qJ n (orI n.value 2):=by unfold lX;rw[if_neg (by rw[bt6];decide)];rw[if_neg (by rw[bt34];decide)];rw[if_neg (by rw[bt47];decide)];rw[if_neg (by rw[bt61];decide)];rw[if_neg (by rw[bt77];decide)];rw[if_pos bt93]
       refine ZL [0] x1 ?_;refine ZT 4 (a3 y3 bY x1) ?_;refine iM (mL x1) (pR (op:=.or) (m:=n.value) (n:=2) (r:=orI n.value 2) rfl (.inl ⟨rfl,rfl⟩) z7 z7 (fV x1) (fV x1)) ?_;refine ZX (a3 y3 bY x1) ?_;refine⟨.inl rfl,_,rfl, ?_⟩;rw[hx];first|exact⟨rfl,nD _ _,qg _ _⟩|exact⟨rfl,nH _,qr _⟩
      ·
       refine ZL [0,4] x1 ?_;refine tL (a5 y3 y9 bY dM x1) ?_;refine ZI x1 (λbt111=> ?_) (λbt111=> ?_)
       ·
        have hx:lX n t st=qJ n 1:=by unfold lX;rw[if_neg (by rw[bt6];decide)];rw[if_neg (by rw[bt34];decide)];rw[if_neg (by rw[bt47];decide)];rw[if_neg (by rw[bt61];decide)];rw[if_neg (by rw[bt77];decide)];rw[if_neg (by rw[bt93];decide)];rw[if_pos bt111]
        refine ZE (a3 y3 bY x1) ?_;refine⟨.inl rfl,_,rfl, ?_⟩;rw[hx];first|exact⟨rfl,nD _ _,qg _ _⟩|exact⟨rfl,nH _,qr _⟩
       ·
        refine tL (a4 y3 bY dM x1) ?_;refine ZI x1 (λbt125=> ?_) (λbt125=> ?_)
        ·
         refine ZL [0,4] x1 ?_;refine ZE (a3 y9 bY x1) ?_;refine ZI x1 (λbt147=> ?_) (λbt147=> ?_)
         ·
          have hx:lX n t st=KL n t.text:=by unfold lX;rw[if_neg (by rw[bt6];decide)];rw[if_neg (by rw[bt34];decide)];rw[if_neg (by rw[bt47];decide)];rw[if_neg (by rw[bt61];decide)];rw[if_neg (by rw[bt77];decide)];rw[if_neg (by rw[bt93];decide)];rw[if_neg (by rw[bt111];decide)];rw[if_pos bt125];rw[if_pos bt147]
          refine ZE (a4 y9 bY dM x1) ?_;refine⟨.inl rfl,_,rfl, ?_⟩;rw[hx];first|exact⟨rfl,nD _ _,qg _ _⟩|exact⟨rfl,nH _,qr _⟩
         ·
          have hx:lX n t st=n:=by unfold lX;rw[if_neg (by rw[bt6];decide)];rw[if_neg (by rw[bt34];decide)];rw[if_neg (by rw[bt47];decide)];rw[if_neg (by rw[bt61];decide)];rw[if_neg (by rw[bt77];decide)];rw[if_neg (by rw[bt93];decide)];rw[if_neg (by rw[bt111];decide)];rw[if_pos bt125];rw[if_neg (by rw[bt147];decide)]
          refine qK ?_;refine⟨.inl rfl,_,rfl, ?_⟩;rw[hx];first|exact⟨rfl,nD _ _,qg _ _⟩|exact⟨rfl,nH _,qr _⟩
        ·
         have hx:lX n t st=n:=by unfold lX;rw[if_neg (by rw[bt6];decide)];rw[if_neg (by rw[bt34];decide)];rw[if_neg (by rw[bt47];decide)];rw[if_neg (by rw[bt61];decide)];rw[if_neg (by rw[bt77];decide)];rw[if_neg (by rw[bt93];decide)];rw[if_neg (by rw[bt111];decide)];rw[if_neg (by rw[bt125];decide)]
         refine qK ?_;refine⟨.inl rfl,_,rfl, ?_⟩;rw[hx];first|exact⟨rfl,nD _ _,qg _ _⟩|exact⟨rfl,nH _,qr _⟩
set_option maxRecDepth 4000
def yD(beg:Bool)(n:Nd)(a b:Int):Nd:=if beg=true then fC n n.st (max n.en b)else fC n a (max b b)
theorem UA{H:aC}{i:Nat}{n:Nd}{cv:PV}(hr:H[i]? =some (zE n cv)){ib:Nat}{beg:Bool}(hb:H[ib]? =some (.row [.bool beg]))(hne:i≠ib)(a b:Int):aN Tryz.prog 109 [aB a,aB b, .optr ib 0, .optr i 0] H λr H'=>r= .tup []/\Fr [i,ib] [i,ib] H H'/\H'[i]? =some (zE (yD beg n a b) cv)/\H'[ib]? =some (.row [.bool true]):=by
 have hil:=lG hr;have hbl:=lG hb;have c1:∀o,(H.set i o)[i]? =some o:=λo=>aSz hil;have c2:∀o o2,(H.set i o).set i o2=H.set i o2:=λo o2=>aUe ..;have c3:∀o,(H.set i o)[ib]? =some (.row [.bool beg]):=λo=>by rw[aS0 hne];exact hb
 have c4:∀o o2,((H.set i o).set ib o2)[i]? =some o:=λo o2=>by rw[aS0 (Ne.symm hne)];exact c1 o
 have c5:∀o o2 o3,((H.set i o).set ib o2).set i o3=(H.set i o3).set ib o2:=λo o2 o3=>by rw[List.set_comm _ _ (Ne.symm hne),c2]
 have nI:(i=H.length)=False:=by simp;omega
 have nB:(ib=H.length)=False:=by simp;omega
 refine aF (N:=17) Tryz.func109 rfl rfl z6 λhb'=> ?_;have x1:=a5 hr hb c1 c2 (a5 c3 c4 c5 nI nB);refine ZE (a2 y4 x1) ?_;refine ZI x1 (λbt7=> ?_) (λbt7=> ?_)
 ·
  have hbg:beg=false:=by cases beg<;>first|rfl| (simp at bt7)
  subst hbg;have hx:yD false n a b=fC n a (max b b):=rfl;refine ZE (a4 y3 y4 bY x1) ?_;refine ZE (a3 y3 bY x1) ?_;refine⟨.inl rfl,_,rfl, ?_⟩;rw[hx];first|exact⟨rfl,⟨z6,λid h1 h2=>by rw[aS0 (λe=>h2 (by simp[e]))],λid h _=>h⟩,c1 _,c3 _⟩|exact⟨rfl,⟨z6,λid h1 h2=>by rw[aS0 (λe=>h2 (by simp[e])),aS0 (λe=>h2 (by simp[e]))],λid h _=>h⟩,c4 _ _,aSz (by simpa using hbl)⟩
 ·
  have hbg:beg=true:=by cases beg<;>first|rfl| (simp at bt7)
  subst hbg;have hx:yD true n a b=fC n n.st (max n.en b):=rfl;refine qK ?_;refine ZE (a3 y3 bY x1) ?_;refine⟨.inl rfl,_,rfl, ?_⟩;rw[hx];first|exact⟨rfl,⟨z6,λid h1 h2=>by rw[aS0 (λe=>h2 (by simp[e]))],λid h _=>h⟩,c1 _,c3 _⟩|exact⟨rfl,⟨z6,λid h1 h2=>by rw[aS0 (λe=>h2 (by simp[e])),aS0 (λe=>h2 (by simp[e]))],λid h _=>h⟩,c4 _ _,aSz (by simpa using hbl)⟩
def uE(c:St):Bool:=(!decide (c.text= [])&& !decide (c.kind=101))&& !decide (c.kind=102)
def GG(src:List UInt8)(k:Int)(n:Nd)(ds:List Dg):Option (Nd×List Dg):=
 if decide (k=60)=true then(match n.kids with|c::_=>some (fC c n.st n.en,ds)| []=>none)
 else if decide (k=46)=true then(if 0<=n.st/\n.st<=n.en/\n.en<=src.length then some (⟨46,0,(src.take n.en.toNat).drop n.st.toNat,n.st,n.en, -1,[]⟩,ds++ [gZ (if decide (n.st=n.en)=true then 1 else 2) n.st n.en])else none)
 else some (n,ds)
mutual
def BS(src:List UInt8):St->Nat->Option (Nd×List Dg)
 | .mk k _ ch,o=>(mI src ch o ⟨k,0,[],o,o, -1,[]⟩ false []).bind λr=>GG src k r.2.1 r.2.2.2
def mI(src:List UInt8):List St->Nat->Nd->Bool->List Dg->Option (Nat×Nd×Bool×List Dg)
 | [],o,n,b,ds=>some (o,n,b,ds)
 |c::cs,o,n,b,ds=>
  if decide (c.kind>=100)=true then
   (if uE c=true then mI src cs (o+kQ c) (yD b (lX n c o) o (o+c.text.length:Nat)) true (ds++rR c o)
   else mI src cs (o+kQ c) (lX n c o) b (ds++rR c o))
  else(BS src c o).bind λr=>mI src cs (o+kQ c) (yD b (mW n r.1) r.1.st r.1.en) true (ds++r.2)
end
theorem SH(src:List UInt8)(t:St)(o:Nat):BS src t o=(mI src t.ch o ⟨t.kind,0,[],o,o, -1,[]⟩ false []).bind λr=>GG src t.kind r.2.1 r.2.2.2:=by cases t;rw[BS];rfl
theorem sZ(src:List UInt8)(c:St)(cs:List St)(o:Nat)(n:Nd)(b:Bool)(ds:List Dg):mI src (c::cs) o n b ds=
  if decide (c.kind>=100)=true then
   (if uE c=true then mI src cs (o+kQ c) (yD b (lX n c o) o (o+c.text.length:Nat)) true (ds++rR c o)
   else mI src cs (o+kQ c) (lX n c o) b (ds++rR c o))
  else(BS src c o).bind λr=>mI src cs (o+kQ c) (yD b (mW n r.1) r.1.st r.1.en) true (ds++r.2):=by rw[mI]
theorem SP(t:St)(st:Int):(rR t st).length<=t.text.length+1:=by
 unfold rR
 split
 ·simp
 split
 ·simp
 split
 ·simp
 split
 ·have:=(CQ t.text st (t.text.length-2)).2;omega
 split
 ·split<;>simp
 ·simp
theorem oZ(b:Bool)(n:Nd)(x y:Int):(yD b n x y).kids=n.kids:=by unfold yD;split<;>rfl
theorem uU(n:Nd)(t:St)(st:Int):(lX n t st).kids=n.kids:=by
 unfold lX
 repeat' split
 all_goals rfl
theorem MS(n:Nd)(t:St)(st:Int):(lX n t st).kind=n.kind:=by
 unfold lX
 repeat' split
 all_goals rfl
theorem XR{src:List UInt8}{k:Int}{n m:Nd}{ds ds':List Dg}(h:GG src k n ds=some (m,ds')):ds'.length<=ds.length+1:=by
 unfold GG at h
 split at h
 ·split at h
  ·injection h with h;injection h with h1 h2;subst h2;omega
  ·cases h
 split at h
 ·split at h
  ·injection h with h;injection h with h1 h2;subst h2;simp
  ·cases h
 ·injection h with h;injection h with h1 h2;subst h2;omega
mutual
theorem MI(src:List UInt8):∀(t:St) (o:Nat) (m:Nd) (ds:List Dg),BS src t o=some (m,ds)->ds.length<=t.size+kQ t
 | .mk k x ch,o,m,ds,h=>by
  rw[BS]at h;obtain⟨⟨o2,n2,b2,d2⟩,h1,h2⟩:=oB h;have h3:=vP src ch o _ _ _ _ _ _ _ h1;have h4:ds.length<=d2.length+1:=XR h2;rw[St.size,kQ];simp only[aT5]at h3;omega
theorem vP(src:List UInt8):∀(ch:List St) (o:Nat) (n:Nd) (b:Bool) (ds:List Dg) (o2:Nat) (n2:Nd) (b2:Bool) (d2:List Dg),mI src ch o n b ds=some (o2,n2,b2,d2)->d2.length<=ds.length+bE ch+hM ch
 | [],o,n,b,ds,o2,n2,b2,d2,h=>by rw[mI]at h;injection h with h;injection h with _ h;injection h with _ h;injection h with _ h;subst h;omega
 |c::cs,o,n,b,ds,o2,n2,b2,d2,h=>by
  rw[sZ]at h;have ht:=SP c o;have hw:=xS c;have hs:1<=c.size:=by cases c;rw[St.size];omega
  rw[bE,hM]
  split at h
  ·split at h
   ·have:=vP src cs _ _ _ _ _ _ _ _ h;rw[aTi]at this;omega
   ·have:=vP src cs _ _ _ _ _ _ _ _ h;rw[aTi]at this;omega
  ·obtain⟨⟨m,dm⟩,h1,h2⟩:=oB h;have h3:=MI src c _ _ _ h1;simp only at h2;have:=vP src cs _ _ _ _ _ _ _ _ h2;rw[aTi]at this;omega
end
set_option maxRecDepth 4000
set_option maxHeartbeats 4000000
theorem TV{us vs:List Dg}{id:Nat}{tl:jM}(hb:(us.length+vs.length)*48<=2^47)(fresh:Nat)(H:aC)(hH:H[id]? =some (.buf us.length 5))(hne:vs≠ []):
  dQ ⟨true,5,48⟩ fresh H (.slice (us.map Dg.enc) (.tok id)) (.slice (vs.map Dg.enc) tl)=some (.slice ((us++vs).map Dg.enc) (.tok id),some (id, .buf (us.length+vs.length) 5)):=by
 have em:maxLen=9223372036854775807:=z7
 have:=zX (i:=⟨true,5,48⟩) (fr:=fresh) (H:=H) (es:=us.map Dg.enc) (xs:=vs.map Dg.enc) (id:=id) (tl:=tl) (by simpa using hH) (by simpa using hne) (by simpa using hb) (by simp;omega) (λe he=>by obtain⟨v,_,rfl⟩:=aTq.1 he;exact v.enc_len)
  (λe he=>by obtain⟨v,_,rfl⟩:=aTq.1 he;exact⟨v.enc_len,by rw[Dg.enc_cells];rfl⟩) z7
 simpa using this
theorem GQ{N nb:Nat}{ops:Array Oper}{Q:dG}{o:Oper}{l:List Oper}{T:aD}{H:aC}{x y:Operand}{us vs:List Dg}{id:Nat}{tl:jM}(hw:aU ops.toList T N o=some true)(hok:cK N o.op=true)(hop:o.op= .call ⟨.builtin .append, #[x,y], #[38,38]⟩)(hx:bT T x= .slice (us.map Dg.enc) (.tok id))(hy:bT T y= .slice (vs.map Dg.enc) tl)
  (hH:H[id]? =some (.buf us.length 5)) (hb:(us.length+vs.length)*48<=2^47) (h:∀H':aC,H'[id]? =some (.buf (us++vs).length 5)->(∀j,j≠id->H'[j]? =H[j]?)->H'.length=H.length->bH Tryz.prog N nb ops Q l (bU T o.dst (.slice ((us++vs).map Dg.enc) (.tok id))) H'):bH Tryz.prog N nb ops Q (o::l) T H:=by
 by_cases hv:vs= []
 ·subst hv;have hk:=h H (by rw[aT4];exact hH) (λ_ _=>rfl) rfl;rw[aT4]at hk;refine CJ false (v:=.slice (us.map Dg.enc) (.tok id)) (e:=none) hw hok ?_ rfl hk;rw[hop];simp only[jO,jN,seval,rS,nT,hx,hy,aT6,dQ]
 ·refine CJ false (e:=some (id, .buf (us.length+vs.length) 5)) (H':=H.set id (.buf (us.length+vs.length) 5)) hw hok ?_ (if_neg (by have:=lG hH;omega)) (h _ ?_ ?_ ?_)
  ·rw[hop];simp only[jO,jN,seval,rS,nT,hx,hy,TV hb _ _ hH hv]
  ·rw[aTi];exact aSz (lG hH)
  ·exact λj hj=>aS0 (Ne.symm hj)
  ·exact lS
theorem aEt{N:Nat}{ops:Array Oper}{Q:dG}{k:Nat}{o:Oper}{l:List Oper}{T:aD}{G:Nat->Bool}{H:aC}{x:Operand}{cv:PV}{xs:List Nd}{kid:List Nat}(hop:o.op= .call ⟨.builtin .len, #[x], #[29]⟩)(hc:dV ops.toList T G N o=some true)(hg:o.op.operands.toList.all (zH true G)=true)(okx:aQ N x=true)(hx:bT T x=cv)(hk:kJ Nd.enc 7 H cv xs kid)
  (h:DP Tryz.prog N ops Q (k+1) l (eZ (.tup []) (bU T o.dst (.int .i64 (xs.length:Int))) (vV G o.dst true)) H):DP Tryz.prog N ops Q k (o::l) (eZ (.tup []) T G) H:=by
 refine rP hc hg (λE a ho hvs=> ?_) h;have rx:=hvs x (by rw[hop];simp[Op.operands,Call.operands]) okx;rw[hx]at rx;have hs:∃ad c,a.eval x= .slice ad xs.length c:=by
  rcases hk.cases2 with⟨rfl,rfl,_⟩| ⟨ic,c,rest,rfl,_⟩
  ·obtain⟨ad,h1,_⟩:=BH (P:=Tryz.prog) (sz:=7) (es:= []) rfl z6 rx;exact⟨ad,0,h1⟩
  ·generalize a.eval x=v at rx;cases rx;exact⟨_,_,rfl⟩
 obtain⟨ad,c,hv⟩:=hs;refine⟨.int .i64 (xs.length:Int), ?_, .int _ _⟩;unfold execOp;rw[hop];simp only[resolve,invoke,builtin,aS4,aS7,aS5,List.map_toArray,aTg,aT6,hv];rw[run_len_slice (t:=29) (h:=Tryz.underlying29)];rfl
theorem aB4{P:Program}{N nb:Nat}{Q:dG}{c:Code}{T:aD}{H:aC}{j:Nat}{n:Nd}{cv:PV}{kid:List Nat}(hj:H[j]? =some (zE n cv))(hc:kJ Nd.enc 7 H cv n.kids kid)(hjk:j∉kid)
  (h:∀(H2:aC) (kv:PV),H2.length=H.length->(∀x,x≠j->x∉kid->H2[x]? =H[x]?)->H2[j]? =some (zE n kv)->kv.drop1= .slice (n.kids.map Nd.enc) .none->(n.kids≠ []->kv= .slice (n.kids.map Nd.enc) .none)->eA P N nb c Q T H2):eA P N nb c Q T H:=by
 rcases hc.cases2 with⟨hkn,rfl,rfl⟩| ⟨ic,c',rest',rfl,rfl,hH,hcl',hmx'⟩
 ·exact h H _ rfl (λ_ _ _=>rfl) hj (by rw[hkn];rfl) (λq=>absurd hkn q)
 ·obtain⟨es,he1,he2,he3⟩:=JQ 7 (c'-n.kids.length) rest' z8;have hne:j≠ic:=λe=>hjk (by simp[e]);have hrow:H[ic]? =some (.row (aH (n.kids.map Nd.enc++es))):=by rw[hH,cN,he2]
  refine zO ic n.kids.length 7 j (n.kids.map Nd.enc++es) hrow z6 (λe he=> ?_) hj hne (cs':= [.int .i64 n.kind, .int .i64 n.value, .str n.text, .int .i64 n.st, .int .i64 n.en, .int .i64 n.ns, .slice (n.kids.map Nd.enc) .none]) rfl (λi h1 h2=> ?_) ?_
  ·rcases aTs.1 he with he|he
   ·obtain⟨v,_,rfl⟩:=aTq.1 he;exact v.enc_len
   ·exact he3 e he
  ·match i,h1,h2 with
   |0,_,_=>exact .same _
   |1,_,_=>exact .same _
   |2,_,_=>exact .same _
   |3,_,_=>exact .same _
   |4,_,_=>exact .same _
   |5,_,_=>exact .same _
   |6,_,_=>
    have:(n.kids.map Nd.enc++es).take n.kids.length=n.kids.map Nd.enc:=by rw[List.take_append_of_le_length z6,aUf z6]
    have h:=Fz.msl (id:=ic) (k:=n.kids.length) (es:=n.kids.map Nd.enc++es) c' z8;rw[this]at h;exact h
  ·exact h _ _ z6 (λx h1 h2=>by rw[aS0 (Ne.symm h1),aS0 (λe=>h2 (by simp[e]))]) (aSz (by simpa using lG hj)) rfl (λ_=>rfl)
theorem aAq{src:List UInt8}(hsrc:src.length<=2000):∀(k:Nat) (t:St),t.size<=k->k<=1000000->∀(o:Nat) (m:Nd) (ds:List Dg),BS src t o=some (m,ds)->o+kQ t<=2000->PC Tryz.prog 60 [.str src,t.enc,aB (o:Int)] (.tup [m.enc, .slice (ds.map Dg.enc) .none])
 |0,t,h,_,_,_,_,_,_=>by cases t;simp[St.size]at h
 |k+1,t,h,hk,o,m,ds,hm,hw=>by
  have hks:t.size=1+bE t.ch:=by cases t;simp only[St.size,St.ch]
  have hkl:=iR t.ch;have hmx:maxLen=9223372036854775807:=z7
  have hwe:=xS t;rw[SH]at hm;obtain⟨⟨o2,n2,b2,d2⟩,hkids,hfin⟩:=oB hm;simp only at hfin;have hgo:=aH7;refine dN (N:=138) Tryz.func60 rfl rfl z6 (by simp[St.bel,aZ.int,aZ.str]) (.tup _ (by simp[jK,Nd.bel])) ?_;refine ZE (a2 bY dM) ?_;refine ZE (a3 y3 bY dM) ?_;refine ZE y4 ?_;refine uA ?_;refine uA ?_;refine ZE (a2 nG dM) ?_;refine wQ ?_;refine sO 11 5 (es:= []) (Zny tN) ?_;refine fB ?_;refine eC (σ:=Nat×Nat×Nd×Bool×List Dg) (λ(z:Nat×Nat×Nd×Bool×List Dg)=> [(0, .str src),(2,aB (z.2.1:Int)),(4, .optr 0 0),(6, .optr 1 0),(8, .optr 2 0),(10, .fn (.func 109) [] [.optr 3 0, .optr 2 0]),(11, .slice (z.2.2.2.2.map Dg.enc) (.tok 4)),(25, .slice (t.ch.map St.enc) .none),(26,aB (t.ch.length:Int)),(27,aB (z.1:Int))]) (λ(z:Nat×Nat×Nd×Bool×List Dg)=>λH1=>z.1<=t.ch.length/\mI src (t.ch.drop z.1) z.2.1 z.2.2.1 z.2.2.2.1 z.2.2.2.2=some (o2,n2,b2,d2)/\z.2.1+hM (t.ch.drop z.1)<=2000/\z.2.2.2.2.length<=1100000*z.1/\z.2.2.1.kids.length<=z.1/\H1[0]? =some (.row [.int .i64 t.kind, .str t.text, .slice (t.ch.map St.enc) .none])/\H1[1]? =some (BL)/\(∃cv kid,H1[2]? =some (zE z.2.2.1 cv)/\kJ Nd.enc 7 H1 cv z.2.2.1.kids kid/\∀x∈kid,5<=x)/\H1[3]? =some (.row [.bool z.2.2.2.1])/\H1[4]? =some (.buf z.2.2.2.2.length 5)) (λ(z:Nat×Nat×Nd×Bool×List Dg)=>t.ch.length-z.1) ((0,o,(Nd.mk t.kind 0 [] (o:Int) (o:Int) (-1) []),false,[])) (Zt tN) (⟨aTn _,hkids,by simp only[aUh];omega,z6,by simp[Nd.kids],rfl,rfl,⟨.slice [] .full,[],by simp[Nd.kind,Nd.value,Nd.text,Nd.st,Nd.en,Nd.ns], .nil,λx hx=>by cases hx⟩,rfl,rfl⟩) ?_;intro z H1 hg;obtain⟨j,p,n,b,d1⟩:=z;obtain⟨hj,hk1,hw1,hd1,hkl1,ht1,hz1,⟨cv,kid,hn1,hc1,hx1⟩,hb1,hf1⟩:=hg;simp only at hj hk1 hw1 hd1 hkl1 ht1 hz1 hn1 hc1 hb1 hf1;rcases aSk j t.ch.length with hi|hi
  ·
   have gi:=bS hi;have ge:=eH St.enc hi;have gl:decide ((j:Int)<(t.ch.length:Int))=true:=decide_eq_true z8;have gwj:IntKind.i64.wrap ((j:Int)+1)=((j+1:Nat):Int):=by rw[aY z8 z8];omega
   have hmem:t.ch[j]∈t.ch:=aTk hi;have hsa:=St.size_ch (t:=t) hmem;have hdw:hM (t.ch.drop j)=kQ t.ch[j]+hM (t.ch.drop (j+1)):=by rw[aUc hi,hM]
   rw[aUc hi,sZ]at hk1;obtain⟨c,hc⟩:∃c,c=t.ch[j]:=⟨_,rfl⟩;rw[<-hc]at ge hmem hsa hdw hk1;have hcw:=xS c;have h5:=lG hf1;have w1:IntKind.i64.wrap ((p:Int)+(kQ c:Int))=((p+kQ c:Nat):Int):=by rw[aY z8 z8];omega
   have w2:IntKind.i64.wrap ((p:Int)+(c.text.length:Int))=((p+c.text.length:Nat):Int):=by rw[aY z8 z8];omega
   have qf1:=aA hf1;have qs4:∀L o,(H1++L).set 4 o=H1.set 4 o++L:=λL o=>XT h5;have hdl:=SP c (p:Int);have n4:(H1.length=4)=False:=by simp;omega
   have n0:(4=H1.length)=False:=by simp;omega
   have n3:(H1.length=3)=False:=by simp;omega
   have x1:=a5 ht1 hz1 hn1 hb1 (a5 hf1 gi ge gl (a5 gwj w1 w2 qf1 (a4 qs4 n4 n0 n3)));refine ZE (a2 y3 x1) ?_;refine ZG x1 ?_;refine qK ?_;refine qB ?_;refine ZE (a3 nG dM x1) ?_;refine ZE (a3 y3 dM x1) ?_;refine ZI x1 (λbt33=> ?_) (λbt33=> ?_)
   ·
    rw[if_pos bt33]at hk1;refine ZT 3 (a2 dM x1) ?_;refine ZP x1 aKr (aFb c (p:Int) z8 z8 z8 _) ?_;refine GQ (us:=d1) (vs:=rR c (p:Int)) (id:=4) (mL tN) z7 rfl (KU tN) (KU tN) (aA hf1 _) z8 ?_;intro HB e1 e2 e3;refine ZX x1 ?_;refine bG (λH2=>H2[0]? =some (.row [.int .i64 t.kind, .str t.text, .slice (t.ch.map St.enc) .none])/\H2[1]? =some (BL)/\H2[2]? =some (zE n cv)/\kJ Nd.enc 7 H2 cv n.kids kid/\H2[3]? =some (.row [.bool b])/\H2[4]? =some (.buf (d1++rR c (p:Int)).length 5)/\H2[H1.length]? =some (.row [.int .i64 c.kind, .str c.text, .slice (c.ch.map St.enc) .none])/\H2.length=H1.length+1) ?_ ?_
    ·exact⟨(e2 0 z7).trans (aA ht1 _),(e2 1 z7).trans (aA hz1 _),(e2 2 z7).trans (aA hn1 _),(hc1.app _).fr (λx hx=>e2 x (by have:=hx1 x hx;omega)),(e2 3 z7).trans (aA hb1 _),e1,(e2 _ z8).trans z6,by rw[e3];simp⟩
    rintro H2 ⟨ht2,hz2,hn2,hc2,hb2,hf2,hM2,hl2⟩;have qM2:=aA hM2;rcases id hl2 with hl2'
    ·
     have x2:=a4 hn2 hM2 qM2 x1;refine ZT 2 (a2 dM x2) ?_;refine ZA x2 aIy (aCm (i:=2) (n:=n) (cv:=cv) hn2 c (p:Int) z8 z8 z8) ?_;rintro _ H3 ⟨rfl,g3,hn3⟩;have hl3:=g3.len;have ht3:H3[0]? =some (.row [.int .i64 t.kind, .str t.text, .slice (t.ch.map St.enc) .none]):=by rw[g3.same _ z8 z6];exact ht2
     have hz3:H3[1]? =some (BL):=by rw[g3.same _ z8 z6];exact hz2
     have hb3:H3[3]? =some (.row [.bool b]):=by rw[g3.same _ z8 z6];exact hb2
     have hf3:H3[4]? =some (.buf (d1++rR c (p:Int)).length 5):=by rw[g3.same _ z8 z6];exact hf2
     have hM3:H3[H1.length]? =some (.row [.int .i64 c.kind, .str c.text, .slice (c.ch.map St.enc) .none]):=by rw[g3.same _ z8 (by simp;omega)];exact hM2
     have hc3:kJ Nd.enc 7 H3 cv (lX n c (p:Int)).kids kid:=by rw[uU];exact hc2.fr (λx hx=>g3.same x (by have:=hc1.lt x hx;omega) (by have:=hx1 x hx;simp;omega))
     have qM3:=aA hM3;refine oN ?_;have x3:=a3 hM3 qM3 x2;refine ZL [0,2,4,6,8,10,11,13,25,26,27] x3 ?_;refine tL (a4 y3 y9 dM x3) ?_;refine ZI x3 (λbt54=> ?_) (λbt54=> ?_)
     ·
      have hv:uE c=true:=by unfold uE;first|exact bt54|simpa using bt54
      rw[if_pos hv]at hk1;refine ZT 7 (a4 y3 y9 dM x3) ?_;refine ZA x3 (by assumption) (UA (i:=2) (n:=lX n c (p:Int)) (cv:=cv) hn3 (ib:=3) (beg:=b) hb3 z7 (p:Int) ((p+c.text.length:Nat):Int)) ?_;rintro _ H4 ⟨rfl,g4,hn4,hb4⟩;have hl4:=g4.len;have hM4:H4[H1.length]? =some (.row [.int .i64 c.kind, .str c.text, .slice (c.ch.map St.enc) .none]):=by rw[g4.same _ z8 (by simp;omega)];exact hM3
      have qM4:=aA hM4;refine oN ?_;refine ZL [0,2,4,6,8,10,11,13,25,26,27] (a3 hM4 qM4 x3) ?_;refine ZT 2 (a4 dM hM4 qM4 x3) ?_;refine ZP (a3 hM4 qM4 x3) JB (CH c.size c (aSl _) z8 z8 _) ?_;refine ZX (a4 y3 hM4 qM4 x3) ?_;refine ZE (a4 y3 hM4 qM4 x3) ?_
      try simp only[aW,aO]
      exact⟨(j+1,p+kQ c,yD b (lX n c (p:Int)) p (p+c.text.length:Nat),true,d1++rR c (p:Int)),by show t.ch.length- (j+1)<t.ch.length-j;omega,ZV,hi,hk1,by simp only;omega,by simp only[aTi];omega,by rw[oZ,uU];simp only;omega,by rw[g4.same _ z8 z6];exact ht3,by rw[g4.same _ z8 z6];exact hz3,⟨cv,kid,hn4,by rw[oZ];exact(hc3.fr (λx hx=>g4.same x (by have:=hc1.lt x hx;omega) (by have:=hx1 x hx;simp;omega))),hx1⟩,hb4,by rw[g4.same _ z8 z6];exact hf3⟩
     ·
      have hv:uE c=false:=by unfold uE;first|exact bt54|simpa using bt54
      rw[if_neg (by rw[hv];decide)]at hk1;refine qK ?_;refine ZT 2 (a2 dM x3) ?_;refine ZP x3 JB (CH c.size c (aSl _) z8 z8 _) ?_;refine ZX (a2 y3 x3) ?_;refine ZL [0,2,4,6,8,10,11,25,26,27] x3 ?_;refine ZE (a2 y3 x3) ?_
      try simp only[aW,aO]
      exact⟨(j+1,p+kQ c,lX n c (p:Int),b,d1++rR c (p:Int)),by show t.ch.length- (j+1)<t.ch.length-j;omega,ZV,hi,hk1,by simp only;omega,by simp only[aTi];omega,by rw[uU];simp only;omega,ht3,hz3,⟨cv,kid,hn3,hc3,hx1⟩,hb3,hf3⟩
   ·
    rw[if_neg (by rw[bt33];simp)]at hk1;obtain⟨⟨m3,d3⟩,hnode,hk1⟩:=oB hk1;simp only at hk1;refine ZT 3 (a2 dM x1) ?_;refine ZP x1 aHb (aAq hsrc k c z8 z8 p m3 d3 hnode z8 _) ?_;refine ZX (a2 bY x1) ?_;refine ZL [0,2,4,6,8,10,11,13,14,15,25,26,27] x1 ?_;refine bG (λH3=>H3[0]? =some (.row [.int .i64 t.kind, .str t.text, .slice (t.ch.map St.enc) .none])/\H3[1]? =some (BL)/\(∃cv kid,H3[2]? =some (zE n cv)/\kJ Nd.enc 7 H3 cv n.kids kid/\(∀x∈kid,5<=x)/\∀x∈kid,¬(x=H1.length\/x=H1.length+1))/\H3[3]? =some (.row [.bool b])/\H3[4]? =some (.buf d1.length 5)/\H3[H1.length]? =some (.row [.int .i64 c.kind, .str c.text, .slice (c.ch.map St.enc) .none])/\H3[H1.length+1]? =some (CE m3)) ?_ ?_
    ·exact⟨aA ht1 _,aA hz1 _,⟨cv,kid,aA hn1 _,hc1.app _,hx1,λx hx=>by have:=hc1.lt x hx;omega⟩,aA hb1 _,aA hf1 _,z6,z6⟩
    rintro H3 ⟨ht3,hz3,⟨cv3,kid3,hn3,hc3,hd3,hkn3⟩,hb3,hf3,hC3,hM3⟩;obtain⟨mid,hmid⟩:∃mid,mid=H1.length+1:=⟨_,rfl⟩;rw[<-hmid]at hM3 hkn3
    try rw[<-hmid]
    have hil3:=lG hn3;have hml3:=lG hM3;have hf3l:=lG hf3;have hC3l:=lG hC3;have qn3:=aA hn3;have qM3:=aA hM3

    ·
     refine wQ ?_;refine eK 0 (by kernel_rfl) ?_;refine gM 5 (bm:= [0,1,0,3,0,31,63,127,63,319]) (by kernel_rfl) z7 (by kernel_rfl) (by kernel_rfl) ?_;have x7:=a5 hn3 hM3 qn3 qM3 (a3 BU BV iT);refine AZ 3 (a3 zY bY x7) ?_;refine aEt rfl (Ze x7) (Zeo x7) z7 (KU x7) hc3 ?_;refine FM (a3 zY bY x7) ?_;refine kK (k:=5) (bm:= [0,1,0,3,0,31,63,127,63,319]) (by kernel_rfl) rfl (by kernel_rfl) (by kernel_rfl) ?_;refine sR (enc:=Nd.enc) (sz:=7) Nd.enc_len QA z7 (xs:=n.kids) (a:=⟨0,0,[],0,0,0,[]⟩) (mL x7) rfl z7 z7 (fV x7) (fV x7) hc3 DZ rfl (by show(_+1)*80<=_;omega) z8 (by rw[DZ];rfl) SI rfl ?_;intro cvA kidA HA hkA hcA hlA hsA;refine oN ?_;show kB _ _ _ _ _ _ _ _;rcases hkA.cases2 with⟨e,_⟩| ⟨ic3,c3,pI,rfl,rfl,hic3,hcl3,hmx3⟩
     ·simp at e
     obtain⟨RR,hRR⟩:∃RR,RR=aH ((n.kids++ [(⟨0,0,[],0,0,0,[]⟩:Nd)]).map Nd.enc)++pI:=⟨_,rfl⟩;rw[<-hRR]at hic3;simp only[aTi,aS2,aT5,aTh]at hcl3⊢;have lRR:RR.length=c3*7:=by rw[hRR,aTi,mQ];simp;omega
     have hb7:(n.kids.length*7+7<=c3*7)=True:=by simp;omega
     have gk:=bS (n:=n.kids.length+1) (i:=n.kids.length) z8;have gp:(0<((n.kids.length+1:Nat):Int))=True:=eq_true z8;have hb8:(7<=c3*7)=True:=by simp;omega
     have hicA:=lG hic3;have hicn:ic3≠2/\5<=ic3:=by
      rcases hcA ic3 z6 with h|h
      ·have:=hd3 ic3 h;exact⟨z8,this⟩
      ·exact⟨z8,z8⟩
     have knil:∀x,x<H3.length->x∉kid3->HA[x]? =H3[x]? :=hsA;have hnA:=(hsA _ (show 2<H3.length by omega) (λe=>by have:=hd3 _ e;omega)).trans hn3;have hlA2:=lG hnA;have q5:∀o,(HA.set ic3 o)[ic3]? =some o:=λo=>aSz hicA;have q6:=λo=>(aS0 (a:=o) hicn.1).trans hnA;have q7:∀o o2,(HA.set ic3 o).set ic3 o2=HA.set ic3 o2:=λo o2=>aUe ..;have q8:∀o,(HA.set 2 o)[ic3]? =some (.row RR):=λo=>by rw[aS0 (Ne.symm hicn.1)];exact hic3
     have n1:(ic3==2)=false:=by simpa using hicn.1
     have n2':(2==ic3)=false:=by simpa using Ne.symm hicn.1
     have n3':∀k,(ic3=HA.length+k)=False:=λk=>by simp;omega
     have n4':∀k,(2=HA.length+k)=False:=λk=>by simp;omega
     have n5:(ic3=HA.length)=False:=by simp;omega
     have n6:(2=HA.length)=False:=by simp;omega
     refine gJ 4 (bm:= [0,1,0,3,0,31,63,127,63,319]) (by kernel_rfl) z7 (by kernel_rfl) (by kernel_rfl) ?_;refine kU (bm:= [0,1,0,3,0,31,63,127,63,319]) (fresh:=HA.length+7) (by kernel_rfl) (by simp only[jD,jO,jN,seval,zY,bY,aB,qC,qG,eX,eY,hn3,hM3,qn3,qM3,BU,BV,if_true,lS,tN,hb7,hb8,lRR,gk,gp,Nat.zero_mul,aTh,hic3,hnA,q5,q6,q7,q8,n1,n2',n3',n4',n5,n6]<;>with_reducible rfl) z7 ?_;refine fF ?_;refine bG (λH4=>H4[0]? =some (.row [.int .i64 t.kind, .str t.text, .slice (t.ch.map St.enc) .none])/\H4[1]? =some (BL)/\(∃cv kid,H4[2]? =some (zE (mW n m3) cv)/\kJ Nd.enc 7 H4 cv (mW n m3).kids kid/\∀x∈kid,5<=x)/\H4[3]? =some (.row [.bool b])/\H4[4]? =some (.buf d1.length 5)/\H4[H1.length]? =some (.row [.int .i64 c.kind, .str c.text, .slice (c.ch.map St.enc) .none])/\H4[mid]? =some (CE m3)) ?_ ?_
     ·have hg:∀x,x<H3.length->x∉kid3->x≠2->∀o1 o2,((HA.set ic3 o1).set 2 o2)[x]? =H3[x]? :=λx h1 h2 h3 o1 o2=>by
       rw[aS0 (Ne.symm h3),aS0 (λe=>by subst e;rcases hcA ic3 z6 with h|h;exact h2 h;omega)];exact hsA x h1 h2
      have hk5:∀x,x<5->x∉kid3:=λx h e=>by have:=hd3 x e;omega
      refine⟨by rw[hg _ z8 (hk5 _ z8) z8];exact ht3,by rw[hg _ z8 (hk5 _ z8) z8];exact hz3,⟨.msl ic3 0 (n.kids.length+1) c3,[ic3],by rw[aSz (by simpa using hlA2)];rfl, .of (rest:=pI) (by simp[mW,Nd.kids]) ?_ z8 hmx3,λx hx=>by rw[aT2]at hx;subst hx;exact hicn.2⟩,by rw[hg _ z8 (hk5 _ z8) z8];exact hb3,by rw[hg _ z8 (hk5 _ z8) z8];exact hf3,by rw[hg _ z8 (λe=>hkn3 _ e (.inl rfl)) z8];exact hC3,by rw[hg _ z8 (λe=>hkn3 _ e (.inr rfl)) z8];exact hM3⟩;rw[aS0 (Ne.symm hicn.1),aSz hicA,hRR];show _=some (AObj.row (aH ((n.kids++ [m3]).map Nd.enc)++pI));rw[lJ,lJ];refine congrArg (λz=>some (AObj.row z)) ?_;rw[aUa];exact XH (mQ n.kids)
     rintro H4 ⟨ht4,hz4,⟨cv4,kid4,hn4,hc4,hd4⟩,hb4,hf4,hC4,hM4⟩;have x4:=a5 hM4 hn4 hb4 hf4 (a2 hC4 x1);refine ZT 5 (a3 y3 bY x4) ?_;refine ZA x4 (by assumption) (UA (i:=2) (n:=mW n m3) (cv:=cv4) hn4 (ib:=3) (beg:=b) hb4 z7 m3.st m3.en) ?_;rintro _ H5 ⟨rfl,g5,hn5,hb5⟩;have hf4l:=lG hf4;have hC4l:=lG hC4;have hC5:H5[H1.length]? =some (.row [.int .i64 c.kind, .str c.text, .slice (c.ch.map St.enc) .none]):=by rw[g5.same _ z8 (by simp;omega)];exact hC4
     have hf5:H5[4]? =some (.buf d1.length 5):=by rw[g5.same _ z8 z6];exact hf4
     have ht5:H5[0]? =some (.row [.int .i64 t.kind, .str t.text, .slice (t.ch.map St.enc) .none]):=by rw[g5.same _ z8 z6];exact ht4
     have hz5:H5[1]? =some (BL):=by rw[g5.same _ z8 z6];exact hz4
     have hc5:kJ Nd.enc 7 H5 cv4 (mW n m3).kids kid4:=hc4.fr (λx hx=>g5.same x (hc4.lt x hx) (by have:=hd4 x hx;simp;omega));have hf5l:=lG hf5;have n55:(4=H5.length)=False:=by simp;omega
     have hdl3:=MI src c p m3 d3 hnode;have qC5:∀o,(H5.set 4 o)[H1.length]? =some (.row [.int .i64 c.kind, .str c.text, .slice (c.ch.map St.enc) .none]):=λo=>by rw[aS0 z8];exact hC5
     refine oN ?_;have x5:=a5 hC5 hf5 qC5 n55 x4;refine ZT 2 x5 ?_;refine GQ (us:=d1) (vs:=d3) (id:=4) (mL tN) z7 rfl (KU tN) (KU tN) hf5 z8 ?_;intro HB e1 e2 e3;have hCB:=(e2 H1.length z8).trans hC5;refine ZX (a2 hCB x5) ?_;refine ZL [0,2,4,6,8,10,11,13,25,26,27] (a2 hCB x5) ?_;refine ZT 2 (a3 dM hCB x5) ?_;refine ZP (a2 hCB x5) JB (CH c.size c (aSl _) z8 z8 _) ?_;refine ZX (a3 y3 hCB x5) ?_;refine ZE (a3 y3 hCB x5) ?_
     try simp only[aW,aO]
     exact⟨(j+1,p+kQ c,yD b (mW n m3) m3.st m3.en,true,d1++d3),by show t.ch.length- (j+1)<t.ch.length-j;omega,ZV,hi,hk1,by simp only;omega,by simp only[aTi];omega,by rw[oZ];show(n.kids++ [m3]).length<=j+1;rw[aTi,aSi];omega,(e2 0 z7).trans ht5,(e2 1 z7).trans hz5,⟨cv4,kid4,(e2 2 z7).trans hn5,by rw[oZ];exact(hc5.fr (λx hx=>e2 x (by have:=hd4 x hx;omega))),hd4⟩,(e2 3 z7).trans hb5,e1⟩
  ·
   have gl:decide ((j:Int)<(t.ch.length:Int))=false:=decide_eq_false z8;rw[List.drop_eq_nil_of_le hi,mI]at hk1;injection hk1 with hk1;injection hk1 with hk1 hk2;injection hk2 with hk2 hk3;injection hk3 with hk3 hk4;subst hk1 hk2 hk3 hk4;have x6:=a5 ht1 hz1 hn1 hb1 (a2 hf1 gl);refine ZE (a2 y3 x6) ?_;refine ZF x6 ?_;refine wQ ?_;refine bD ?_;simp only[aW,aO,reduceIte,Nat.reduceEqDiff,aUb,if_true,if_false];refine aB4 hn1 hc1 (λh=>by have:=hx1 2 h;omega) ?_;intro H2 kv hl2 hs2 hn2 hkv hkn2;have ht2:H2[0]? =some (.row [.int .i64 t.kind, .str t.text, .slice (t.ch.map St.enc) .none]):=by rw[hs2 0 z8 (λh=>by have:=hx1 0 h;omega)];exact ht1
   have hz2:H2[1]? =some (BL):=by rw[hs2 1 z8 (λh=>by have:=hx1 1 h;omega)];exact hz1
   have hf2:H2[4]? =some (.buf d1.length 5):=by rw[hs2 4 z8 (λh=>by have:=hx1 4 h;omega)];exact hf1
   have hzl2:=lG hz2;have hsz2:∀o,(H2.set 1 o)[1]? =some o:=λo=>aSz hzl2;have nz2:(1=H2.length)=False:=by simp;omega
   have nf2:(4=H2.length)=False:=by have:=lG hf2;simp;omega
   unfold GG at hfin
   ·
    have x7:=a5 ht2 hz2 hn2 hkv (a2 nz2 x6);refine ZE (a3 y3 dM x7) ?_;refine ZI x7 (λbt94=> ?_) (λbt94=> ?_)
    ·
     rw[if_pos bt94]at hfin;obtain⟨c0,cs0,hks⟩:∃c0 cs0,n.kids=c0::cs0:=by
      cases hq:n.kids with
      |nil=>rw[hq]at hfin;cases hfin
      |cons c0 cs0=>exact⟨c0,cs0,rfl⟩
     have hkv2:=hkn2 (by rw[hks];simp);rw[hks]at hfin;injection hfin with hfin;injection hfin with hm1 hm2;subst hm1 hm2 hkv2;obtain⟨us,hus⟩:∃us,us=n.kids.map Nd.enc:=⟨_,rfl⟩;rw[<-hus]at hn2;have hg0:us[0]? =some c0.enc:=by rw[hus,hks];rfl
     have hgl:(0<(us.length:Int))=True:=by rw[hus,hks];simp
     refine ZE (a5 zY bY hg0 hgl (a3 hz2 hn2 x6)) ?_;refine wQ ?_;refine bG (λH3=>H3[1]? =some (BL)/\H3[2]? =some (zE n (.slice us .none))/\H3[H2.length]? =some (CE c0)) ?_ ?_
     ·exact⟨aA hz2 _,aA hn2 _,z6⟩
     rintro H3 ⟨hz3,hn3,hc3⟩;obtain⟨ic,hic⟩:∃ic,ic=H2.length:=⟨_,rfl⟩;rw[<-hic]at hc3
     try rw[<-hic]
     have hcl3:=lG hc3;have hzl3:=lG hz3;have hne2:ic≠2/\ic≠1:=by have:=lG hn2;omega
     have q1:∀o,(H3.set ic o)[ic]? =some o:=λo=>aSz hcl3;have q2:∀o,(H3.set ic o)[2]? =H3[2]? :=λo=>aS0 hne2.1;have q3:∀o p,(H3.set ic o).set ic p=H3.set ic p:=λo p=>aUe ..;have n1:(ic==2)=false:=by simpa using hne2.1
     have n2:(2==ic)=false:=by simpa using Ne.symm hne2.1
     have n3:(ic=H3.length)=False:=by simp;omega
     have n4:(2=H3.length)=False:=by simp;have:=lG hn3;omega
     have n5:(ic==H3.length)=false:=by simp;omega
     have n6:decide (H3.length<=ic)=false:=decide_eq_false z8;refine lU 0 (by kernel_rfl) ?_;refine kU (bm:= [0,1,0,4,3,19,63,127]) (fresh:=(H3.length)) (by kernel_rfl) (Zd (a5 y3 bY hz3 hn3 (a5 hc3 q1 q2 q3 (a5 n1 n2 n3 n4 (a3 n5 n6 x7))))) z7 ?_;refine ZL [0,2,4,6,8,10,11,16,25,26,27] x7 ?_;refine wQ ?_;refine bG (λH4=>H4[1]? =some (BL)/\H4[ic]? =some (.row [.int .i64 c0.kind, .int .i64 c0.value, .str c0.text, .int .i64 n.st, .int .i64 n.en, .int .i64 c0.ns, .slice (c0.kids.map Nd.enc) .none])) ?_ ?_
     ·exact⟨by rw[aS0 hne2.2];exact hz3,q1 _⟩
     rintro H4 ⟨hz4,hc4⟩;have hzl4:=lG hz4;have hs4:∀o,(H4.set 1 o)[1]? =some o:=λo=>aSz hzl4;have nz4:(1=H4.length)=False:=by simp;omega
     refine eE (Za (a5 bY hz4 hc4 nz4 x7)) z7 ?_;refine wQ ?_;refine wT ⟨.inr rfl,_,(cW (.cell 6 31) (.tmp 7) rfl (fO nQ z7 (by simp only[jL,jN,seval,aB,qC,qG,eX,eY,ht1,hz1,hn1,hb1,hf1,gl,ht2,hz2,hn2,hkv,nz2,hs4]<;>with_reducible rfl)) (aR z7)), ?_⟩
     first|rfl| (simp only[jN,seval,aB,qC,qG,eX,eY,PV.drop1,PV.drop0];cases n;rfl)
    ·
     rw[if_neg (by rw[bt94];decide)]at hfin;refine qK ?_;refine ZE (a3 y3 dM x7) ?_;refine ZI x7 (λbt109=> ?_) (λbt109=> ?_)
     ·
      rw[if_pos bt109]at hfin
      split at hfin
      case isFalse=>cases hfin
      rename_i hrg;injection hfin with hfin;injection hfin with hm1 hm2;subst hm1 hm2;have g4:(0<=n.en/\n.en<=(src.length:Int))=True:=by simp;omega
      have g6:(0<=n.st/\n.st<=((n.en.toNat:Nat):Int))=True:=by simp;omega
      have g7:∀q,((q:List Dg)++ [gZ 1 0 0]).length=q.length+1:=λq=>z6
      have h5:=lG hf2;refine ZE x7 ?_;refine ZE (a3 y3 bY x7) ?_;refine ZI x7 (λbt114=> ?_) (λbt114=> ?_)
      ·
       rw[bt114];have ha:=DU (us:=d1) (u:=gZ 1 n.st n.en) (id:=4) (tl:=.full) z8;unfold gZ at ha⊢;refine ZE x7 ?_;refine ZE (a5 y3 bY rS nT (a4 ha hf2 nf2 x7)) ?_;refine ZL [0,2,4,6,8,10,11,25,26,27] x7 ?_;refine wQ ?_;refine bG (λH4=>H4[1]? =some (BL)/\H4[2]? =some (zE n kv)) ?_ ?_
       ·exact⟨by rw[aS0 z8];exact hz2,by rw[aS0 z8];exact hn2⟩
       rintro H4 ⟨hz4,hn4⟩;have hzl4:=lG hz4;have hs4:∀o,(H4.set 1 o)[1]? =some o:=λo=>aSz hzl4;have nz4:(1=H4.length)=False:=by simp;omega
       have nl4:decide (H4.length<=1)=false:=decide_eq_false z8;refine lU 0 (by kernel_rfl) ?_;refine tF (bm:= [0,0,2,0,8,31,0,64,0,256,1023,0,2047,8191]) 10 (fresh:=(H4.length)) (by kernel_rfl) (by simp only[jD,jO,jN,seval,y3,y9,bY,aB,qC,qG,eX,eY,ht1,hz1,hn1,hb1,hf1,gl,ht2,hz2,hn2,hkv,nz2,jS,g4,g6,hz4,hn4,hs4,nz4,nl4,lS]<;>with_reducible rfl) z7 z7 ?_;refine kU (bm:= [0,0,2,0,8,31,0,64,0,256,1023,0,2047,8191]) (fresh:=(H4.length)) (by kernel_rfl) (by simp only[jD,jO,jN,seval,bY,aB,qC,qG,eX,eY,ht1,hz1,hn1,hb1,hf1,gl,ht2,hz2,hn2,hkv,nz2,jS,g4,g6,hz4,hn4,hs4,nz4,nl4,lS]<;>with_reducible rfl) z7 ?_;refine wQ ?_;refine wT ⟨.inr rfl,_,(cW (.cell 6 31) (.tmp 7) rfl (fO nQ z7 (by simp only[jL,jN,seval,aB,qC,qG,eX,eY,ht1,hz1,hn1,hb1,hf1,gl,ht2,hz2,hn2,hkv,nz2,hs4]<;>with_reducible rfl)) (aR z7)), ?_⟩
       first|rfl| (simp only[jN,seval,aB,qC,qG,eX,eY,PV.drop1,PV.drop0];cases n;rfl)
      ·
       rw[bt114];have ha:=DU (us:=d1) (u:=gZ 2 n.st n.en) (id:=4) (tl:=.full) z8;unfold gZ at ha⊢;refine qK ?_;refine ZE (a5 y3 bY rS nT (a4 ha hf2 nf2 x7)) ?_;refine ZL [0,2,4,6,8,10,11,25,26,27] x7 ?_;refine wQ ?_;refine bG (λH4=>H4[1]? =some (BL)/\H4[2]? =some (zE n kv)) ?_ ?_
       ·exact⟨by rw[aS0 z8];exact hz2,by rw[aS0 z8];exact hn2⟩
       rintro H4 ⟨hz4,hn4⟩;have hzl4:=lG hz4;have hs4:∀o,(H4.set 1 o)[1]? =some o:=λo=>aSz hzl4;have nz4:(1=H4.length)=False:=by simp;omega
       have nl4:decide (H4.length<=1)=false:=decide_eq_false z8;refine lU 0 (by kernel_rfl) ?_;refine tF (bm:= [0,0,2,0,8,31,0,64,0,256,1023,0,2047,8191]) 10 (fresh:=(H4.length)) (by kernel_rfl) (by simp only[jD,jO,jN,seval,y3,y9,bY,aB,qC,qG,eX,eY,ht1,hz1,hn1,hb1,hf1,gl,ht2,hz2,hn2,hkv,nz2,jS,g4,g6,hz4,hn4,hs4,nz4,nl4,lS]<;>with_reducible rfl) z7 z7 ?_;refine kU (bm:= [0,0,2,0,8,31,0,64,0,256,1023,0,2047,8191]) (fresh:=(H4.length)) (by kernel_rfl) (by simp only[jD,jO,jN,seval,bY,aB,qC,qG,eX,eY,ht1,hz1,hn1,hb1,hf1,gl,ht2,hz2,hn2,hkv,nz2,jS,g4,g6,hz4,hn4,hs4,nz4,nl4,lS]<;>with_reducible rfl) z7 ?_;refine wQ ?_;refine wT ⟨.inr rfl,_,(cW (.cell 6 31) (.tmp 7) rfl (fO nQ z7 (by simp only[jL,jN,seval,aB,qC,qG,eX,eY,ht1,hz1,hn1,hb1,hf1,gl,ht2,hz2,hn2,hkv,nz2,hs4]<;>with_reducible rfl)) (aR z7)), ?_⟩
       first|rfl| (simp only[jN,seval,aB,qC,qG,eX,eY,PV.drop1,PV.drop0];cases n;rfl)
     ·
      rw[if_neg (by rw[bt109];decide)]at hfin;injection hfin with hfin;injection hfin with hm1 hm2;subst hm1 hm2;refine qK ?_;refine ZE (a2 bY x7) ?_;refine wQ ?_;refine wT ⟨.inr rfl,_,(cW (.cell 6 31) (.tmp 7) rfl (fO nQ z7 (by simp only[jL,jN,seval,aB,qC,qG,eX,eY,ht1,hz1,hn1,hb1,hf1,gl,ht2,hz2,hn2,hkv,nz2,hsz2]<;>with_reducible rfl)) (aR z7)), ?_⟩
      first|rfl| (simp only[jN,seval,aB,qC,qG,eX,eY,PV.drop1,PV.drop0];cases n;rfl)
section
variable{P:Program}{N:Nat}{ops:Array Oper}{Q:dG}
theorem HP{n0 k:Nat}{o:Oper}{l:List Oper}{T:aD}{G:Nat->Bool}{H:aC}{t e:TypeId}{n:Nat}{i:TI}{ps:Array (Nat×Operand)}{z:PV}{es0 es cs:List PV}(hop:o.op= .build t ps)(hc:dV ops.toList T G N o=some true)(hg:o.op.operands.toList.all (zH true G)=true)(hok:cK N o.op=true)
  (ht:ZS P t=some (n,e,i)) (hz:dC P t=some z) (hj:z.isJunk=false) (hzc:z.cells=aH es0) (hes:∀e∈es0,e.cells.length=i.sz) (hb:fH i T es0 ps.toList=some es) (hcs:aH es=cs)
  (h:X1 P N ops Q n0 (k+1) l (eZ (.tup []) (bU T o.dst (.agg cs)) (vV G o.dst true)) H):X1 P N ops Q n0 k (o::l) (eZ (.tup []) T G) H:=by
 subst hcs;intro prev hn;rw[gG]at h;refine⟨.agg (aH es),[],[], ?_,z6,λp hp=>.inr ⟨z6,z6⟩,h _ (hn.app z6)⟩;intro T' H' hT hHd hlen E a ho hE htr;refine .inr ⟨cB htr (gL hT ((iO hc).1 rfl _)),λnext Q hnx=> ?_⟩;obtain⟨hu,hi⟩:=IK ht;obtain⟨f,v,h3,h4,rfl⟩:=eQ hz;obtain⟨d',f',h5,h6,rfl⟩:=cA hi;obtain⟨c1,c2⟩:=(dR E.view v).not_junk_cells hj;have hrl:RL E.view v.cells (aH es0):=by
  rw[<-hzc];exact⟨c1,c2⟩
 have hmem:∀x∈ps.toList,x.2∈o.op.operands.toList:=λx hx=>by
  rw[hop];simp only[Op.operands,Array.toList_map,aTq];exact⟨x,hx,rfl⟩
 have hok':ps.toList.all (λx=>aQ N x.2)=true:=by
  refine aTr.2 λx hx=>aTr.1 hok _ ?_;have:=hmem x hx;simpa using this
 have hb':fH ⟨vM d',f'.size,f'.bytes⟩ T' es0 ps.toList=some es:=by
  rw[<-hb];refine nK _ _ λx hx=> ?_;rw[mO hT x.2 (hmem x hx),lY (aTr.1 hg x.2 (hmem x hx))]
 obtain⟨arr',e1,e2,e3,e4⟩:=rE htr ⟨vM d',f'.size,f'.bytes⟩ ps.toList _ _ es hrl hes hok' hb';unfold Oper.wp;have hx:(execOp a.eval o).run P E.w= .ok (.value (.agg arr')) E.w:=by
  unfold execOp;rw[hop];simp only[Instr.build,aS4,jH h3 h4,aS5,aS hu,dK h6,Array.toList_map,e1,aS7]
 rw[hx];exact hnx E _ (.refl E) ho hE (.agg _ _ e2.1 e2.2)
theorem CF{k:Nat}{o:Oper}{l:List Oper}{T:aD}{G:Nat->Bool}{H:aC}{t e:TypeId}{n:Nat}{i:TI}{x y:Operand}{id off:Nat}{kk:IntKind}{j:Nat}(hop:o.op= .indexAddr t x y)(hc:dV ops.toList T G N o=some true)(hg:o.op.operands.toList.all (zH true G)=true)(hok:cK N o.op=true)
  (ht:ZS P t=some (n,e,i)) (hx:bT T x= .optr id off) (hy:bT T y= .int kk (j:Nat)) (hk:j<n)
  (h:DP P N ops Q (k+1) l (eZ (.tup []) (bU T o.dst (.optr id (off+j*i.sz))) (vV G o.dst true)) H):DP P N ops Q k (o::l) (eZ (.tup []) T G) H:=by
 refine rP hc hg (λE a ho hvs=> ?_) h;obtain⟨hu,hi⟩:=IK ht;obtain⟨d',f',h5,h6,rfl⟩:=cA hi;rw[hop]at hok hvs;have okx:aQ N x=true:=aTr.1 hok _ (by simp[Op.operands]);have oky:aQ N y=true:=aTr.1 hok _ (by simp[Op.operands]);have rx:=hvs x (by simp[Op.operands]) okx;have ry:=hvs y (by simp[Op.operands]) oky;rw[hx]at rx;rw[hy]at ry;obtain⟨e1,e2⟩:=rx.optr_inv;have e3:=ry.int_inv;refine⟨.pointer (some ⟨E.view.rho id,off+j*f'.size,none⟩), ?_, .optr _ _ e2⟩;unfold execOp;rw[hop];have hkk:(0:Int)<=(j:Nat)/\((j:Nat):Int)<(n:Nat):=⟨Int.natCast_nonneg j,z8⟩;simp only[e1,e3,Instr.indexAt,Instr.sureAddr,asIntOf,aS4,aS7,aS5,aS hu,dK h6,if_pos hkk,Sem.run_ite,dD,tN]
theorem PW{k:Nat}{o:Oper}{l:List Oper}{T:aD}{G:Nat->Bool}{H:aC}{t y':TypeId}{x y:Operand}{ks:List FT}{ps qs:List PV}(F:zJ P t ks)
  (hop:o.op= .binOp .eql t x y y') (hx:bT T x= .agg ps) (hy:bT T y= .agg qs) (fx:uB ks ps=true) (fy:uB ks qs=true) (hc:dV ops.toList T G N o=some true) (hg:o.op.operands.toList.all (zH true G)=true) (okx:aQ N x=true) (oky:aQ N y=true)
  (h:DP P N ops Q (k+1) l (eZ (.tup []) (bU T o.dst (.bool (gN ps qs))) (vV G o.dst true)) H):DP P N ops Q k (o::l) (eZ (.tup []) T G) H:=by
 refine rP hc hg (λE A ho he=> ?_) h;have rx:=he x (by rw[hop];simp[Op.operands]) okx;have ry:=he y (by rw[hop];simp[Op.operands]) oky;rw[hx]at rx;rw[hy]at ry;generalize hvx:A.eval x=vx at rx;generalize hvy:A.eval y=vy at ry;cases rx with
 |agg xs _ a1 a2=>
  cases ry with
  |agg ys _ b1 b2=>
   have g:∀w,(eqGuard .eql t x y (.agg xs) (.agg ys)).run P w= .ok () w:=λw=>by
    unfold eqGuard;simp only[aS4,run_program,aS5,F.gu,aTp,if_true,Sem.run_ite,aS7]
    split<;>rfl
   refine⟨.bool (gN ps qs), ?_, .bool _⟩;unfold execOp;rw[hop];simp only[aS4,hvx,hvy,g,aS5,binOp,EB F (.agg xs _ a1 a2) (.agg ys _ b1 b2) (mZ fx) (mZ fy) (λi h h1 h2=>⟨pJ fx i h h1,pJ fy i h h2⟩),aS7]
end
set_option maxRecDepth 4000
def lsD(a b:Dg):Bool:=if a.mod≠b.mod then decide (a.mod<b.mod)else if a.st≠b.st then decide (a.st<b.st)else if a.en≠b.en then decide (a.en<b.en)else if a.code≠b.code then decide (a.code<b.code)else Op.bytesLess a.name b.name
def qH(d:Dg):List Dg->List Dg
 | []=> [d]
 |x::xs=>if lsD x d=true then x::qH d xs else if xA x d=true then x::xs else d::x::xs
def AI(ds:List Dg):List Dg:=ds.foldl (λo d=>qH d o) []
theorem ME(d:Dg):∀l,(qH d l).length<=l.length+1
 | []=>by simp[qH]
 |x::xs=>by
  have:=ME d xs;rw[qH]
  split
  ·simp only[aS2];omega
  ·split<;>simp
theorem IB:ZS Tryz.prog 184=some (4,3,⟨false,1,8⟩):=by kernel_rfl
theorem ZM:dC Tryz.prog 184=some (.agg [.int .i64 0, .int .i64 0, .int .i64 0, .int .i64 0]):=by kernel_rfl
theorem aQf:cV Tryz.prog 184=some ⟨true,4,32⟩:=by kernel_rfl
theorem aD0{src:List UInt8}(hsrc:src.length<=2000){t:St}(hsz:t.size<=1000000){m:Nd}{ds:List Dg}(hm:BS src t 0=some (m,ds))(hw:kQ t<=2000):PC Tryz.prog 29 [.str src,t.enc] (.tup [(fC m 0 (src.length:Int)).enc, .slice (ds.map Dg.enc) .none]):=by
 refine dN (N:=20) Tryz.func29 rfl rfl z6 (by simp[St.bel,aZ.str]) (.tup _ (by simp[jK,Nd.bel])) ?_;refine ZE (a2 bY dM) ?_;refine ZT 2 dM ?_;refine ZP0 aHb (aAq hsrc 1000000 t hsz (aSl _) 0 m ds hm z8 _) ?_;refine ZX bY ?_;refine ZE (a3 y3 y9 bY) ?_;refine ZL0 [4,6,7] ?_;refine ZE bY ?_;refine wQ ?_;refine wT ⟨.inr rfl,_,(cW (.cell 4 31) (.tmp 5) rfl (fO nQ z7 (by simp only[jL,jN,seval,aB,qC,qG,eX,eY]<;>with_reducible rfl)) (aR z7)), ?_⟩
 first|rfl| (cases m;rfl)
theorem aMw(a b:Dg):PC Tryz.prog 64 [a.enc,b.enc] (.bool (lsD a b)):=by
 refine dN (N:=49) Tryz.func64 rfl rfl z6 (by simp[Dg.bel]) (.bool _) ?_;refine ZE nT ?_;refine wQ ?_;refine uX 2 rfl (by kernel_rfl) ?_;refine rC 8 rfl (Zp (a2 y3 nT)) z7 z7 z7 ?_;refine HP (t:=184) (n:=4) (es0:= [.int .i64 0, .int .i64 0, .int .i64 0, .int .i64 0]) (es:= [.int .i64 a.mod, .int .i64 a.st, .int .i64 a.en, .int .i64 a.code]) (cs:= [.int .i64 a.mod, .int .i64 a.st, .int .i64 a.en, .int .i64 a.code]) rfl (Ze tN) (Zeo tN) z7 IB ZM rfl rfl z7 rfl rfl ?_;refine rC 8 rfl (Zp (a2 y3 nT)) z7 z7 z7 ?_;refine HP (t:=184) (n:=4) (es0:= [.int .i64 0, .int .i64 0, .int .i64 0, .int .i64 0]) (es:= [.int .i64 b.mod, .int .i64 b.st, .int .i64 b.en, .int .i64 b.code]) (cs:= [.int .i64 b.mod, .int .i64 b.st, .int .i64 b.en, .int .i64 b.code]) rfl (Ze tN) (Zeo tN) z7 IB ZM rfl rfl z7 rfl rfl ?_;refine BM (by first| (simp only[LS,HS,aUa,aSg,aT1]<;>with_reducible rfl)|rfl) ?_;refine uF (bm:= [0,1,0,4,0,16,0,64,255,0,512,0,2048,0,8192,0,32768,130560,0,0,786943,2097151]) (fresh:=2) (by kernel_rfl) (Zx (a2 aQf ZM)) z7 (by repeat (first|exact fK.base _|with_reducible apply fK.keep|apply fK.drop)) ?_;refine ZL0 [2,3,5,6] ?_;refine uA ?_;refine qB ?_;refine iD (σ:=Nat) (λ(k:Nat)=> [(2, .optr 0 0),(3, .optr 1 0),(5, .optr 2 0),(6, .optr 3 0),(26,aB (k:Int))]) ([.row [.int .i64 a.code, .int .i64 a.mod, .int .i64 a.st, .int .i64 a.en, .str a.name], .row [.int .i64 b.code, .int .i64 b.mod, .int .i64 b.st, .int .i64 b.en, .str b.name], .row [.int .i64 a.mod, .int .i64 a.st, .int .i64 a.en, .int .i64 a.code], .row [.int .i64 b.mod, .int .i64 b.st, .int .i64 b.en, .int .i64 b.code]]) (λ(k:Nat)=> []) (λ(k:Nat)=>4-k) (λ(k:Nat)=>k<=4/\(1<=k->a.mod=b.mod)/\(2<=k->a.st=b.st)/\(3<=k->a.en=b.en)/\(4<=k->a.code=b.code)) (0) ([]) (Zt tN) (Zf tN) (⟨z8,z8,z8,z8,z8⟩) (λ_ _=>by first|exact aTn _| (simp only[aTi];omega)) ?_ ?_
 ·exact λk hg=>⟨by rw[aT4];exact ZH,ZR⟩
 ·intro k hg;rcases aSk k 4 with hk|hk
  ·
   rcases(by omega:k=0\/k=1\/k=2\/k=3)with rfl|rfl|rfl|rfl
   all_goals
    refine ZE y3 ?_;refine ZG tN ?_;refine qK ?_;refine qB ?_;refine uA ?_;refine wQ ?_;refine dA (by kernel_rfl) ?_;refine AZ 1 tN ?_;refine CF (t:=184) (id:=2) (off:=0) (kk:=.i64) (j:=_) rfl (Ze tN) (Zeo tN) z7 IB (KU tN) rfl z7 ?_;refine AZ 2 y3 ?_;refine CF (t:=184) (id:=3) (off:=0) (kk:=.i64) (j:=_) rfl (Ze tN) (Zeo tN) z7 IB (KU tN) rfl z7 ?_;refine FM y3 ?_;refine ZI0 (λb1=> ?_) (λb1=> ?_)
    ·
     refine wQ ?_;refine dA (by kernel_rfl) ?_;refine AZ 1 tN ?_;refine CF (t:=184) (id:=2) (off:=0) (kk:=.i64) (j:=_) rfl (Ze tN) (Zeo tN) z7 IB (KU tN) rfl z7 ?_;refine AZ 2 y3 ?_;refine CF (t:=184) (id:=3) (off:=0) (kk:=.i64) (j:=_) rfl (Ze tN) (Zeo tN) z7 IB (KU tN) rfl z7 ?_;refine FM y3 ?_;refine wQ ?_;refine wT ⟨.inr rfl,_,rfl, ?_⟩
     try simp only[jN,seval,aB,qC,qG,PV.drop1,PV.drop0]
     simp_all [lsD]
    ·
     refine qK ?_;refine ZE y3 ?_
     try simp only[aW,aO]
     first|exact⟨1,[],z7,ZV,rfl,by simp_all⟩|exact⟨2,[],z7,ZV,rfl,by simp_all⟩|exact⟨3,[],z7,ZV,rfl,by simp_all⟩|exact⟨4,[],z7,ZV,rfl,by simp_all⟩
  ·
   obtain rfl:k=4:=z8
   refine ZE y3 ?_;refine ZF0 ?_;refine wQ ?_;refine bD ?_;simp only[aW,aO,reduceIte,Nat.reduceEqDiff,aUb,if_true,if_false];refine ZE (a2 y9 nT) ?_;refine wQ ?_;refine wT ⟨.inr rfl,_,rfl, ?_⟩
   try simp only[jN,seval,aB,qC,qG,PV.drop1,PV.drop0]
   simp_all [lsD]
end Go.Abs
namespace Go.Proofs
open Go.Shelf
def Tryz.laysSort_ren:Go.Shelf.Ren:=⟨fun|6=>57|15=>108|14=>107|28=>180|29=>181|20=>172|21=>173|22=>174|23=>175|24=>176|25=>177|26=>178|27=>179|46=>243|47=>244|48=>245|49=>246|50=>247|57=>281|n=>n,fun|22=>38|24=>84|25=>120|3=>3|39=>174|0=>0|53=>217|55=>219|4=>4|46=>210|45=>209|50=>214|5=>5|9=>9|66=>248|70=>156|76=>271|77=>138|n=>n,fun|n=>n⟩
theorem Tryz.laysSort:Go.Proofs.SlLaysF0.n6 Tryz.prog Tryz.laysSort_ren:= {
 mixed:=by kernel_rfl
 f6:=⟨Tryz.f57.name,z7,Tryz.func57.trans (congrArg some (by kernel_rfl))⟩
 f14:=⟨Tryz.f107.name,z7,Tryz.func107.trans (congrArg some (by kernel_rfl))⟩
 f15:=Tryz.func108.trans (congrArg some (by kernel_rfl))
 f20:=⟨Tryz.f172.name,z7,Tryz.func172.trans (congrArg some (by kernel_rfl))⟩
 f21:=⟨Tryz.f173.name,z7,Tryz.func173.trans (congrArg some (by kernel_rfl))⟩
 f22:=⟨Tryz.f174.name,z7,Tryz.func174.trans (congrArg some (by kernel_rfl))⟩
 f23:=⟨Tryz.f175.name,z7,Tryz.func175.trans (congrArg some (by kernel_rfl))⟩
 f24:=⟨Tryz.f176.name,z7,Tryz.func176.trans (congrArg some (by kernel_rfl))⟩
 f25:=⟨Tryz.f177.name,z7,Tryz.func177.trans (congrArg some (by kernel_rfl))⟩
 f26:=⟨Tryz.f178.name,z7,Tryz.func178.trans (congrArg some (by kernel_rfl))⟩
 f27:=⟨Tryz.f179.name,z7,Tryz.func179.trans (congrArg some (by kernel_rfl))⟩
 f28:=Tryz.func180.trans (congrArg some (by kernel_rfl))
 f29:=Tryz.func181.trans (congrArg some (by kernel_rfl))
 f46:=⟨Tryz.f243.name,z7,Tryz.func243.trans (congrArg some (by kernel_rfl))⟩
 f47:=Tryz.func244.trans (congrArg some (by kernel_rfl))
 f48:=Tryz.func245.trans (congrArg some (by kernel_rfl))
 f49:=⟨Tryz.f246.name,z7,Tryz.func246.trans (congrArg some (by kernel_rfl))⟩
 f50:=⟨Tryz.f247.name,z7,Tryz.func247.trans (congrArg some (by kernel_rfl))⟩
 f57:=⟨Tryz.f281.name,z7,Tryz.func281.trans (congrArg some (by kernel_rfl))⟩
 t0:=Tryz.underlying0
 a0:=Tryz.isAgg0
 z0:=Tryz.sizeOf0
 v0:=Tryz.zeroValue0
 t3:=Tryz.underlying3
 a3:=Tryz.isAgg3
 z3:=Tryz.sizeOf3
 v3:=Tryz.zeroValue3
 t4:=Tryz.underlying4
 a4:=Tryz.isAgg4
 z4:=Tryz.sizeOf4
 v4:=Tryz.zeroValue4
 t5:=Tryz.underlying5
 a5:=Tryz.isAgg5
 z5:=Tryz.sizeOf5
 v5:=Tryz.zeroValue5
 t9:=Tryz.underlying9
 a9:=Tryz.isAgg9
 z9:=Tryz.sizeOf9
 v9:=Tryz.zeroValue9
 t22:=Tryz.underlying38
 a22:=Tryz.isAgg38
 z22:=Tryz.sizeOf38
 v22:=Tryz.zeroValue38
 t25:=Tryz.underlying120
 a25:=Tryz.isAgg120
 z25:=Tryz.sizeOf120
 v25:=Tryz.zeroValue120
 t39:=Tryz.underlying174
 a39:=Tryz.isAgg174
 z39:=Tryz.sizeOf174
 v39:=Tryz.zeroValue174
 t45:=Tryz.underlying209
 a45:=Tryz.isAgg209
 z45:=Tryz.sizeOf209
 v45:=Tryz.zeroValue209
 t46:=Tryz.underlying210
 a46:=Tryz.isAgg210
 z46:=Tryz.sizeOf210
 v46:=Tryz.zeroValue210
 t50:=Tryz.underlying214
 a50:=Tryz.isAgg214
 z50:=Tryz.sizeOf214
 v50:=Tryz.zeroValue214
 t53:=Tryz.underlying217
 a53:=Tryz.isAgg217
 z53:=Tryz.sizeOf217
 v53:=Tryz.zeroValue217
 t55:=Tryz.underlying219
 a55:=Tryz.isAgg219
 z55:=Tryz.sizeOf219
 v55:=Tryz.zeroValue219
 t66:=Tryz.underlying248
 a66:=Tryz.isAgg248
 z66:=Tryz.sizeOf248
 v66:=Tryz.zeroValue248
 t70:=Tryz.underlying156
 a70:=Tryz.isAgg156
 z70:=Tryz.sizeOf156
 v70:=Tryz.zeroValue156
 t76:=Tryz.underlying271
 a76:=Tryz.isAgg271
 z76:=Tryz.sizeOf271
 v76:=Tryz.zeroValue271
 t77:=Tryz.underlying138
 a77:=Tryz.isAgg138
 z77:=Tryz.sizeOf138
 v77:=Tryz.zeroValue138}
end Go.Proofs
namespace Go.Proofs
open Go.Shelf Go.RowKit Go.Lib Go.Sort
def Tryz.lays122_ren:Go.Shelf.Ren:=⟨fun|122=>78|215=>140|n=>n,fun|3=>3|4=>4|n=>n,fun|n=>n⟩
theorem Tryz.lays122:Go.Proofs.Lays.n122 Tryz.prog Tryz.lays122_ren:= {
 mixed:=by kernel_rfl
 f122:=Tryz.func78.trans (congrArg some (by kernel_rfl))
 f215:=Tryz.func140.trans (congrArg some (by kernel_rfl))
 t3:=Tryz.underlying3
 a3:=Tryz.isAgg3
 z3:=Tryz.sizeOf3
 v3:=Tryz.zeroValue3
 t4:=Tryz.underlying4
 a4:=Tryz.isAgg4
 z4:=Tryz.sizeOf4
 v4:=Tryz.zeroValue4}
theorem Tryz.cmpI(x y:Int)(w:World):Calls Tryz.prog 78 #[.int .i64 x, .int .i64 y] w λe w'=>e= .returned (.int .i64 (Lib.compareInt x y))/\w'=w:=Any.cmp_Compare_int Tryz.lays122 x y w
theorem Tryz.nanS(w:World):Calls Tryz.prog 141 #[.string ⟨#[]⟩] w λe w'=>e= .returned (.bool false)/\w'=w:=by
 have t9:=Tryz.underlying9;have a9:=Tryz.isAgg9;have z9:=Tryz.sizeOf9;have v9:=Tryz.zeroValue9;have t4:=Tryz.underlying4;have a4:=Tryz.isAgg4;have z4:=Tryz.sizeOf4;have v4:=Tryz.zeroValue4
 go_enter Tryz.func141,Tryz.ntmps141
 go_wp2
 go_ret
 exact⟨z6,rfl⟩
set_option maxHeartbeats 1000000 in
set_option maxRecDepth 100000 in
theorem Tryz.cmpS(w:World):Calls Tryz.prog 79 #[.string ⟨#[]⟩, .string ⟨#[]⟩] w λe w'=>e= .returned (.int .i64 0)/\w'=w:=by
 have t9:=Tryz.underlying9;have a9:=Tryz.isAgg9;have z9:=Tryz.sizeOf9;have v9:=Tryz.zeroValue9;have t4:=Tryz.underlying4;have a4:=Tryz.isAgg4;have z4:=Tryz.sizeOf4;have v4:=Tryz.zeroValue4;have t3:=Tryz.underlying3;have a3:=Tryz.isAgg3;have z3:=Tryz.sizeOf3;have v3:=Tryz.zeroValue3;have e215:∀args w,(callFunc 141 args).run Tryz.prog w= .ok (.enter 141 args) w:=enters_of Tryz.func141 (by kernel_rfl) rfl;have hgt:∀w,(Sem.run Tryz.prog (binOp .gtr 9 (.string ⟨#[]⟩) (.string ⟨#[]⟩)) w)= .ok (.bool false) w:=λw=>by
  simp[binOp,Op.stringOp,Op.bytesLess]
 have hlt:Op.bytesLess [] []=false:=rfl
 go_enter Tryz.func79,Tryz.ntmps79
 go_wp2_with (go_at_fn 141;refine(Tryz.nanS _).mono ?_;rintro e w' ⟨rfl,hw⟩;rw[hw])
 all_goals (go_ret;exact⟨rfl,rfl⟩)
def orL:List Int->Int
 | []=>0
 |x::l=>if x=0 then orL l else x
set_option maxHeartbeats 1000000 in
set_option maxRecDepth 100000 in
theorem Tryz.orI(w:World)(a:Addr)(vs:List Int)(hl:vs.length<=5)(hc:∀j x,vs[j]? =some x->w.cell? (a.add j)=some (.int .i64 x)):Calls Tryz.prog 77 #[.slice (some a) vs.length vs.length] w λe w'=>e= .returned (.int .i64 (orL vs))/\w'=w:=by
 have t3:=Tryz.underlying3;have a3:=Tryz.isAgg3;have z3:=Tryz.sizeOf3;have v3:=Tryz.zeroValue3;have t4:=Tryz.underlying4;have a4:=Tryz.isAgg4;have z4:=Tryz.sizeOf4;have v4:=Tryz.zeroValue4;have t48:=Tryz.underlying48;have a48:=Tryz.isAgg48;have z48:=Tryz.sizeOf48;have v48:=Tryz.zeroValue48;have HC:=Lib.hid hc;clear hc
 go_enter Tryz.func77,Tryz.ntmps77
 go_wp2
 go_loopw [5,8] (λ_ tv wr=>∃i:Nat,tv= .int .i64 (i:Int)/\i<=vs.length/\orL vs=orL (vs.drop i)/\wr=w) (λ_ tv _=>vs.length- (match tv with| .int _ n=>n.toNat|_=>0))
 case atStart=>exact⟨0,rfl,aTn _,rfl,rfl⟩
 case round=>
  obtain⟨i,rfl,hi,ho,rfl⟩:=hrel
  by_cases hlt:i<vs.length
  ·have hli:(i:Int)<(vs.length:Int):=z8
   have c0:=HC.out i _ (aTd hlt);have hd:orL vs=if vs[i]=0 then orL (vs.drop (i+1))else vs[i]:=by rw[ho,aUc hlt,orL]
   go_wp2
   ·rename_i h
    go_ret
    have hz:¬vs[i]=0:=by simpa using h
    exact⟨by rw[hd,if_neg hz];rfl,rfl⟩
   case roundEnd=>
    rename_i h;have hz:vs[i]=0:=by simpa using h
    refine⟨⟨i+1,by rw[Int.natCast_add];rfl,z8,by rw[hd,if_pos hz],trivial⟩, ?_⟩;simp only[aSo];show vs.length- ((i:Int)+1).toNat<vs.length- (i:Int).toNat
    rw[show((i:Int)+1).toNat=i+1 from rfl,show(i:Int).toNat=i from rfl];omega
  ·obtain rfl:i=vs.length:=z8
   rw[List.drop_length]at ho
   go_wp2
   go_ret
   exact⟨by rw[ho];rfl,rfl⟩
abbrev XD:=Int×Int×Int
def tJ(x:XD):List Value:= [.int .i64 x.1, .int .i64 0, .int .i64 x.2.1, .int .i64 x.2.2, .string ⟨#[]⟩]
def QM(x y:XD):Int:=orL [Lib.compareInt 0 0,Lib.compareInt x.2.1 y.2.1,Lib.compareInt x.2.2 y.2.2,Lib.compareInt x.1 y.1,0]
set_option maxHeartbeats 4000000 in
set_option maxRecDepth 100000 in
theorem Tryz.cmp58(x y:XD)(W:World):Calls Tryz.prog 58 #[.agg (tJ x).toArray, .agg (tJ y).toArray] W λe w'=>e= .returned (.int .i64 (QM x y))/\∃q os',w'=grow (W.drewN q) os':=by
 obtain⟨xc,xs,xe⟩:=x;obtain⟨yc,ys,ye⟩:=y;unfold QM tJ;simp only;have h1:=λW'=>Tryz.cmpI 0 0 W';have h2:=λW'=>Tryz.cmpI xs ys W';have h3:=λW'=>Tryz.cmpI xe ye W';have h4:=λW'=>Tryz.cmpI xc yc W';generalize Lib.compareInt 0 0=r1 at h1⊢;generalize Lib.compareInt xs ys=r2 at h2⊢;generalize Lib.compareInt xe ye=r3 at h3⊢;generalize Lib.compareInt xc yc=r4 at h4⊢
 go_enter Tryz.func58,Tryz.ntmps58
 go_wp2_with fail
 generalize hw1:(World.alloc (World.alloc W (Obj.cells #[Value.int IntKind.i64 xc,Value.int IntKind.i64 0,Value.int IntKind.i64 xs,Value.int IntKind.i64 xe,Value.string {data:= #[]}] 84)) (Obj.cells #[Value.int IntKind.i64 yc,Value.int IntKind.i64 0,Value.int IntKind.i64 ys,Value.int IntKind.i64 ye,Value.string {data:= #[]}] 84))=w1;have hX:w1.heap[W.heap.size]? =some (.cells #[.int .i64 xc, .int .i64 0, .int .i64 xs, .int .i64 xe, .string ⟨#[]⟩] 84 (0,0)):=by
  rw[<-hw1];show((W.alloc _).alloc _).heap[W.heap.size]? =_;rw[Lib.alloc_old _ _ _ z6];exact heap_alloc_new W _
 have hY:w1.heap[W.heap.size+1]? =some (.cells #[.int .i64 yc, .int .i64 0, .int .i64 ys, .int .i64 ye, .string ⟨#[]⟩] 84 (0,0)):=by
  rw[<-hw1];have:=heap_alloc_new (W.alloc (Obj.cells #[Value.int IntKind.i64 xc,Value.int IntKind.i64 0,Value.int IntKind.i64 xs,Value.int IntKind.i64 xe,Value.string {data:= #[]}] 84)) (Obj.cells #[Value.int IntKind.i64 yc,Value.int IntKind.i64 0,Value.int IntKind.i64 ys,Value.int IntKind.i64 ye,Value.string {data:= #[]}] 84);simpa using this
 have x0:w1.cell? ⟨W.heap.size,0,none⟩=some (.int .i64 xc):=by rw[Lib.cell_of_heap hX];rfl
 have x1:w1.cell? ⟨W.heap.size,1,none⟩=some (.int .i64 0):=by rw[Lib.cell_of_heap hX];rfl
 have x2:w1.cell? ⟨W.heap.size,2,none⟩=some (.int .i64 xs):=by rw[Lib.cell_of_heap hX];rfl
 have x3:w1.cell? ⟨W.heap.size,3,none⟩=some (.int .i64 xe):=by rw[Lib.cell_of_heap hX];rfl
 have x4:w1.cell? ⟨W.heap.size,4,none⟩=some (.string ⟨#[]⟩):=by rw[Lib.cell_of_heap hX];rfl
 have y0:w1.cell? ⟨W.heap.size+1,0,none⟩=some (.int .i64 yc):=by rw[Lib.cell_of_heap hY];rfl
 have y1:w1.cell? ⟨W.heap.size+1,1,none⟩=some (.int .i64 0):=by rw[Lib.cell_of_heap hY];rfl
 have y2:w1.cell? ⟨W.heap.size+1,2,none⟩=some (.int .i64 ys):=by rw[Lib.cell_of_heap hY];rfl
 have y3:w1.cell? ⟨W.heap.size+1,3,none⟩=some (.int .i64 ye):=by rw[Lib.cell_of_heap hY];rfl
 have y4:w1.cell? ⟨W.heap.size+1,4,none⟩=some (.string ⟨#[]⟩):=by rw[Lib.cell_of_heap hY];rfl
 refine wp_region_still_tail 25 (by kernel_rfl) (by kernel_rfl) ?_;simp only[List.take_succ_cons,List.take_zero,List.drop_succ_cons,aUh]
 iterate 4 still_step
 still_call (h1 _)
 iterate 4 still_step
 still_call (h2 _)
 iterate 4 still_step
 still_call (h3 _)
 iterate 4 still_step
 still_call (h4 _)
 iterate 4 still_step
 still_call (Tryz.cmpS _)
 refine wpStill_nil ?_;have hor:∀(w3:World) (b:Nat),w3.heap[b]? =some (.cells #[.int .i64 r1, .int .i64 r2, .int .i64 r3, .int .i64 r4, .int .i64 0] 3 (0,0))->Calls Tryz.prog 77 #[.slice (some ⟨b,0,none⟩) 5 5] w3 λe w'=>e= .returned (.int .i64 (orL [r1,r2,r3,r4,0]))/\w'=w3:=λw3 b hb=>
  Tryz.orI w3 ⟨b,0,none⟩ [r1,r2,r3,r4,0] z6 λj x hj=>by
   have hc:∀k,w3.cell? ⟨b,k,none⟩=(#[Value.int .i64 r1, .int .i64 r2, .int .i64 r3, .int .i64 r4, .int .i64 0]:Array Value)[k]? :=λk=>by rw[Lib.cell_of_heap hb]
   match j,hj with
   |0,hj=>injection hj with hj;subst hj;exact hc 0
   |1,hj=>injection hj with hj;subst hj;exact hc 1
   |2,hj=>injection hj with hj;subst hj;exact hc 2
   |3,hj=>injection hj with hj;subst hj;exact hc 3
   |4,hj=>injection hj with hj;subst hj;exact hc 4
 go_wp2_with (go_at_call 77;refine(hor _ _ (by first|exact heap_alloc_new _ _|simpa using heap_alloc_new w1.drew _)).mono ?_;rintro e w' ⟨rfl,rfl⟩)
 go_ret
 refine⟨rfl,1,((#[Obj.cells #[Value.int IntKind.i64 xc,Value.int IntKind.i64 0,Value.int IntKind.i64 xs,Value.int IntKind.i64 xe,Value.string {data:= #[]}] 84]++ #[Obj.cells #[Value.int IntKind.i64 yc,Value.int IntKind.i64 0,Value.int IntKind.i64 ys,Value.int IntKind.i64 ye,Value.string {data:= #[]}] 84])++ #[Obj.cells #[.int .i64 r1, .int .i64 r2, .int .i64 r3, .int .i64 r4, .int .i64 0] 3]), ?_⟩;subst hw1;rw[<-grow_grow,<-grow_grow,<-alloc_eq_grow,<-alloc_eq_grow,<-alloc_eq_grow];rfl
end Go.Proofs
namespace Go.Abs
open Go.Proofs Go.Shelf Go.RowKit Go.Lib Go.Sort
def toX(d:Dg):XD:=(d.code,d.st,d.en)
def YV(x:XD):Dg:=⟨x.1,0,x.2.1,x.2.2,[]⟩
def zU(d:Dg):Prop:=d.mod=0/\d.name= []
def VE(x y:XD):Bool:=decide (x.2.1<y.2.1\/(x.2.1=y.2.1/\(x.2.2<y.2.2\/(x.2.2=y.2.2/\x.1<y.1))))
theorem ltX(x y:XD):ltOf QM x y=VE x y:=by
 obtain⟨a,b,c⟩:=x;obtain⟨a',b',c'⟩:=y;unfold ltOf QM VE Lib.compareInt;simp only[orL];rw[decide_eq_decide]
 repeat' split
 all_goals simp_all
 all_goals omega
theorem aRg:SWO (ltOf QM) where
 irrefl x:=by rw[ltX];simp[VE]
 trans x y z h1 h2:=by rw[ltX]at*;simp only[VE,decide_eq_true_eq]at*;omega
 ntrans x y z h1 h2:=by rw[ltX]at*;simp only[VE,decide_eq_false_iff_not]at*;omega
theorem zM:∀(ds:List Dg) (i j:Nat) (hi:i<ds.length) (hj:j<5),(aH (ds.map Dg.enc))[i*5+j]? =some (ds[i].enc.cells[j]'(by rw[Dg.enc_len];exact hj))
 |d::ds,0,j,_,hj=>by
  rw[Nat.zero_mul,aTh,aTg,show aH (d.enc::ds.map Dg.enc)=d.enc.cells++aH (ds.map Dg.enc)from rfl,aSv (by rw[Dg.enc_len];exact hj),aTd];rfl
 |d::ds,i+1,j,hi,hj=>by
  rw[aTg,show aH (d.enc::ds.map Dg.enc)=d.enc.cells++aH (ds.map Dg.enc)from rfl,aSw (by rw[Dg.enc_len];omega),Dg.enc_len,show(i+1)*5+j-5=i*5+j by omega];exact zM ds i j (by simpa using hi) hj
theorem aD1{V:cS}{v:Value}:aL V v (.str [])↔v= .string ⟨#[]⟩:=by
 constructor
 ·intro h;generalize hs:([]:List UInt8)=s at h;cases h with
  |str z=>
   obtain⟨⟨l⟩⟩:=z;have hs:l= []:=hs.symm;rw[hs]
 ·rintro rfl;exact .str ⟨#[]⟩
theorem aGb{V:cS}{v:Value}{d:Dg}(hx:zU d):∀(j:Nat) (hj:j<5),aL V v (d.enc.cells[j]'(by rw[Dg.enc_len];exact hj))↔v=(tJ (toX d))[j]! :=by
 intro j hj;have hc:d.enc.cells= [.int .i64 d.code, .int .i64 0, .int .i64 d.st, .int .i64 d.en, .str []]:=by rw[Dg.enc_cells,hx.1,hx.2]
 have hg:d.enc.cells[j]'(by rw[Dg.enc_len];exact hj)= [PV.int .i64 d.code, .int .i64 0, .int .i64 d.st, .int .i64 d.en, .str []][j]'hj:=by simp only[hc]
 rw[hg];have hi:∀n:Int,aL V v (.int .i64 n)↔v= .int .i64 n:=λn=>⟨λh=>h.int_inv,by rintro rfl;exact .int _ _⟩
 match j,hj with
 |0,_=>exact hi _
 |1,_=>exact hi _
 |2,_=>exact hi _
 |3,_=>exact hi _
 |4,_=>exact aD1
def YM(P:Program)(f g:FuncId):Prop:=∀(blk cap:Nat) (d:Array XD) (w:World),HoldsK tJ 5 w blk 0 d->blk<w.heap.size->d.size<4611686018427387904->
 Calls P f #[.slice (some ⟨blk,0,none⟩) d.size cap, .func (.func g) #[] #[]] w λe w'=>e= .returned (.tuple #[])/\∃d' n os,PermIn 0 d.size d d'/\SortedIn (ltOf QM) 0 d.size d'/\w'=sortWorldK tJ 5 w blk 0 n d' os
theorem QX{E:aE}{blk n:Nat}{arr:Array Value}{elem:TypeId}{d':Array XD}{os:Array Obj}(h1:E.w.heap[blk]? =some (.cells arr elem (0,0))):
  (sortWorldK tJ 5 E.w blk 0 n d' os).heap[blk]? =some (.cells (putCells id 0 (flatK tJ 5 d') arr) elem (0,0)):=by
 have hlt:blk<E.w.heap.size:=(Array.getElem?_eq_some_iff.1 h1).1;show((E.w.heap.modify blk (onCells (putCells id 0 (flatK tJ 5 d'))))++os)[blk]? =_;rw[Array.getElem?_append_left (by simpa using hlt),Array.getElem?_modify,if_pos rfl,h1];rfl
theorem TH{w:World}{blk n:Nat}{d':Array XD}{os:Array Obj}:World.Re w (sortWorldK tJ 5 w blk 0 n d' os) blk:=by
 refine⟨rfl,rfl,rfl, ?_,λx hx hne=> ?_⟩
 ·show w.heap.size<=((w.heap.modify blk (onCells (putCells id 0 (flatK tJ 5 d'))))++os).size;simp
 ·show((w.heap.modify blk (onCells (putCells id 0 (flatK tJ 5 d'))))++os)[x]? =_;rw[Array.getElem?_append_left (by simpa using hx),Array.getElem?_modify,if_neg (Ne.symm hne)]
def VV(ds:List Dg):Prop:=ds.Pairwise λa b=>VE (toX b) (toX a)=false
theorem JG{P:Program}{f g:FuncId}(HC:YM P f g){H:aC}{id c:Nat}{bs:List Dg}{rest:List PV}(hid:H[id]? =some (.row (aH (bs.map Dg.enc)++rest)))(hX:∀d∈bs,zU d)(hlen:bs.length<4611686018427387904):
  aN P f [.msl id 0 bs.length c, .fn (.func g) [] []] H λr' H'=>r'= .tup []/\∃bs',bs'.Perm bs/\VV bs'/\H'=H.set id (.row (aH (bs'.map Dg.enc)++rest)):=by
 intro E vargs ho hH hrl;subst hH;obtain⟨arr,elem,h1,h2,h3,h4⟩:=ho.rows id _ hid;have hlt:E.ρ id<E.w.heap.size:=ho.rowBlock hid;have dY:∀l:List Dg,(aH (l.map Dg.enc)).length=l.length*5:=λl=>kG Dg.enc_len l;have hsz:arr.size=bs.length*5+rest.length:=by rw[h2,aTi,dY]
 have hv:vargs= #[.slice (some ⟨E.ρ id,0,none⟩) bs.length c, .func (.func g) #[] #[]]:=by
  obtain⟨hs,hv⟩:=hrl;simp at hs;have v0:aL E.view (vargs.getD 0 undef) (.msl id 0 bs.length c):=hv 0 z6;have v1:aL E.view (vargs.getD 1 undef) (.fn (.func g) [] []):=hv 1 z6;have e0:vargs.getD 0 undef= .slice (some ⟨E.ρ id,0,none⟩) bs.length c:=by generalize vargs.getD 0 undef=q at v0;cases v0;rfl
  have e1:vargs.getD 1 undef= .func (.func g) #[] #[]:=by
   generalize vargs.getD 1 undef=q at v1;cases v1;rename_i a b _ _ _ _;have ha:a= #[]:=Array.eq_empty_of_size_eq_zero (by assumption);have hb:b= #[]:=Array.eq_empty_of_size_eq_zero (by assumption);rw[ha,hb]
  refine Array.ext (by simpa using hs) λi hi hi'=> ?_;simp at hi'
  match i,hi' with
  |0,_=>simpa[Array.getD,hs]using e0
  |1,_=>simpa[Array.getD,hs]using e1
 subst hv;have hget:∀(i j:Nat) (hi:i<bs.length) (hj:j<5),arr.getD (i*5+j) undef=(tJ (toX bs[i]))[j]! :=λi j hi hj=>by
  have hl:i*5+j<(aH (bs.map Dg.enc)++rest).length:=by rw[aTi,dY];omega
  have h:=h3 (i*5+j) hl;have e:(aH (bs.map Dg.enc)++rest)[i*5+j]? =some (bs[i].enc.cells[j]'(by rw[Dg.enc_len];exact hj)):=by
   rw[aSv (by rw[dY];omega)];exact zM bs i j hi hj
  rw[aTd hl]at e;injection e with e;rw[e]at h;exact(aGb (hX _ (aTk hi)) j hj).1 h
 have hds:(bs.map toX).toArray.size=bs.length:=z6
 have hholds:HoldsK tJ 5 E.w (E.ρ id) 0 (bs.map toX).toArray:=by
  intro j hj;rw[size_flatK,hds]at hj;have hd:j/5<bs.length:=z8
  have hm:j%5<5:=Nat.mod_lt _ z8;constructor
  ·have:=hget (j/5) (j%5) hd hm;rw[show j/5*5+j%5=j by omega]at this;rw[get_flatK _ _ _ _ (by rw[hds];exact hj)];unfold World.cell?;simp only[aTh,h1];rw[show(none:Option Nat).isSome=false from rfl];have hj2:j<arr.size:=z8
   rw[aSo,aSt hj2,aSu]at this;simp only[aTc,if_false,aSt hj2,this,_root_.id];simp[hd]
  ·unfold World.frozen?;simp only[h1];simp
 have hc:=HC (E.ρ id) c (bs.map toX).toArray E.w hholds hlt (by rw[hds];exact hlen);rw[hds]at hc;refine hc.mono ?_;rintro e w' ⟨rfl,d',n,os,⟨hp1, -,hp3⟩,hs,rfl⟩;rw[hds]at hp1;have hperm:d'.toList.Perm (bs.map toX):=by
  have e1:d'.extract 0 bs.length=d':=by rw[<-hp1];exact Array.extract_size
  have e2:(bs.map toX).toArray.extract 0 bs.length=(bs.map toX).toArray:=by
   have:bs.length=(bs.map toX).toArray.size:=hds.symm;rw[this];exact Array.extract_size
  rw[e1,e2]at hp3;exact hp3
 have hfx:(bs.map toX).map YV=bs:=by
  rw[List.map_map]
  conv=>rhs;rw[<-List.map_id bs]
  refine List.map_congr_left λd hd=> ?_;obtain⟨q1,q2⟩:=hX d hd;obtain⟨a,b,c',d',e⟩:=d;simp only at q1 q2;subst q1 q2;rfl
 obtain⟨bs',hb'⟩:∃bs',bs'=d'.toList.map YV:=⟨_,rfl⟩;have hpb:bs'.Perm bs:=by rw[hb'];have:=hperm.map YV;rwa [hfx]at this
 have hl':bs'.length=bs.length:=hpb.length_eq;have hX':∀d∈bs',zU d:=λd hd=>hX d (hpb.mem_iff.1 hd);have hbg:∀i (hi:i<bs'.length),toX bs'[i]=d'[i]! :=λi hi=>by
  have hi2:i<d'.size:=z8
  rw[getElem!_pos d' i hi2];simp only[hb',aSh,Array.getElem_toList];rfl
 have hsorted:VV bs':=by
  unfold VV;rw[List.pairwise_iff_getElem];intro i j hi hj hij;have:=hs i j (aTn _) hij z8;rw[ltX]at this;rw[hbg i hi,hbg j hj];exact this
 refine⟨E.reRow id (sortWorldK tJ 5 E.w (E.ρ id) 0 n d' os) (aH (bs'.map Dg.enc)++rest), .tuple #[], .tup [],rfl,rfl,aE.reRow_le ho hid TH _,ho.reRow hid TH _ ⟨_,elem,QX h1, ?_, ?_⟩, .tup _ _ rfl (λi hi=>absurd hi z6),rfl,bs',hpb,hsorted,rfl⟩
 ·rw[aTi,dY,hl'];simp only[putCells,Array.size_mapIdx];exact hsz
 ·intro i hi;have hi0:i<arr.size:=by rw[aTi,dY,hl']at hi;omega
  have hgt:(putCells (_root_.id:Value->Value) 0 (flatK tJ 5 d') arr).getD i undef=if i<bs.length*5 then(flatK tJ 5 d')[i]! else arr.getD i undef:=by
   unfold putCells;rw[aSo,Array.getElem?_mapIdx,aSt hi0];simp only[aS1,aSu,size_flatK,hp1,aTn,true_and,aTh,Nat.sub_zero,_root_.id]
   split
   ·rfl
   ·simp[Array.getD,hi0]
  rw[hgt]
  split
  ·rename_i hlt';have hd:i/5<bs'.length:=z8
   have hm:i%5<5:=Nat.mod_lt _ z8;rw[get_flatK _ _ _ _ (by rw[hp1];exact hlt'),<-hbg _ hd];have e:=zM bs' (i/5) (i%5) hd hm;rw[show i/5*5+i%5=i by omega]at e;have e2:(aH (bs'.map Dg.enc)++rest)[i]? =some (bs'[i/5].enc.cells[i%5]'(by rw[Dg.enc_len];exact hm)):=by
    rw[aSv (by rw[dY];omega)];exact e
   rw[aTd hi]at e2;injection e2 with e2;rw[e2];exact(aGb (hX' _ (aTk hd)) _ hm).2 rfl
  ·rename_i hge;have h:=h3 i (by rw[aTi,dY];omega);have e1:(aH (bs.map Dg.enc)++rest)[i]'(by rw[aTi,dY];omega)=rest[i-bs.length*5]'z8:=by
    rw[List.getElem_append_right (by rw[dY];omega)];simp only[dY]
   have e2:(aH (bs'.map Dg.enc)++rest)[i]'hi=rest[i-bs.length*5]'z8:=by
    rw[List.getElem_append_right (by rw[dY];omega)];simp only[dY,hl']
   rw[e1]at h;rw[e2];simpa[Array.getD,hi0]using h
end Go.Abs
namespace Go.Abs
open Go.Proofs Go.Shelf Go.RowKit Go.Lib Go.Sort
theorem aNt:YM Tryz.prog 57 58:=λblk cap d w hH hblk hsz=>
 AnyQ.slices_SortFunc Tryz.laysSort 5 Tryz.isAgg84 Tryz.sizeOf84 tJ (λ_=>rfl) (λx v hv=>by simp[tJ]at hv;rcases hv with rfl|rfl|rfl|rfl|rfl<;>rfl) QM aRg 58 #[] blk 0 cap d w
  (enters_of Tryz.func58 (by kernel_rfl) rfl) (λ_ _ _ _ x y=>Tryz.cmp58 x y _) hH hblk hsz
theorem aD5{H:aC}{tl:jM}:aN Tryz.prog 57 [.slice [] tl, .fn (.func 58) [] []] H λr' H'=>r'= .tup []/\H'=H:=by
 intro E vargs ho hH hrl;obtain⟨hs,hv⟩:=hrl;simp at hs;have v0:aL E.view (vargs.getD 0 undef) (.slice [] tl):=hv 0 z6;have e0:∃ad cap,vargs.getD 0 undef= .slice ad 0 cap:=by
  generalize vargs.getD 0 undef=q at v0;cases v0
  ·exact⟨_,_,rfl⟩
  ·have hl:= ‹([]:List PV).length=_›;exact⟨_,_,by rw[<-hl];rfl⟩
 obtain⟨ad,cap,e0⟩:=e0;have hv:vargs= #[.slice ad 0 cap,vargs.getD 1 undef]:=by
  refine Array.ext (by simpa using hs) λi hi hi'=> ?_;simp at hi'
  match i,hi' with
  |0,_=>simpa[Array.getD,hs]using e0
  |1,_=>simp[Array.getD,hs]
 rw[hv];refine(AnyF.slices_SortFunc_none {Tryz.laysSort with} ad cap _ E.w).mono ?_;rintro e w' ⟨rfl,rfl⟩;exact⟨E, .tuple #[], .tup [],rfl,rfl, .refl E,ho, .tup _ _ rfl (λi hi=>absurd hi z6),rfl,hH⟩
end Go.Abs
set_option maxRecDepth 4000
namespace Go.Abs
open Go.Proofs
theorem UX(H:aC):aN Tryz.prog 59 [.slice [] .none] H λr H'=>r= .slice [] .none/\H'=H:=by
 refine aF (N:=61) Tryz.func59 rfl rfl z6 λhb'=> ?_;refine uA ?_;refine ZE (a3 y3 rS nT) ?_;refine ZG tN ?_;refine uA ?_;refine wQ ?_;refine wT ⟨.inr rfl,_,rfl, ?_⟩;exact⟨rfl,rfl⟩
theorem QK(src:List UInt8)(k n:Nat){e3 e4:Value}{H0:aC}(hs:src.length<=maxLen)(h2000:(src.length:Int)<=2000)(hlim:(toks src).length<=iB)(hG:EL G0 H0)(hE:tV e3 e4 H0){tr:St}(hp:uR (toks src) k n=some tr){off':Nat}{nd:Nd}{ds:List Dg}(hn:uG src tr 0 []=some (off',nd,ds))(hX:∀d∈ds,zU d)(hl:ds.length<iB):aN Tryz.prog 27 [.str src] H0 λr H'=>∃ds',ds'.Perm ds/\VV ds'/\r= .tup [(fC nd 0 src.length).enc, .slice ((rD ds').map Dg.enc) .none,aB 0]/\Fr [] [] H0 H':=by
 obtain⟨nk,nv,nt,nst,nen,nns,nks⟩:=nd;have hG0:=hG 0 _ rfl;have hH0:=lG hG0;simp only[iB]at hl;refine aF (N:=39) Tryz.func27 rfl rfl z6 λhb'=> ?_;refine ZE bY ?_;refine ZT0 1 ?_;refine ZA0 RU (SD src k n hs h2000 hlim (hG.app _) hp) ?_;rintro _ H1 ⟨rfl,g1⟩;have hl1:=g1.len;simp only[aTi,aS2,aT5]at hl1;have hz1:H1[H0.length]? =some (BL):=(g1.same _ z6 z6).trans z6;refine ZX dM ?_;refine ZE y26 ?_;refine ZF0 ?_;refine qK ?_;refine ZE rI ?_;refine ZL0 [0,2,5,7] ?_;refine ZT 2 dM ?_;refine ZA0 aG4 (aE3 src e3 e4 (H1.length+1) tr 0 [] off' _ ds [] _ hn ⟨.slice [] .full,z6, .nil,z6⟩ (((hE.app _).fr g1 z6 z6).app _)) ?_;rintro _ H2 ⟨rfl,cid2,hB2,g2⟩;have hl2:=g2.len;simp only[aTi,aS2,aT5]at hl2;have hz2:H2[H0.length]? =some (BL):=(g2.same _ (by simp;omega) (by simp;omega)).trans (aA hz1 _);have hzl:=lG hz2;have hc2:∀x∈cid2,H1.length+1<x/\x<H2.length:=λx hx=>⟨by
  obtain⟨_,_,_,hne⟩:=hB2;rcases aSk (H1.length+1) x with h|h
  ·exact h
  ·have:=g2.ids x (by simp[hx]) (by simp;omega);simp at this;subst this;exact absurd hx hne,hB2.lt x (.inr hx)⟩
 have f12:Fr [] [] H0 H2:=⟨z8,λid h1 _=>by rw[g2.same id (by simp;omega) (by simp;omega),aSv z8,g1.same id (by simp;omega) z6,aSv h1],λid h=>by cases h⟩;refine ZX bY ?_;refine ZE (a3 y3 y9 bY) ?_;refine bG (λH3=>iH src off' ds (H1.length+1) cid2 H3/\H3[H0.length]? =some (BL)/\(∃mid,mid=H2.length/\mid<H3.length/\H3[mid]? =some (.row [.int .i64 nk, .int .i64 nv, .str nt, .int .i64 0, .int .i64 (src.length:Int), .int .i64 nns, .slice (nks.map Nd.enc) .none]))/\Fr [] [] H0 H3/\(∀x∈cid2,H1.length+1<x/\x<H2.length)) ?_ ?_
 ·exact⟨hB2.app _,aA hz2 _,⟨H2.length,rfl,z6,z6⟩,f12.app _,hc2⟩
 rintro H3 ⟨hB3,hz3,⟨mid,hmid,hml,hM3⟩,f3,hc3⟩;rw[<-hmid];obtain⟨dv,hb3,hk3,hne3⟩:=id hB3;rcases hk3.cases2 with⟨rfl,rfl,rfl⟩| ⟨ic,c1,rest1,rfl,rfl,hic3,hcl,hmx⟩
 ·
  have x1:=a3 hb3 hM3 hz3;refine ZT 4 (a4 rS nT rI x1) ?_;refine ZA x1 aG9 (aD5) ?_;rintro _ _ ⟨rfl,rfl⟩;have nz0:(H0.length=0)=False:=eq_false z8;refine oN ?_;refine wQ ?_;refine uX 0 rfl (by kernel_rfl) ?_;refine rC 5 rfl (Zp (a5 bY rS nT rI (a2 nz0 x1))) z7 z7 z7 ?_;refine aDo rfl (Ze (a2 nz0 x1)) (Ze (a2 nz0 x1)) (Zeo (a2 nz0 x1)) z7 aGd (λhc L=>UX _) ?_;refine BM (by first| (simp only[LS,HS,aUa,aSg,aT1,lS,hb3,hM3,hz3,nz0]<;>with_reducible rfl)|rfl) ?_;refine uF (bm:= [0,0,2,6,14,30,63,127,255]) (fresh:=0) (by kernel_rfl) (Zx (a3 bY nz0 x1)) z7 (by repeat (first|exact fK.base _|with_reducible apply fK.keep|apply fK.drop)) ?_;refine wQ ?_;have hz6:=aSz (a:=AObj.row [PV.int .i64 nk, .int .i64 nv, .str nt, .int .i64 0, .int .i64 (src.length:Int), .int .i64 nns, .slice (nks.map Nd.enc) .none]) (lG hz3);refine wT ⟨.inr rfl,_,(xG (.cell 2 31) (.tmp 3) (.tmp 4) rfl (fO nQ z7 (Zl hz6)) (aR z7) (aR z7)), ?_⟩;exact⟨[], .refl _,List.Pairwise.nil,rfl,by rw[lS];exact f3.len,λid h1 h2=>by rw[aS0 z8];exact f3.same id h1 h2,λid h=>by cases h⟩
 ·
  have hic:=hc3 ic z6;have hil3:=lG hic3;refine ZT 4 (a4 rS nT rI hb3) ?_;refine ZA hb3 aG9 (JG aNt hic3 hX z8) ?_;rintro _ H4 ⟨rfl,DE,hp1,hs1,h4⟩;have hln:=hp1.length_eq;have hl4:H4.length=H3.length:=by rw[h4,lS]
  have he4:∀j,j≠ic->H4[j]? =H3[j]? :=λj hj=>by rw[h4,aS0 (Ne.symm hj)]
  have hb4:=(he4 (H1.length+1) z8).trans hb3;rw[<-hln]at hb4 hcl;have hM4:=(he4 mid z8).trans hM3;have hz4:=(he4 H0.length z8).trans hz3;have hic4:H4[ic]? =some (.row (aH (DE.map Dg.enc)++rest1)):=by rw[h4,aSz hil3]
  have qz5:∀o,(H4.set ic o)[H0.length]? =some (BL):=λo=>by rw[aS0 z8];exact hz4
  have nzi:(H0.length==ic)=false:=by simp;omega
  have niz:(ic==H0.length)=false:=by simp;omega
  have nmi:(mid==ic)=false:=by simp;omega
  have nim:(ic==mid)=false:=by simp;omega
  have nbi:(H1.length+1==ic)=false:=by simp;omega
  have nib:(ic==H1.length+1)=false:=by simp;omega
  have nz0:(H0.length=0)=False:=eq_false z8;refine oN ?_;refine wQ ?_;refine lU 0 (by kernel_rfl) ?_;have x2:=a5 hb3 hb4 hM4 hz4 (a5 qz5 nzi niz nmi (a4 nim nbi nib nz0));refine tF (bm:= [0,0,2,6,14,30,63,127,255]) 5 (fresh:=0) (by kernel_rfl) (Zd (a5 bY rS nT rI x2)) z7 z7 ?_;refine aEd (bm:= [0,0,2,6,14,30,63,127,255]) [ic] ic (.row (aH ((rD DE).map Dg.enc)++rA DE rest1)) (by kernel_rfl) (Zc x2) (mL x2) z7 aGd (λH' hr=>UN (by rw[hr ic z6];exact hic4) hcl hmx (by simp only[iB];omega)) z6 (Zdr x2) ?_;refine kU (bm:= [0,0,2,6,14,30,63,127,255]) (fresh:=0) (by kernel_rfl) (Zd (a2 bY x2)) z7 ?_;refine wQ ?_;refine UE (cid:= [ic]) Dg.enc_len z7 3 (.of (xs:=rD DE) (rest:=rA DE rest1) rfl (by rw[aS0 z8,aSz z8]) (VI DE rest1 hcl) hmx) rfl λH6 hl6 hs6=> ?_;have hz6:=(hs6 H0.length (by simp;omega)).trans (aSz (by rw[lS];exact lG hz4));refine wT ⟨.inr rfl,_,(xG (.cell 2 31) (.tmp 3) (.tmp 4) rfl (fO nQ z7 (Zl hz6)) (aR z7) (aR z7)), ?_⟩;exact⟨DE,hp1,hs1,rfl,by rw[hl6,lS,lS,hl4];exact f3.len,λid h1 h2=>by rw[hs6 id (by simp;omega),aS0 z8,aS0 z8,he4 id z8];exact f3.same id h1 h2,λid h=>by cases h⟩
end Go.Abs
