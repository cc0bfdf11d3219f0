/- Part 13 of a proof of the law AstReference: Go data as trees, the walks of the functions that the law reaches, the plain laws. -/
import Derived.Test.YtfphoklhgapnpaaGreatDoorGGAstReference
import Derived.Shelf.Strings.Builder1
import Derived.Shelf.Strings.BuilderF
import Derived.Lib.FrozenHead2
import Derived.Lib.OthersKept
import Derived.Test.YtfphoklhgapnpaaGreatDoorProg
import Derived.WalkKit
import Derived.BigCall
import Derived.Lib.Hide
import Derived.KernelRfl
import GoSem.ClaimJoined
import Derived.ChangeArms
import Derived.Carry
import Derived.SizedLaws
import Derived.JoinedCond
import Derived.Deep.CondSized
import Derived.OpenShut
open List renaming all_cons->aSd,all_eq_true->aTr,append_assoc->aUa,append_nil->aT4,cons_append->aSg,contains_iff_mem->aTz,drop_eq_getElem_cons->aUc,drop_zero->aUh,getD_eq_getElem?_getD->aTe,getElem?_append_left->aSv,getElem?_append_right->aSw,getElem?_cons_succ->aS3,getElem?_cons_zero->aTo,getElem?_eq_getElem->aTd,getElem?_eq_none->aSx,getElem?_map->aTb,getElem?_set_ne->aS0,getElem?_set_self->aSz,getElem?_toArray->aTa,getElem_cons_zero->aSj,getElem_map->aSh,getElem_mem->aTk,length_append->aTi,length_cons->aS2,length_drop->aS8,length_eq_zero_iff->aTx,length_map->aSr,length_nil->aT5,length_singleton->aSi,length_take->aS9,map_drop->aUl,map_nil->aT6,map_take->aUk,mem_append->aTs,mem_append_left->aUg,mem_cons->aTv,mem_cons_of_mem->aUj,mem_map->aTq,mem_singleton->aT2,nil_append->aT1,not_mem_nil->aT7,take_append_drop->aT3,take_length->aUd,take_of_length_le->aUf,take_succ_eq_append_getElem->aT8
open Nat renaming le_refl->aSl,le_trans->aSm,lt_of_lt_of_le->aSn,lt_or_ge->aSk,lt_succ_self->aT9,succ_ne_self->aUb,zero_le->aTn
open Array renaming getD_eq_getD_getElem?->aSo,getElem?_toList->aTf
open Int renaming le_refl->aUi
open Option renaming bind_some->aSy,getD_some->aSu
open Bool renaming and_eq_true->aSe,false_eq_true->aTc
set_option linter.unusedVariables false
set_option linter.unusedSimpArgs false
namespace Go.Proofs
open Go.Shelf
def Tryz.lays169_ren:Go.Shelf.Ren:=⟨fun|169=>63|n=>n,fun|70=>123|9=>9|0=>0|72=>126|37=>124|127=>183|3=>3|5=>5|n=>n,fun|n=>n⟩
theorem Tryz.lays169:Go.Proofs.Lays.n169 Tryz.prog Tryz.lays169_ren:= {
 mixed:=by kernel_rfl
 f169:=Tryz.func63.trans (congrArg some (by kernel_rfl))
 t0:=Tryz.underlying0
 a0:=Tryz.isAgg0
 z0:=Tryz.sizeOf0
 v0:=Tryz.zeroValue0
 t3:=Tryz.underlying3
 a3:=Tryz.isAgg3
 z3:=Tryz.sizeOf3
 v3:=Tryz.zeroValue3
 t9:=Tryz.underlying9
 a9:=Tryz.isAgg9
 z9:=Tryz.sizeOf9
 v9:=Tryz.zeroValue9
 t37:=Tryz.underlying124
 a37:=Tryz.isAgg124
 z37:=Tryz.sizeOf124
 v37:=Tryz.zeroValue124
 t70:=Tryz.underlying123
 a70:=Tryz.isAgg123
 z70:=Tryz.sizeOf123
 v70:=Tryz.zeroValue123
 t72:=Tryz.underlying126
 a72:=Tryz.isAgg126
 z72:=Tryz.sizeOf126
 v72:=Tryz.zeroValue126
 t127:=Tryz.underlying183
 a127:=Tryz.isAgg183
 z127:=Tryz.sizeOf183
 v127:=Tryz.zeroValue183}
theorem Tryz.Builder_Extra_169:Builder.Extra Tryz.prog Tryz.lays169_ren:= {
 sizeBuilder:=by kernel_rfl
 liesBuilder:=by kernel_rfl
 t5:=Tryz.underlying5
 a5:=Tryz.isAgg5
 z5:=Tryz.sizeOf5
 v5:=Tryz.zeroValue5
 infoByte:=by kernel_rfl
 cellsByte:=by kernel_rfl
 sizeByte:=by kernel_rfl
 neB5:=by decide}
open Go.RowKit in
theorem Tryz.Builder_String_any_f(B b:Nat)(l:List UInt8)(w:World)(h:Lib.IsBuilderF 126 5 B b (Lib.byteCells l) w)(hBw:B<=w.heap.size):
  Calls Tryz.prog 63 #[.pointer (some ⟨b,0,none⟩)] w λe w'=>e= .returned (.string ⟨l.toArray⟩)/\(Lib.IsBuilderF 126 5 B b (Lib.byteCells l) w'/\Below B w w'):=Any.Builder_String_any_f Tryz.lays169 Tryz.Builder_Extra_169 B b l w h hBw
open Go.RowKit
set_option maxHeartbeats 1000000 in
set_option maxRecDepth 100000 in
theorem Tryz.copyCheck_used(b:Nat)(w:World)(h0:w.cell? ⟨b,0,none⟩=some (.pointer (some ⟨b,0,none⟩))):
  Calls Tryz.prog 119 #[.pointer (some ⟨b,0,none⟩)] w λe w'=>e= .returned (.tuple #[])/\w'=w:=by
 obtain⟨j,hj,_⟩:=Option.map_eq_some_iff.1 Tryz.Builder_Extra_169.sizeBuilder;have mixed:=Tryz.lays169.mixed;have t72:=Tryz.underlying126;have a72:=Tryz.isAgg126;have z72:=Tryz.sizeOf126;have v72:=Tryz.zeroValue126;have u72:=run_underlying Tryz.underlying126;have t70:=Tryz.underlying123;have a70:=Tryz.isAgg123;have z70:=Tryz.sizeOf123;have v70:=Tryz.zeroValue123;have u70:=run_underlying Tryz.underlying123;have t9:=Tryz.underlying9;have a9:=Tryz.isAgg9;have z9:=Tryz.sizeOf9;have v9:=Tryz.zeroValue9;have u9:=run_underlying Tryz.underlying9;have t4:=Tryz.underlying4;have a4:=Tryz.isAgg4;have z4:=Tryz.sizeOf4;have v4:=Tryz.zeroValue4;have u4:=run_underlying Tryz.underlying4;have t164:=Tryz.underlying223;have a164:=Tryz.isAgg223;have z164:=Tryz.sizeOf223;have v164:=Tryz.zeroValue223;have u164:=run_underlying Tryz.underlying223
 go_enter Tryz.func119,Tryz.ntmps119
 go_wp2
 rw[Lib.run_neq_ptr_same w _ Tryz.underlying123 hj]
 go_wp2
 go_end0
 exact⟨rfl,rfl⟩
set_option maxHeartbeats 1000000 in
set_option maxRecDepth 100000 in
theorem Tryz.copyCheck_fresh(b:Nat)(w:World)(h0:w.cell? ⟨b,0,none⟩=some (.pointer none))(hsh:w.shape? b=some (126,2))(hfz:w.frozen? ⟨b,0,none⟩=false):
  Calls Tryz.prog 119 #[.pointer (some ⟨b,0,none⟩)] w λe w'=>e= .returned (.tuple #[])/\w'=w.setCell ⟨b,0,none⟩ (.pointer (some ⟨b,0,none⟩)):=by
 obtain⟨j,hj,hjs⟩:=Option.map_eq_some_iff.1 Tryz.Builder_Extra_169.sizeBuilder;have mixed:=Tryz.lays169.mixed;have t72:=Tryz.underlying126;have a72:=Tryz.isAgg126;have z72:=Tryz.sizeOf126;have v72:=Tryz.zeroValue126;have u72:=run_underlying Tryz.underlying126;have t70:=Tryz.underlying123;have a70:=Tryz.isAgg123;have z70:=Tryz.sizeOf123;have v70:=Tryz.zeroValue123;have u70:=run_underlying Tryz.underlying123;have t9:=Tryz.underlying9;have a9:=Tryz.isAgg9;have z9:=Tryz.sizeOf9;have v9:=Tryz.zeroValue9;have u9:=run_underlying Tryz.underlying9;have t4:=Tryz.underlying4;have a4:=Tryz.isAgg4;have z4:=Tryz.sizeOf4;have v4:=Tryz.zeroValue4;have u4:=run_underlying Tryz.underlying4;have t164:=Tryz.underlying223;have a164:=Tryz.isAgg223;have z164:=Tryz.sizeOf223;have v164:=Tryz.zeroValue223;have u164:=run_underlying Tryz.underlying223
 go_enter Tryz.func119,Tryz.ntmps119
 go_wp2
 rw[Lib.run_to_unsafe w ⟨b,0,none⟩ Tryz.underlying123 Tryz.underlying223 hj (by rw[hjs];decide) hsh (Nat.zero_lt_succ 1)];simp only[Result.andThen];rw[Oper.upon_value]
 go_wp2
 rw[run_callFunc_extern Tryz.func186 (by kernel_rfl) (by kernel_rfl) (by kernel_rfl) (e:=Extern.AbiNoEscape.same) (by kernel_rfl)];rw[Lib.run_noEscape];simp only[Result.andThen];rw[Oper.upon_value]
 go_wp2
 rw[Lib.run_from_unsafe w ⟨b,0,none⟩ Tryz.underlying223 Tryz.underlying123 hj hsh Tryz.Builder_Extra_169.liesBuilder];simp only[Result.andThen];rw[Oper.upon_value]
 go_wp2
 go_end0
 exact⟨rfl,rfl⟩
theorem Tryz.copyCheck_k(B b:Nat)(bs:List Value)(w:World)(h:Lib.IsBuilderF 126 5 B b bs w):
  Calls Tryz.prog 119 #[.pointer (some ⟨b,0,none⟩)] w λe w'=>e= .returned (.tuple #[])/\(Lib.BuilderAtF 126 5 B b (.pointer (some ⟨b,0,none⟩)) bs w'/\Below B w w'/\Lib.OthersKept 5 (some b) w w'):=by
 rcases h with h|h
 ·refine(Tryz.copyCheck_fresh b w h.cell0 h.shape h.frozen0).mono ?_;rintro e w' ⟨rfl,rfl⟩;exact⟨rfl,h.used _,(Below.refl B w).setCell (p:=⟨b,0,none⟩) h.1 _,(Lib.OthersKept.refl _ _ w).setCell ⟨b,0,none⟩ rfl _⟩
 ·refine(Tryz.copyCheck_used b w h.cell0).mono ?_;rintro e w' ⟨rfl,rfl⟩;exact⟨rfl,h,Below.refl B _,Lib.OthersKept.refl _ _ _⟩
set_option maxHeartbeats 2000000 in
set_option maxRecDepth 100000 in
theorem Tryz.wrk(B b:Nat)(bs:List Value)(s:ByteArray)(w:World)(h:Lib.IsBuilderF 126 5 B b bs w)(hlen:bs.length+s.size<=140737488355328)(hBw:B<=w.heap.size):
  Calls Tryz.prog 62 #[.pointer (some ⟨b,0,none⟩), .string s] w λe w'=>e= .returned (.tuple #[.int .i64 s.size, .nilIface])/\(Lib.BuilderAtF 126 5 B b (.pointer (some ⟨b,0,none⟩)) (bs++Lib.strCells s) w'/\Below B w w'/\Lib.OthersKept 5 (some b) w w'):=by
 obtain⟨i0,hi,hz0,hz1,hz2⟩:=info_parts Tryz.Builder_Extra_169.infoByte;have mixed:=Tryz.lays169.mixed;have t72:=Tryz.underlying126;have a72:=Tryz.isAgg126;have z72:=Tryz.sizeOf126;have v72:=Tryz.zeroValue126;have u72:=run_underlying Tryz.underlying126;have t70:=Tryz.underlying123;have a70:=Tryz.isAgg123;have z70:=Tryz.sizeOf123;have v70:=Tryz.zeroValue123;have u70:=run_underlying Tryz.underlying123;have t9:=Tryz.underlying9;have a9:=Tryz.isAgg9;have z9:=Tryz.sizeOf9;have v9:=Tryz.zeroValue9;have u9:=run_underlying Tryz.underlying9;have t4:=Tryz.underlying4;have a4:=Tryz.isAgg4;have z4:=Tryz.sizeOf4;have v4:=Tryz.zeroValue4;have u4:=run_underlying Tryz.underlying4;have t164:=Tryz.underlying223;have a164:=Tryz.isAgg223;have z164:=Tryz.sizeOf223;have v164:=Tryz.zeroValue223;have u164:=run_underlying Tryz.underlying223;have t37:=Tryz.underlying124;have a37:=Tryz.isAgg124;have z37:=Tryz.sizeOf124;have v37:=Tryz.zeroValue124;have u37:=run_underlying Tryz.underlying124;have t3:=Tryz.underlying3;have a3:=Tryz.isAgg3;have z3:=Tryz.sizeOf3;have v3:=Tryz.zeroValue3;have u3:=run_underlying Tryz.underlying3;have t5:=Tryz.underlying5;have a5:=Tryz.isAgg5;have z5:=Tryz.sizeOf5;have v5:=Tryz.zeroValue5;have u5:=run_underlying Tryz.underlying5;have e240:∀args w,(callFunc 119 args).run Tryz.prog w= .ok (.enter 119 args) w:=enters_of Tryz.func119 (by kernel_rfl) rfl
 go_enter Tryz.func62,Tryz.ntmps62
 go_wp2_with (go_at_fn 119;refine(Tryz.copyCheck_k B b bs _ h).mono ?_)
 rintro e w1 ⟨rfl,h1,hb1,hk1⟩;obtain⟨hB,v,hbk,hown,hne⟩:=h1;have c0:w1.cell? ⟨b,0,none⟩=some (.pointer (some ⟨b,0,none⟩)):=by rw[Lib.cell_of_heap hbk];rfl
 have c1:w1.cell? ⟨b,1,none⟩=some v:=by rw[Lib.cell_of_heap hbk];rfl
 go_wp2_with (at_builtin;refine Lib.wpList_append_own_stringF _ rfl _ _ 124 9 rfl B 5 i0 Tryz.underlying124 Tryz.underlying9 hi hz0 hz1 hz2 _ _ _ rfl hown s rfl ?c3 ?c4 ?c5 ?_)
 case c3=>unfold maxLen;omega
 case c4=>omega
 case c5=>have:=hb1.size;omega
 intro v' w2 hown' hgrow _;have hlt:b<w1.heap.size:=by
  rcases aSk b w1.heap.size with h'|h'
  ·exact h'
  ·simp[Array.getElem?_eq_none h']at hbk
 have hb2:w2.heap[b]? =some (.cells #[.pointer (some ⟨b,0,none⟩),v] 126 (0,0)):=by
  rw[hgrow.block b hlt (λe=>hne e.symm)];exact hbk
 have d0:w2.cell? ⟨b,0,none⟩=some (.pointer (some ⟨b,0,none⟩)):=by rw[Lib.cell_of_heap hb2];rfl
 have d1:w2.cell? ⟨b,1,none⟩=some v:=by rw[Lib.cell_of_heap hb2];rfl
 have f1:w2.frozen? ⟨b,1,none⟩=false:=Lib.frozen_of_heap hb2 1;obtain⟨ao,n',cap,rfl⟩:∃ao n' cap,v'= .slice ao n' cap:=by
  rcases hown'.2 with⟨hv,_⟩| ⟨g,cap,cur,fz,hv,_⟩
  ·exact⟨_,_,_,hv⟩
  ·exact⟨_,_,_,hv⟩
 go_wp2
 go_ret2
 refine⟨rfl, ?_, ?_,(hk1.grown hgrow (Lib.ownsRowF_kind hown)).setCell ⟨b,1,none⟩ rfl _⟩
 ·exact Lib.BuilderAtF.put (T:=126) (e:=5) hB hb2 (bs':=bs++Lib.strCells s) (by simpa[Lib.strCells_length]using hown') z7
 ·exact(hb1.grown hgrow (by have:=hb1.size;omega) (λk hk=>(hown.lt k hk).1)).setCell (p:=⟨b,1,none⟩) hB _
theorem Tryz.wr(B b:Nat)(bs:List Value)(s:ByteArray)(w:World)(h:Lib.IsBuilderF 126 5 B b bs w)(hlen:bs.length+s.size<=140737488355328)(hBw:B<=w.heap.size):
  Calls Tryz.prog 62 #[.pointer (some ⟨b,0,none⟩), .string s] w λe w'=>e= .returned (.tuple #[.int .i64 s.size, .nilIface])/\(Lib.BuilderAtF 126 5 B b (.pointer (some ⟨b,0,none⟩)) (bs++Lib.strCells s) w'/\Below B w w'):=
 (Tryz.wrk B b bs s w h hlen hBw).mono λ_ _ h=>⟨h.1,h.2.1,h.2.2.1⟩
end Go.Proofs
namespace Go.Abs
open Go.Proofs Go.RowKit
mutual
def uC:St->List UInt8
 | .mk k x ch=>if k>=100 then x else kS ch
def kS:List St->List UInt8
 | []=> []
 |t::ts=>uC t++kS ts
end
theorem zL:∀a b,kS (a++b)=kS a++kS b
 | [],b=>by simp[kS]
 |t::a,b=>by simp only[aSg,kS,zL a b,aUa]
theorem QB{tc:List St}{i:Nat}(h:i<tc.length):kS (tc.take (i+1))=kS (tc.take i)++uC tc[i]:=by
 rw[List.take_add_one,aTd h,zL];simp[kS]
theorem aAj{tc:List St}(i:Nat):(kS (tc.take i)).length<=(kS tc).length:=by
 conv=>rhs;rw[<-aT3 i tc,zL,aTi]
 omega
theorem aEk(a:Addr)(k:Nat):a.add (k+1)=⟨(a.add k).block,(a.add k).off+1,none⟩:=by
 unfold Addr.add;rw[if_neg z8]
 by_cases h:k=0
 ·simp[h]
 ·simp only[if_neg h,Addr.mk.injEq,true_and,and_true];omega
theorem aEc(a:Addr)(k:Nat):a.add (k+2)=⟨(a.add k).block,(a.add k).off+2,none⟩:=by
 unfold Addr.add;rw[if_neg z8]
 by_cases h:k=0
 ·simp[h]
 ·simp only[if_neg h,Addr.mk.injEq,true_and,and_true];omega
theorem US{T e:TypeId}{B b:Nat}{bs:List Value}{w w':World}(h:Lib.IsBuilderF T e B b bs w)(hb:Below w.heap.size w w'):Lib.IsBuilderF T e B b bs w':=by
 have key:∀p,Lib.BuilderAtF T e B b p bs w->Lib.BuilderAtF T e B b p bs w':=by
  rintro p ⟨hB,v,h1,h2,h3⟩;refine⟨hB,v, ?_,h2.kept (row:=none) ⟨hb.os,hb.tape,hb.output,hb.size,λk hk _=>hb.block k hk⟩ ?_,h3⟩
  ·rw[hb.block _ (Array.getElem?_eq_some_iff.1 h1).1];exact h1
  ·cases h:v.ownBlock<;>simp
 exact h.imp (key _) (key _)
theorem aDd{n i:Nat}(h:i<n):n- ((i:Int)+1).toNat<n- (i:Int).toNat:=by
 rw[show((i:Int)+1).toNat=i+1 from rfl,show(i:Int).toNat=i from rfl];omega
def GW:Value->Nat
 | .int _ n=>n.toNat
 |_=>0
theorem MP{V:cS}{v:Value}{t:St}(h:aL V v t.enc):∃z sl,v= .agg #[.int .i64 t.kind, .string z,sl]/\z.data.toList=t.text/\aL V sl (.slice (t.ch.map St.enc) .none):=by
 rw[St.enc_eq]at h;cases h with
 |agg arr cs hl hr=>
  have h0:=hr 0 z6;have h1:=hr 1 z6;have h2:=hr 2 z6;simp only[aSj,List.getElem_cons_succ]at h0 h1 h2;obtain⟨x0,x1,x2,rfl⟩:∃x0 x1 x2,arr= #[x0,x1,x2]:=by
   have hl':arr.size=3:=by simpa using hl
   exact⟨arr[0],arr[1],arr[2],by apply Array.ext<;>simp[hl'];intro i hi hi2;match i,hi2 with|0,_=>rfl|1,_=>rfl|2,_=>rfl⟩
  simp only[aSo,aTa,aTo,aS3,aSu]at h0 h1 h2;cases h0;generalize hs:t.text=s at h1;cases h1 with
  |str z=>exact⟨z,x2,rfl,rfl,h2⟩
theorem NL{V:cS}{sl:Value}{tc:List St}(h:aL V sl (.slice (tc.map St.enc) .none)):∃ao cap,sl= .slice ao tc.length cap/\tc.length<=maxLen/\∀i (hi:i<tc.length),∃a x0 x1 x2,ao=some a/\
  V.cell (a.add (i*3))=some x0/\V.cell (a.add (i*3+1))=some x1/\V.cell (a.add (i*3+2))=some x2/\aL V (.agg #[x0,x1,x2]) tc[i].enc:=by
 generalize he:tc.map St.enc=es at h;cases h with
 |nils _ _=>
  obtain rfl:tc= []:=by simpa using he
  exact⟨none,0,rfl,aTn _,λi hi=>by simp at hi⟩
 |slice a len cap sz _ _ vs hl hcap hmax hsz hc hr ht=>
  subst he;rw[aSr]at hl;subst hl;refine⟨some a,cap,rfl,z8,λi hi=> ?_⟩;have hi':i<(tc.map St.enc).length:=by simpa using hi
  have hz:=hsz i hi';simp only[aSh,St.enc_cells,aS2,aT5]at hz;subst hz;have hce:((tc.map St.enc)[i]).cells= [.int .i64 tc[i].kind, .str tc[i].text, .slice (tc[i].ch.map St.enc) .none]:=by rw[aSh,St.enc_cells]
  refine⟨a,vs i 0,vs i 1,vs i 2,rfl,hc i 0 hi z8,hc i 1 hi z8,hc i 2 hi z8, ?_⟩;have hg:∀j (hj:j<3),aL V (vs i j) ((tc[i].enc.cells)[j]'(by rw[St.enc_cells];exact hj)):=λj hj=>by
   have:=hr i j hi' (by rw[hce];exact hj);simp only[aSh]at this;exact this
  rw[St.enc_eq];have g0:=hg 0 z8;have g1:=hg 1 z8;have g2:=hg 2 z8;simp only[St.enc_cells,aSj,List.getElem_cons_succ]at g0 g1 g2;refine .agg _ _ rfl λj hj=> ?_
  match j,hj with
  |0,_=>exact g0
  |1,_=>exact g1
  |2,_=>exact g2
set_option maxHeartbeats 4000000 in
set_option maxRecDepth 100000 in
theorem aPd(V:cS):∀(k:Nat) (t:St),t.size<=k->∀(v:Value) (w:World),aL V v t.enc->(∀a x,V.cell a=some x->w.cell? a=some x)->(uC t).length<=140737488355328->
  Calls Tryz.prog 33 #[v] w λe w'=>e= .returned (.string ⟨(uC t).toArray⟩)/\Below w.heap.size w w':=by
 intro k
 induction k with
 |zero=>intro t ht;cases t;simp[St.size]at ht
 |succ k ih=>
 intro t ht v w hv hw hlen;obtain⟨z,sl,rfl,hz,hs⟩:=MP hv;obtain⟨tk,tx,tc⟩:=t;simp only[St.kind,St.text,St.ch]at hz hs;have hv:Calls Tryz.prog 33 #[.agg #[.int .i64 tk, .string z,sl]] w λe w'=>e= .returned (.string ⟨(uC (.mk tk tx tc)).toArray⟩)/\Below w.heap.size w w':=by
  by_cases h1:tk<100
  ·have h2:¬(100<=tk):=z8
   have hsr:uC (.mk tk tx tc)=kS tc:=by rw[uC,if_neg z8]
   rw[hsr]at hlen⊢;clear hv;obtain⟨ao,cap,rfl,hmx,hk⟩:=NL hs;have h0:Lib.IsBuilderF 126 5 (w.heap.size+1) (w.heap.size+1) (Lib.byteCells []) ((w.alloc (.cells #[.int .i64 tk, .string z, .slice ao tc.length cap] 67)).alloc (.cells #[.pointer none, .slice none 0 0] 126)):=by
    have:=Lib.IsBuilderF.of (Lib.fresh_isBuilder 126 5 (w.alloc (.cells #[.int .i64 tk, .string z, .slice ao tc.length cap] 67)));rw[show Lib.byteCells []= []from rfl];simpa using this
   have b0:Below w.heap.size w ((w.alloc (.cells #[.int .i64 tk, .string z, .slice ao tc.length cap] 67)).alloc (.cells #[.pointer none, .slice none 0 0] 126)):=((Below.refl _ w).alloc (aSl _) _).alloc z6 _;have HI:=Lib.hid ih;have HK:=Lib.hid hk;have HW:=Lib.hid hw;clear ih hk hw hs
   go_enter Tryz.func33,Tryz.ntmps33
   go_wp2
   go_loopw [14] (λtv wr=>∃i:Nat,tv= .int .i64 (i:Int)/\i<=tc.length/\Lib.IsBuilderF 126 5 (w.heap.size+1) (w.heap.size+1) (Lib.byteCells (kS (tc.take i))) wr/\Below w.heap.size w wr) (λtv _=>tc.length-GW tv)
   case atStart=>exact⟨0,rfl,aTn _,h0,b0⟩
   case round=>
    obtain⟨i,rfl,hi,hI,hbw⟩:=hrel;have hsize:=hbw.size;have hb1:w.heap.size+1<wr.heap.size:=by
     rcases hI with⟨_,v,hb,_⟩| ⟨_,v,hb,_⟩<;>exact(Array.getElem?_eq_some_iff.1 hb).1
    by_cases hl:i<tc.length
    ·have hli:(i:Int)<(tc.length:Int):=z8
     obtain⟨a,x0,x1,x2,rfl,c0,c1,c2,hv⟩:=HK.out i hl;have hm:∀q x,V.cell q=some x->wr.cell? q=some x:=λq x h=>by
      have h':=HW.out q x h;rw[hbw.cell (World.block_lt_of_cell? _ _ h')];exact h'
     have c0:=hm _ _ c0;have c1:wr.cell? ⟨(a.add (i*3)).block,(a.add (i*3)).off+1,none⟩=some x1:=by have:=hm _ _ c1;rw[aEk]at this;exact this
     have c2:wr.cell? ⟨(a.add (i*3)).block,(a.add (i*3)).off+2,none⟩=some x2:=by have:=hm _ _ c2;rw[aEc]at this;exact this
     have hst:kS (tc.take (i+1))=kS (tc.take i)++uC tc[i]:=QB hl;have hle:(kS (tc.take i)).length+(uC tc[i]).length<=140737488355328:=by
      have:=aAj (tc:=tc) (i+1);rw[hst,aTi]at this;omega
     have hsz:tc[i].size<=k:=by have:=St.size_ch (t:=.mk tk tx tc) (aTk hl);omega
     obtain⟨z',sl',hx,hz',hs'⟩:=MP hv;obtain⟨ao',cap',rfl,_,_⟩:=NL hs';have HV:=Lib.hid hv;clear hv hs';simp only[Value.agg.injEq,Array.mk.injEq,List.cons.injEq,and_true]at hx;obtain⟨rfl,rfl,rfl⟩:=hx;have hw64:wrap64 ((i:Int)+1)=(i:Int)+1:=by
      have e2:maxLen=9223372036854775807:=z7
      unfold wrap64;omega
     have HM:=Lib.hid hm;clear hm
     go_wp2_with (go_at_call 33;refine(HI.out tc[i] hsz _ _ HV.out (λq x h=> ?_) z8).mono ?_)
     ·have h':=HM.out q x h;rw[((Below.refl wr.heap.size wr).alloc (aSl _) _).cell (World.block_lt_of_cell? _ _ h')];exact h'
     rintro e W1 ⟨rfl,b1⟩;have bW:Below w.heap.size w W1:=(hbw.alloc hsize _).trans (b1.mono (by simp;omega));have hI1:=US (Lib.IsBuilderF.alloc hI _) b1;have hB1:w.heap.size+1<=W1.heap.size:=by have:=b1.size;simp at this;omega
     have hle':(Lib.byteCells (kS (tc.take i))).length+(⟨(uC tc[i]).toArray⟩:ByteArray).size<=140737488355328:=by
      rw[Lib.byteCells_length];simpa[ByteArray.size]using hle
     have HST:=Lib.hid hst;clear hst hle
     go_wp2_with (go_at_call 62;refine(Tryz.wr (w.heap.size+1) (w.heap.size+1) _ _ _ hI1 hle' hB1).mono ?_)
     rintro e W2 ⟨rfl,h2,b2⟩
     go_wp2
     go_roundw
     case rel=>
      refine⟨i+1,by simp[hw64],Nat.succ_le_of_lt hl, ?_,bW.trans (b2.mono (Nat.le_succ _))⟩;rw[HST.out];rw[Lib.strCells_eq,<-Lib.byteCells_append]at h2;exact Or.inr h2
     case measure=>simp only[hw64,GW,aSo,aTa,aS3,aTo,aSu];exact aDd hl
    ·have hli:¬((i:Int)<(tc.length:Int)):=z8
     obtain rfl:i=tc.length:=z8
     rw[aUd]at hI;clear h0 b0 HI HK HW
     go_wp2_with (go_at_call 63;refine(Tryz.Builder_String_any_f (w.heap.size+1) (w.heap.size+1) (kS tc) _ hI z8).mono ?_)
     rintro e W1 rfl hI1 b1;have hb:=hbw.trans (b1.mono (Nat.le_succ _));clear hI1 hI b1 hbw
     go_wp2
     first|go_ret|go_ret2|go_end0
     exact⟨rfl,hb⟩
  ·have hsr:uC (.mk tk tx tc)=tx:=by rw[uC,if_pos z8]
   rw[hsr];have h2:(100<=tk):=z8
   clear hv ih hlen
   go_enter Tryz.func33,Tryz.ntmps33
   go_wp2
   ·go_ret
    subst hz;exact⟨rfl,(Below.refl _ w).alloc (aSl _) _⟩
 exact hv
theorem LT{E:aE}{a:Addr}{x:Value}(h:E.view.cell a=some x):E.w.cell? a=some x:=by
 simp only[aE.view]at h
 split at h
 ·exact h
 ·cases h
theorem aQg{H:aC}(t:St)(h:(uC t).length<=140737488355328):aN Tryz.prog 33 [t.enc] H λr H'=>r= .str (uC t)/\H'=H:=by
 refine oT λE vargs ho hH hrl=> ?_;obtain⟨hsz,hr⟩:=hrl;have h0:=hr 0 z6;simp only[aSj]at h0;obtain⟨v0,rfl⟩:∃v0,vargs= #[v0]:=by
  have:vargs.size=1:=by simpa using hsz
  exact⟨vargs[0],by apply Array.ext<;>simp[this];intro i hi;subst hi;rfl⟩
 simp only[aSo,aTa,aTo,aSu]at h0;exact⟨_,aL.str ⟨(uC t).toArray⟩,aPd E.view _ t (aSl _) v0 E.w h0 (λ_ _=>LT) h⟩
end Go.Abs
set_option maxRecDepth 4000
namespace Go.Abs
open Go.Proofs
def dv(l:List UInt8)(a:Nat):Nat:=l.foldl (λa c=>a*10+(c.toNat-48)) a
theorem XQ:∀(l:List UInt8) (a:Nat),a<=dv l a
 | [],a=>aSl _
 |c::l,a=>by have:=XQ l (a*10+(c.toNat-48));show a<=dv l (a*10+(c.toNat-48));omega
theorem MQ:∀(l:List UInt8) (a:Nat),l.all GP=true->a<18446744073709551616->Lib.parseUint10 a l= .ok (dv l a)\/(Lib.parseUint10 a l= .range/\18446744073709551616<=dv l a)
 | [],a,h,ha=>.inl rfl
 |c::l,a,h,ha=>by
  rw[aSd,aSe]at h;have hc:=h.1;simp only[GP,aSe,decide_eq_true_eq]at hc;have hg:=XQ l (a*10+(c.toNat-48));simp only[Lib.parseUint10,if_pos hc]
  split
  ·exact .inr ⟨rfl,by show _<=dv l (a*10+(c.toNat-48));omega⟩
  ·split
   ·exact .inr ⟨rfl,by show _<=dv l (a*10+(c.toNat-48));omega⟩
   ·exact MQ l _ h.2 z8
theorem aPy{c:UInt8}(h:GP c=true):((c-48).toNat:Int)=(c.toNat:Int) -48/\48<=c.toNat:=by
 simp only[GP,aSe,decide_eq_true_eq]at h;have:=c.toNat_lt;rw[UInt8.toNat_sub,show(48:UInt8).toNat=48 from rfl];omega
theorem aOy:∀(l:List UInt8),l.all GP=true->l.foldl rM (2147483647,false)=(2147483647,false)
 | [],h=>rfl
 |c::l,h=>by
  rw[aSd,aSe]at h;have hc:=aPy h.1;rw[List.foldl_cons,rM,if_pos (by simp only;omega)];exact aOy l h.2
theorem aP2:∀(l:List UInt8) (a:Nat),l.all GP=true->l.foldl rM ((a:Int),true)=if dv l a<=2147483647 then((dv l a:Int),true)else if a<=2147483647 then(2147483647,false)else l.foldl rM ((a:Int),true)
 | [],a,h=>by
  show _=if a<=_ then _ else _
  split
  ·rfl
  ·rfl
 |c::l,a,h=>by
  rw[aSd,aSe]at h;have hc:=aPy h.1;have hg:=XQ l (a*10+(c.toNat-48));have hd:dv (c::l) a=dv l (a*10+(c.toNat-48)):=rfl;have hn:((a*10+(c.toNat-48):Nat):Int)=10*(a:Int)+((c-48).toNat:Int):=z8
  rw[List.foldl_cons,hd]
  by_cases h1:a*10+(c.toNat-48)<=2147483647
  ·have e:rM ((a:Int),true) c=(((a*10+(c.toNat-48):Nat):Int),true):=by
    rw[rM,if_neg (by simp only;omega),hn]
   rw[e,aP2 l _ h.2,if_pos h1,if_pos (show a<=2147483647 by omega)]
  ·have e:rM ((a:Int),true) c=(2147483647,false):=by
    rw[rM,if_pos (by simp only;omega)]
   rw[e,aOy l h.2,if_neg z8]
   split<;>rfl
theorem aEu{t:List UInt8}(h:t.all GP=true)(hne:t≠ []):(match GI t with|some v=>wH t=(v,true)|none=>wH t=(2147483647,false)):=by
 have hN:=aP2 t 0 h;have hP:=MQ t 0 h z7;cases t with
 |nil=>exact absurd rfl hne
 |cons c r=>
  rw[aSd,aSe]at h;have hc:=h.1;simp only[GP,aSe,decide_eq_true_eq]at hc;have h43:¬c.toNat=43:=z8
  have h45:¬c.toNat=45:=z8
  have hm:Lib.parseMag (c::r)=Lib.parseUint10 0 (c::r):=by unfold Lib.parseMag;rw[if_neg z6]
  generalize dv (c::r) 0=v at hN hP;have hN':wH (c::r)=if v<=2147483647 then((v:Int),true)else(2147483647,false):=by
   unfold wH;rw[show(0:Int)=((0:Nat):Int)from rfl,hN]
   split
   ·rfl
   ·rw[if_pos z7]
  rw[hN'];unfold GI Lib.atoiAll;simp only[h43,h45,or_self,if_false,hm,not_false_eq_true,true_and,false_and];rcases hP with hP| ⟨hP,hb⟩
  ·rw[hP];simp only
   by_cases h2:9223372036854775808<=v
   ·rw[if_pos h2];simp only[PL];rw[if_neg z8]
   ·rw[if_neg h2];simp only[PL]
    by_cases h3:v<=2147483647
    ·rw[if_neg z8,if_pos h3]
    ·rw[if_pos z8,if_neg h3]
  ·rw[hP];simp only[PL];rw[if_neg z8]
def gU(st:Int):List UInt8->Nat->List UInt8×List Dg×Bool->List UInt8×List Dg×Bool
 | [],_,z=>z
 |c::r,i,z=>gU st r (i+1) (rT st z i c)
theorem SV(st:Int)(c:UInt8):∀(l:List UInt8) (i:Nat) (z:List UInt8×List Dg×Bool),gU st (l++ [c]) i z=rT st (gU st l i z) (i+l.length) c
 | [],i,z=>rfl
 |d::l,i,z=>by
  rw[aSg,gU,SV st c l,gU,aS2];congr 1;omega
theorem TY(s:List UInt8)(st:Int):∀j,j+1<=s.length->jT s st j=gU st ((s.drop 1).take j) 1 ([],[],false)
 |0,h=>by rw[List.take_zero];rfl
 |j+1,h=>by
  have hl:j<(s.drop 1).length:=by rw[aS8];omega
  rw[jT,TY s st j z8,aT8 hl,SV];have e:s.getD (j+1) 0=(s.drop 1)[j]:=by
   rw[aTe,aTd z8,aSu,List.getElem_drop];congr 1;omega
  rw[e,aS9];congr 1;omega
theorem QT(st:Int):∀(n:Nat) (b:List UInt8),b.length<=n->lA false b=some b.length->∀(i:Nat) (o:List UInt8) (ds:List Dg),
  gU st b.dropLast i (o,ds,false)=(o++(kM b (st+i)).1,ds++(kM b (st+i)).2,false)
 |0,b,hn,h,i,o,ds=>by
  rw[aTx.1 (by omega:b.length=0)]at h;cases h
 |n+1,[],hn,h,i,o,ds=>by cases h
 |n+1,[c],hn,h,i,o,ds=>by simp[gU,kM]
 |n+1,c::d::r,hn,h,i,o,ds=>by
  simp only[aS2]at hn;rw[lA]at h
  split at h
  ·cases h
  rename_i h10
  split at h
  ·injection h with h;simp at h
  rename_i h34;obtain⟨m,hm,h⟩:=Option.map_eq_some_iff.1 h;have hm':m=(d::r).length:=by simp only[aS2]at h⊢;omega
  subst hm'
  by_cases h92:c=92
  ·subst h92;rw[lA]at hm
   split at hm
   ·cases hm
   split at hm
   ·rename_i hq;cases hq.2
   obtain⟨m2,hm2,hm⟩:=Option.map_eq_some_iff.1 hm;have hm':m2=r.length:=by simp only[aS2]at hm⊢;omega
   subst hm';have hm3:lA false r=some r.length:=by simpa using hm2
   cases r with
   |nil=>cases hm3
   |cons x r=>
    have hI:=QT st n (x::r) (by simp only[aS2]at hn⊢;omega) hm3 (i+2);rw[show List.dropLast (92::d::x::r)=92::d::(x::r).dropLast from rfl,gU,gU,kM,if_pos rfl];have e1:rT st (o,ds,false) i 92=(o,ds,true):=rfl;rw[e1];have hp:st+((i+2:Nat):Int)=st+(i:Int)+2:=z8
    have hp2:st+((i+1:Nat):Int) -1=st+(i:Int):=z8
    have hp3:st+((i+1:Nat):Int)+1=st+(i:Int)+2:=z8
    by_cases q:d=110
    ·subst q;have e2:rT st (o,ds,true) (i+1) 110=(o++ [10],ds,false):=rfl;rw[e2,show i+1+1=i+2 from rfl,hI,hp];simp
    ·have e2:rT st (o,ds,true) (i+1) d=(o++ [d],(if d=34\/d=92 then ds else ds++ [gZ 6 (st+i) (st+i+2)]),false):=by
      simp only[rT,hp2,hp3]
      by_cases q1:d=34
      ·subst q1;rfl
      by_cases q2:d=92
      ·subst q2;rfl
      simp[q,q1,q2]
     rw[e2,show i+1+1=i+2 from rfl,hI,hp];simp only[q,if_false,false_or,aUa,aSg,aT1]
     split<;>simp
  ·have hm3:lA false (d::r)=some (d::r).length:=by simpa[h92]using hm
   have hI:=QT st n (d::r) (by simp only[aS2]at hn⊢;omega) hm3 (i+1);have e1:rT st (o,ds,false) i c=(o++ [c],ds,false):=by simp[rT,h92]
   have hp:st+((i+1:Nat):Int)=st+(i:Int)+1:=z8
   rw[show List.dropLast (c::d::r)=c::(d::r).dropLast from rfl,gU,e1,hI,hp,kM,if_neg h92];simp
theorem aId{b:List UInt8}(h:lA false b=some b.length)(st:Int):(jT (34::b) st ((34::b).length -2)).1=(wD (34::b) st).1/\(jT (34::b) st ((34::b).length -2)).2.1=(wD (34::b) st).2:=by
 cases b with
 |nil=>cases h
 |cons c r=>
  have e:=TY (34::c::r) st ((34::c::r).length -2) (by simp only[aS2];omega);have e2:((34::c::r).drop 1).take ((34::c::r).length -2)=(c::r).dropLast:=by
   rw[List.dropLast_eq_take];simp
  rw[e2,QT st _ (c::r) (aSl _) h 1 [] []]at e;rw[e];exact⟨by simp[wD],by simp[wD]⟩
theorem aL3{a b:Dg}(ha:zU a)(hb:zU b):lsD a b=VE (toX a) (toX b):=by
 obtain⟨ac,am,a1,ae,an⟩:=a;obtain⟨bc,bm,b1,be,bn⟩:=b;obtain⟨h1,h2⟩:=ha;obtain⟨h3,h4⟩:=hb;simp only at h1 h2 h3 h4;subst h1 h2 h3 h4;simp only[lsD,VE,toX,ne_eq,not_true_eq_false,if_false]
 by_cases e1:a1=b1
 ·subst e1
  by_cases e2:ae=be
  ·subst e2
   by_cases e3:ac=bc
   ·subst e3;simp[Op.bytesLess]
   ·simp[e3]
  ·simp[e2]
 ·simp[e1]
def zG(a b:Dg):Prop:=VE (toX a) (toX b)=true
theorem zG.tr{a b c:Dg}(h:zG a b)(k:zG b c):zG a c:=by unfold zG VE at*;simp only[decide_eq_true_eq]at*;omega
theorem zG.ir{a:Dg}:¬zG a a:=by unfold zG VE;simp
theorem zG.iff{a b:Dg}:zG a b↔(a.st<b.st\/(a.st=b.st/\(a.en<b.en\/(a.en=b.en/\a.code<b.code)))):=by unfold zG VE;exact decide_eq_true_iff
theorem zG.tri{a b:Dg}(ha:zU a)(hb:zU b):zG a b\/a=b\/zG b a:=by
 obtain⟨ac,am,a1,ae,an⟩:=a;obtain⟨bc,bm,b1,be,bn⟩:=b;obtain⟨h1,h2⟩:=ha;obtain⟨h3,h4⟩:=hb;simp only at h1 h2 h3 h4;subst h1 h2 h3 h4;rw[zG.iff,zG.iff];simp only[Dg.mk.injEq,eq_self,true_and,and_true];omega
def GA(l:List Dg):Prop:=l.Pairwise zG
theorem GA.eq:∀ {a b:List Dg},GA a->GA b->(∀x,x∈a↔x∈b)->a=b
 | [],[],_,_,_=>rfl
 | [],y::b,_,_,h=>by have:=(h y).2 z6;cases this
 |x::a,[],_,_,h=>by have:=(h x).1 z6;cases this
 |x::a,y::b,ha,hb,h=>by
  have ha':=List.pairwise_cons.1 ha;have hb':=List.pairwise_cons.1 hb;have e:x=y:=by
   rcases aTv.1 ((h x).1 z6)with q|q
   ·exact q
   ·rcases aTv.1 ((h y).2 z6)with q2|q2
    ·exact q2.symm
    ·exact absurd ((hb'.1 x q).tr (ha'.1 y q2)) zG.ir
  subst e;rw[GA.eq ha'.2 hb'.2 λz=>⟨λhz=>by
   rcases aTv.1 ((h z).1 (aUj _ hz))with q|q
   ·exact absurd (q▸ha'.1 z hz) zG.ir
   ·exact q,λhz=>by
   rcases aTv.1 ((h z).2 (aUj _ hz))with q|q
   ·exact absurd (q▸hb'.1 z hz) zG.ir
   ·exact q⟩]
theorem TO{d:Dg}(hd:zU d):∀ {l:List Dg},GA l->(∀x∈l,zU x)->GA (qH d l)/\∀x,x∈qH d l↔x=d\/x∈l
 | [],h,hx=>⟨List.pairwise_singleton _ _,λx=>by simp[qH]⟩
 |y::l,h,hx=>by
  have h':=List.pairwise_cons.1 h;have hy:=hx y z6;obtain⟨i1,i2⟩:=TO hd h'.2 λx q=>hx x (aUj _ q);rw[qH,aL3 hy hd]
  by_cases c:VE (toX y) (toX d)=true
  ·rw[if_pos c];refine⟨List.pairwise_cons.2 ⟨λx q=> ?_,i1⟩,λx=>by rw[aTv,i2,aTv];exact⟨λh=>by rcases h with h|h|h<;>simp[h],λh=>by rcases h with h|h|h<;>simp[h]⟩⟩;rcases(i2 x).1 q with q|q
   ·rw[q];exact c
   ·exact h'.1 x q
  ·rw[if_neg c]
   by_cases e:y=d
   ·rw[if_pos (yY.2 e)];exact⟨h,λx=>by rw[aTv,e];simp⟩
   ·rw[if_neg (λq=>e (yY.1 q))];have hl:zG d y:=by
     rcases zG.tri hd hy with q|q|q
     ·exact q
     ·exact absurd q.symm e
     ·exact absurd q c
    exact⟨List.pairwise_cons.2 ⟨λx q=>by
     rcases aTv.1 q with q|q
     ·rw[q];exact hl
     ·exact hl.tr (h'.1 x q),h⟩,λx=>by rw[aTv]⟩
theorem YB:∀(ds o:List Dg),(∀x∈ds,zU x)->(∀x∈o,zU x)->GA o->GA (ds.foldl (λo d=>qH d o) o)/\∀x,x∈ds.foldl (λo d=>qH d o) o↔x∈ds\/x∈o
 | [],o,h1,h2,h3=>⟨h3,λx=>z6⟩
 |d::ds,o,h1,h2,h3=>by
  obtain⟨i1,i2⟩:=TO (h1 d z6) h3 h2;obtain⟨j1,j2⟩:=YB ds (qH d o) (λx q=>h1 x (aUj _ q)) (λx q=>by
   rcases(i2 x).1 q with q|q
   ·rw[q];exact h1 d z6
   ·exact h2 x q) i1
  exact⟨j1,λx=>by rw[List.foldl_cons,j2,i2,aTv];exact⟨λh=>by rcases h with h|h|h<;>simp[h],λh=>by rcases h with(h|h)|h<;>simp[h]⟩⟩
theorem aGw{ds:List Dg}(hs:VV ds)(hx:∀x∈ds,zU x):∀m,m<=ds.length->GA (cU ds m)/\∀x,x∈cU ds m↔x∈ds.take m
 |0,_=>⟨List.Pairwise.nil,λx=>by simp[cU]⟩
 |m+1,h=>by
  obtain⟨i1,i2⟩:=aGw hs hx m z8;have hm:m<ds.length:=z8
  have hg:gd ds m=ds[m]:=vJ hm;have hle:∀i j (hi:i<j) (hj:j<ds.length),zG (ds[i]'z8) ds[j]\/ds[i]'z8=ds[j]:=λi j hi hj=>by
   have:=List.pairwise_iff_getElem.1 hs i j z8 hj hi;rcases zG.tri (hx _ (aTk (by omega:i<ds.length))) (hx _ (aTk hj))with q|q|q
   ·exact .inl q
   ·exact .inr q
   ·unfold zG at q;rw[this]at q;cases q
  have hmem:∀x,x∈ds.take (m+1)↔x∈ds.take m\/x=ds[m]:=λx=>by rw[aT8 hm,aTs,aT2]
  rw[cU]
  split
  ·rename_i c;refine⟨List.pairwise_append.2 ⟨i1,List.pairwise_singleton _ _,λx h1 y h2=> ?_⟩,λx=>by rw[aTs,i2,aT2,hmem,hg]⟩;rw[aT2]at h2;subst h2;rw[hg];obtain⟨j,hj,hjx⟩:=List.getElem_of_mem ((i2 x).1 h1);rw[List.getElem_take]at hjx;rw[aS9]at hj;have hj':j<m:=z8
   subst hjx;rcases hle j m hj' hm with q|q
   ·exact q
   ·exfalso;rcases c with c|c
    ·omega
    ·rw[hg,vJ z8]at c;have hne:ds[m]≠ds[m-1]:=λe=>by rw[yY.2 e]at c;cases c
     rcases hle (m-1) m z8 hm with q2|q2
     ·rcases aSk j (m-1)with q3|q3
      ·rcases hle j (m-1) q3 z8 with q4|q4
       ·exact zG.ir (q▸q4.tr q2)
       ·rw[<-q4,q]at q2;exact zG.ir q2
      ·have:j=m-1:=z8
       subst this;rw[q]at q2;exact zG.ir q2
     ·exact hne q2.symm
  ·rename_i c;refine⟨i1,λx=>by
    rw[i2,hmem];refine⟨.inl,λh=> ?_⟩;rcases h with h|h
    ·exact h
    ·have c1:m≠0:=λe=>c (.inl e);have c2:xA (gd ds m) (gd ds (m-1))=true:=by
      cases e:xA (gd ds m) (gd ds (m-1))with
      |true=>rfl
      |false=>exact absurd (.inr e) c
     rw[yY,hg,vJ z8]at c2;rw[h,c2,List.mem_take_iff_getElem];exact⟨m-1,z8,rfl⟩⟩
theorem aJ2{ds ds':List Dg}(hp:ds'.Perm ds)(hs:VV ds')(hx:∀x∈ds,zU x):rD ds'=AI ds:=by
 obtain⟨i1,i2⟩:=aGw hs (λx q=>hx x (hp.mem_iff.1 q)) ds'.length (aSl _);obtain⟨j1,j2⟩:=YB ds [] hx (λx q=>by cases q) List.Pairwise.nil;refine GA.eq i1 j1 λx=> ?_;show x∈cU ds' ds'.length↔x∈List.foldl (λo d=>qH d o) [] ds;rw[i2,j2,aUd,hp.mem_iff];simp
theorem yX{p:Prop}{i j:Decidable p}{x y u v:Nd}{a b:Int}(h1:x=fC u a b)(h2:y=fC v a b): @ite Nd p i x y=fC (@ite Nd p j u v) a b:=by
 subst h1 h2
 by_cases h:p
 ·rw[if_pos h,if_pos h]
 ·rw[if_neg h,if_neg h]
theorem aPs(n:Nd)(c:St)(o a b:Int):lX (fC n a b) c o=fC (lX n c o) a b:=by
 unfold lX;exact yX rfl (yX rfl (yX rfl (yX rfl (yX rfl (yX rfl (yX rfl (yX (yX rfl rfl) rfl)))))))
theorem aD2{c:St}{off:Nat}{n:Nd}{ds:List Dg}(hq:c.text≠ []->TkQ ⟨c.kind,c.text⟩)(he:c.text= []->c.kind=108)(hk:c.kind=104->n.kind≠39/\n.kind≠40):
  (fI c off n ds).2=ds++rR c off/\(fI c off n ds).1=if uE c=true then iY (lX n c off) off ((off+c.text.length:Nat):Int)else lX n c off:=by
 obtain⟨ck,ct,cc⟩:=c;simp only[St.kind,St.text]at hq he hk⊢;have hkr:101<=ck/\ck<=108:=by
  by_cases h:ct= []
  ·rw[he h];omega
  ·exact(hq h).1
 have hst:ct= [42]->ck=107:=λh=>(hq (by rw[h];simp)).2.2.2.2.2.1 h;have htr:ct= [116,114,117,101]->ck=104:=λh=>(hq (by rw[h];simp)).2.2.2.2.2.2 h;have hlen:((off+ct.length:Nat):Int)=(off:Int)+(ct.length:Int):=z8
 rcases(by omega:ck=101\/ck=102\/ck=103\/ck=104\/ck=105\/ck=106\/ck=107\/ck=108)with h|h|h|h|h|h|h|h<;>subst h
 ·have h42:¬ct= [42]:=λh=>by cases hst h
  have h116:¬ct= [116,114,117,101]:=λh=>by cases htr h
  exact⟨by simp[fI,rR,St.kind,St.text],by simp[fI,uE,lX,St.kind,St.text,h42,h116]⟩
 ·have h42:¬ct= [42]:=λh=>by cases hst h
  have h116:¬ct= [116,114,117,101]:=λh=>by cases htr h
  exact⟨by simp[fI,rR,St.kind,St.text],by simp[fI,uE,lX,St.kind,St.text,h42,h116]⟩
 ·have h42:¬ct= [42]:=λh=>by cases hst h
  have h116:¬ct= [116,114,117,101]:=λh=>by cases htr h
  have hne:ct≠ []:=λh=>by cases he h
  refine⟨?_, ?_⟩
  ·simp only[fI,rR,St.kind,St.text]
   by_cases hl:(ct.length:Int)>30
   ·simp[hl,hlen]
   ·simp[hl]
  ·simp only[fI,uE,lX,fG,xU,CW,St.kind,St.text];simp[h42,h116,hne,and_comm]
 ·have hne:ct≠ []:=λh=>by cases he h
  have h42:¬ct= [42]:=λh=>by cases hst h
  obtain⟨h39,h40⟩:=hk rfl;refine⟨by simp[fI,rR,St.kind,St.text], ?_⟩;simp only[fI,uE,lX,jB,St.kind,St.text];simp[h42,hne,h39,h40]
 ·have hne:ct≠ []:=λh=>by cases he h
  have hd:=(hq hne).2.1 rfl;have hn:=aEu hd hne;simp only at hn;simp only[fI,rR,lX,uE,St.kind,St.text];cases hi:GI ct with
  |some v=>
   rw[hi]at hn;simp only at hn;exact⟨by simp[hn],by simp[hn,hne]⟩
  |none=>
   rw[hi]at hn;simp only at hn;exact⟨by simp[hn,hlen],by simp[hn,hne]⟩
 ·have hne:ct≠ []:=λh=>by cases he h
  obtain⟨b,hb,hl⟩:=(hq hne).2.2.1 rfl;simp only at hb;have hu:=aId hl (off:Int);rw[<-hb]at hu;simp only[fI,rR,lX,uE,St.kind,St.text];rw[hu.1,hu.2];exact⟨z6,by simp[hne]⟩
 ·have hne:ct≠ []:=λh=>by cases he h
  have hs:=(hq hne).2.2.2.2.1 rfl;simp only at hs;have h1:¬ct= [112,117,98]:=λh=>by rw[h]at hs;exact absurd hs z7
  have h2:¬ct= [109,117,116]:=λh=>by rw[h]at hs;exact absurd hs z7
  have h116:¬ct= [116,114,117,101]:=λh=>by cases htr h
  refine⟨by simp[fI,rR,St.kind,St.text], ?_⟩;simp only[fI,uE,lX,jB,St.kind,St.text]
  by_cases q:(n.kind=39\/n.kind=40)
  ·by_cases q2:n.text= []<;>rcases q with q|q<;>simp[h1,h2,h116,hne,q,q2]
  ·have q1:¬n.kind=39:=λe=>q (.inl e);have q2:¬n.kind=40:=λe=>q (.inr e);simp[h1,h2,h116,hne,q1,q2]
 ·have h42:¬ct= [42]:=λh=>by cases hst h
  have h116:¬ct= [116,114,117,101]:=λh=>by cases htr h
  by_cases hne:ct= []
  ·subst hne;exact⟨by simp[fI,rR,St.kind,St.text],by simp[fI,uE,lX,St.kind,St.text]⟩
  ·exact⟨by simp[fI,rR,St.kind,St.text,hne,hlen],by simp[fI,uE,lX,St.kind,St.text,hne,h42,h116]⟩
def RlN(a off:Nat)(b:Bool)(n r:Nd):Prop:=r=fC n r.st r.en/\(if b=true then r.st=n.st/\r.en=n.en/\(a:Int)<=n.st/\n.st<=n.en/\n.en<=off else n.en<0/\n.st=a/\r.st=a/\r.en=a)/\a<=off
theorem RlN.cov{a off o2:Nat}{b:Bool}{n r:Nd}{x y:Int}(h:RlN a off b n r)(h1:(off:Int)<=x)(h2:x<=y)(h3:y<=o2):RlN a o2 true (iY n x y) (yD b r x y):=by
 obtain⟨e1,e2,e3⟩:=h;obtain⟨k,v,t,s,e,ns,us⟩:=n;obtain⟨k',v',t',s',e',ns',us'⟩:=r;simp only[fC,Nd.mk.injEq]at e1;obtain⟨g1,g2,g3,_,_,g6,g7⟩:=e1;subst g1 g2 g3 g6 g7;cases b
 ·simp only[aTc,if_false]at e2;obtain⟨f1,f2,f3,f4⟩:=e2;subst f2 f3 f4;refine⟨rfl, ?_,z8⟩;have f1':e<0:=f1;simp only[iY,yD,fC,aTc,if_false,if_true,Int.max_self,Nd.kind,Nd.value,Nd.text,Nd.st,Nd.en,Nd.ns,Nd.kids,f1'];refine⟨by first|trivial|omega,by first|trivial|omega,z8,z8,z8⟩
 ·simp only[if_true]at e2;obtain⟨f1,f2,f3,f4,f5⟩:=e2;subst f1 f2;refine⟨rfl, ?_,z8⟩;simp only[Nd.kind,Nd.value,Nd.text,Nd.st,Nd.en,Nd.ns,Nd.kids]at f3 f4 f5;have h0':¬e'<0:=z8
  have hmx:max e' y=y:=Int.max_eq_right z8;simp only[iY,yD,fC,if_true,Nd.kind,Nd.value,Nd.text,Nd.st,Nd.en,Nd.ns,Nd.kids,h0',if_false,hmx];refine⟨by first|trivial|omega,by first|trivial|omega,z8,z8,z8⟩
theorem YF{c:St}(h:c.ch= []):kQ c=c.text.length:=by rw[xS,h,hM];rfl
mutual
theorem SE:∀(t:St),wO t=true->kQ t=Lt (wI t)
 | .mk k x ch,h=>by
  rw[wO,aSe]at h;have he:PH k x ch=true:=by have:=h.1;simp only[okN,aSe]at this;exact this.2.2
  have hc:=OA ch h.2;rw[kQ,wI]
  split
  ·rename_i hx;rw[hx,hc];simp
  ·rename_i hx;unfold PH at he
   split at he
   ·rw[aSe,decide_eq_true_eq]at he;exact absurd he.1 hx
   ·rw[aSe,List.isEmpty_iff]at he;rw[he.1];simp[hM,Lt]
theorem OA:∀(l:List St),VY l=true->hM l=Lt (tH l)
 | [],h=>rfl
 |t::l,h=>by
  rw[VY,aSe]at h;rw[hM,tH,SE t h.1,OA l h.2];simp[Lt]
theorem aCa:∀(t:St),wO t=true->RG t=wI t
 | .mk k x ch,h=>by
  rw[wO,aSe]at h;have he:PH k x ch=true:=by have:=h.1;simp only[okN,aSe]at this;exact this.2.2
  have hc:=SU ch h.2;rw[RG,wI];unfold PH at he
  split at he
  ·rename_i hk;rw[aSe,decide_eq_true_eq]at he;rw[if_neg z8,if_pos he.1,hc]
  ·rename_i hk;rw[aSe,List.isEmpty_iff]at he;rw[if_pos z8,he.1];rfl
theorem SU:∀(l:List St),VY l=true->tT l=tH l
 | [],h=>rfl
 |t::l,h=>by
  rw[VY,aSe]at h;rw[tT,tH,aCa t h.1,SU l h.2]
theorem TN:∀(t:St),wO t=true->uC t=(wI t).flatMap Tk.text
 | .mk k x ch,h=>by
  rw[wO,aSe]at h;have he:PH k x ch=true:=by have:=h.1;simp only[okN,aSe]at this;exact this.2.2
  have hc:=LK ch h.2;rw[uC,wI];unfold PH at he
  split at he
  ·rename_i hk;rw[aSe,decide_eq_true_eq]at he;rw[if_neg z8,if_pos he.1,hc]
  ·rename_i hk;rw[aSe,List.isEmpty_iff]at he;rw[if_pos z8,he.1]
   split
   ·rename_i hx;rw[hx];rfl
   ·simp
theorem LK:∀(l:List St),VY l=true->kS l=(tH l).flatMap Tk.text
 | [],h=>rfl
 |t::l,h=>by
  rw[VY,aSe]at h;rw[kS,tH,TN t h.1,LK l h.2,List.flatMap_append]
end
theorem aEo{src:List UInt8}{a off:Nat}{b:Bool}{n r m:Nd}{ds ds' d:List Dg}(h:RlN a off b n r)(e:NW src (fC n n.st (max n.en n.st)) ds=some (m,ds'))(hd:∃d0,ds=d0++d):∃d',GG src n.kind r d=some (m,d')/\(∀d0,ds=d0++d->ds'=d0++d')/\(a:Int)<=m.st/\m.st<=m.en/\m.en<=off:=by
 have hr:r=fC n n.st (max n.en n.st)/\(a:Int)<=r.st/\r.st<=r.en/\r.en<=off:=by
  obtain⟨e1,e2,e3⟩:=h;cases b
  ·simp only[aTc,if_false]at e2;obtain⟨f1,f2,f3,f4⟩:=e2;have hm:max n.en n.st=n.st:=Int.max_eq_right z8;rw[f3,f4]at e1;rw[hm,f2];exact⟨e1,z8,z8,z8⟩
  ·simp only[if_true]at e2;obtain⟨f1,f2,f3,f4,f5⟩:=e2;have hm:max n.en n.st=n.en:=Int.max_eq_left z8;rw[f1,f2]at e1;rw[hm];exact⟨e1,z8,z8,z8⟩
 obtain⟨hr,b1,b2,b3⟩:=hr;rw[<-hr]at e;have hk:r.kind=n.kind:=by rw[hr];rfl
 unfold NW at e;rw[hk]at e;unfold GG
 split at e
 ·rename_i h60;rw[if_pos h60]
  split at e
  ·rename_i c cs hc
   try rw[hc]
   injection e with e;injection e with e1 e2;subst e1 e2;exact⟨d,rfl,λd0 h=>h,b1,b2,b3⟩
  ·cases e
 rename_i h60;rw[if_neg h60]
 split at e
 ·rename_i h46;rw[if_pos h46]
  split at e
  ·rename_i hc;injection e with e;injection e with e1 e2;subst e1 e2;rw[if_pos ⟨hc.1,hc.2.1,hc.2.2.1⟩];refine⟨d++ [gZ (if decide (r.st=r.en)=true then 1 else 2) r.st r.en], ?_,λd0 h=>by rw[h,aUa],b1,b2,b3⟩;rw[List.drop_take]
  ·cases e
 ·rename_i h46;rw[if_neg h46];injection e with e;injection e with e1 e2;subst e1 e2;exact⟨d,rfl,λd0 h=>h,b1,b2,b3⟩
def NRl(src:List UInt8)(t:St):Prop:=(∀x∈wI t,TkQ x)->wO t=true->t.kind<100->∀(off off':Nat) (ds ds':List Dg) (m:Nd),uG src t off ds=some (off',m,ds')->off'=off+kQ t/\∃dn,ds'=ds++dn/\BS src t off=some (m,dn)/\(off:Int)<=m.st/\m.st<=m.en/\m.en<=off'
theorem yZ{src:List UInt8}:∀(ch:List St) (ih:∀c∈ch,NRl src c) (hit:∀x∈tH ch,TkQ x) (hok:∀c∈ch,wO c=true) (k:Int) (hkk:∀c∈ch,okK k c.kind=true) (a off:Nat) (b:Bool) (n r:Nd) (hk:n.kind=k) (ds d:List Dg),RlN a off b n r->∀(off':Nat) (n':Nd) (ds':List Dg),oK src ch off n ds=some (off',n',ds')->
  off'=off+hM ch/\∃r' b' dn,mI src ch off r b d=some (off',r',b',d++dn)/\ds'=ds++dn/\RlN a off' b' n' r'/\n'.kind=k
 | [],ih,hit,hok,k,hkk,a,off,b,n,r,hk,ds,d,h,off',n',ds',e=>by
  rw[oK]at e;injection e with e;injection e with e1 e;injection e with e2 e3;subst e1 e2 e3;exact⟨rfl,r,b,[],by rw[mI,aT4],by rw[aT4],h,hk⟩
 |c::cs,ih,hit,hok,k,hkk,a,off,b,n,r,hk,ds,d,h,off',n',ds',e=>by
  have ih':∀c∈cs,NRl src c:=λx hx=>ih x (aUj _ hx);have hit':∀x∈tH cs,TkQ x:=λx hx=>hit x (by rw[tH];exact List.mem_append_right _ hx);have hic:∀x∈wI c,TkQ x:=λx hx=>hit x (by rw[tH];exact aUg _ hx);have hok':∀c∈cs,wO c=true:=λx hx=>hok x (aUj _ hx);have hkk':∀c∈cs,okK k c.kind=true:=λx hx=>hkk x (aUj _ hx);have hoc:=hok c z6;have hkc:=hkk c z6;rw[sZ,hM];rw[oK]at e
  by_cases hc:decide (c.kind>=100)=true
  ·rw[if_pos hc]at e⊢;have hE:c.ch= []/\(c.kind=108\/c.text≠ []):=by
    obtain⟨ck,ct,cc⟩:=c;have hc':ck>=100:=of_decide_eq_true hc;rw[wO,aSe]at hoc;have he:PH ck ct cc=true:=by have:=hoc.1;simp only[okN,aSe]at this;exact this.2.2
    unfold PH at he;rw[if_neg z8,aSe,List.isEmpty_iff]at he;exact⟨he.1,by simpa[St.kind,St.text]using he.2⟩
   have hw:=YF hE.1;have hq:c.text≠ []->TkQ ⟨c.kind,c.text⟩:=λh=>by
    obtain⟨ck,ct,cc⟩:=c;have h':¬ct= []:=h;exact hic _ (by rw[wI,if_neg h'];simp[St.kind,St.text])
   obtain⟨t1,t2⟩:=aD2 (off:=off) (n:=n) (ds:=ds) hq (λh=>hE.2.resolve_right λq=>q h) (λh=>by
    rw[hk];rw[h]at hkc;refine⟨λq=> ?_,λq=> ?_⟩
    ·rw[q]at hkc;exact absurd hkc z7
    ·rw[q]at hkc;exact absurd hkc z7)
   split at e
   case isFalse=>cases e
   rw[t1]at e;have hr1:r=fC n r.st r.en:=h.1;have htv:lX r c off=fC (lX n c off) r.st r.en:=by rw[hr1,aPs];rfl
   have hbase:RlN a off b (lX n c off) (lX r c off):=by
    have hs:(lX n c (off:Int)).st=n.st/\(lX n c (off:Int)).en=n.en:=by
     unfold lX
     repeat' split
     all_goals exact⟨rfl,rfl⟩
    obtain⟨e1,e2,e3⟩:=h;refine⟨by rw[htv];rfl, ?_,e3⟩;rw[htv,show(fC (lX n c (off:Int)) r.st r.en).st=r.st from rfl,show(fC (lX n c (off:Int)) r.st r.en).en=r.en from rfl,hs.1,hs.2];exact e2
   rw[hw]
   by_cases hv:uE c=true
   ·rw[if_pos hv]at t2⊢;rw[t2]at e;have hcov:=hbase.cov (x:=off) (y:=((off+c.text.length:Nat):Int)) (o2:=off+c.text.length) (aUi _) z8 (aUi _);obtain⟨g1,r',b',dn,g2,g3,g4,g5⟩:=yZ cs ih' hit' hok' k hkk' a (off+c.text.length) true _ _ (by show(lX n c (off:Int)).kind=k;rw[MS];exact hk) (ds++rR c off) (d++rR c off) hcov off' n' ds' e;exact⟨z8,r',b',rR c off++dn,by rw[g2,aUa],by rw[g3,aUa],g4,g5⟩
   ·rw[if_neg hv]at t2⊢;rw[t2]at e;have hb2:RlN a (off+c.text.length) b (lX n c off) (lX r c off):=by
     obtain⟨e1,e2,e3⟩:=hbase;refine⟨e1, ?_,z8⟩;cases b
     ·exact e2
     ·simp only[if_true]at e2⊢;exact⟨e2.1,e2.2.1,e2.2.2.1,e2.2.2.2.1,z8⟩
    obtain⟨g1,r',b',dn,g2,g3,g4,g5⟩:=yZ cs ih' hit' hok' k hkk' a (off+c.text.length) b _ _ (by rw[MS];exact hk) (ds++rR c off) (d++rR c off) hb2 off' n' ds' e;exact⟨z8,r',b',rR c off++dn,by rw[g2,aUa],by rw[g3,aUa],g4,g5⟩
  ·rw[if_neg hc]at e⊢;obtain⟨⟨o1,m1,d1⟩,h1,e⟩:=oB e;simp only at e
   split at e
   case isFalse=>cases e
   have hlt:c.kind<100:=by have:¬c.kind>=100:=λq=>hc (decide_eq_true q);omega
   obtain⟨f1,dn1,f2,f3,f4,f5,f6⟩:=ih c z6 hic hoc hlt off o1 ds d1 m1 h1;subst f1;have hr1:r=fC n r.st r.en:=h.1;have hadd:RlN a off b (mW n m1) (mW r m1):=by
    obtain⟨e1,e2,e3⟩:=h;refine⟨?_,e2,e3⟩;obtain⟨q1,q2,q3,q4,q5,q6,q7⟩:=n;obtain⟨p1,p2,p3,p4,p5,p6,p7⟩:=r;simp only[fC,Nd.mk.injEq]at e1;obtain⟨g1,g2,g3,_,_,g6,g7⟩:=e1;subst g1 g2 g3 g6 g7;rfl
   have hcov:=hadd.cov (x:=m1.st) (y:=m1.en) (o2:=off+kQ c) z8 f5 f6;have hcm:iY (mW n m1) m1.st m1.en=mW (iY n m1.st m1.en) m1:=rfl;rw[hcm]at hcov;rw[f3];simp only[aSy];obtain⟨g1,r',b',dn,g2,g3,g4,g5⟩:=yZ cs ih' hit' hok' k hkk' a (off+kQ c) true _ _ (show(mW (iY n m1.st m1.en) m1).kind=k from hk) d1 (d++dn1) hcov off' n' ds' e;exact⟨z8,r',b',dn1++dn,by rw[g2,aUa],by rw[g3,f2,aUa],g4,g5⟩
theorem aBr{src:List UInt8}{t:St}(ih:∀c∈t.ch,NRl src c):NRl src t:=by
 intro hit hok hlt off off' ds ds' m e;obtain⟨k,tx,ch⟩:=t;have hlt':k<100:=hlt;rw[wO,aSe,CM,aTr]at hok;obtain⟨hN,hall⟩:=hok;have he:PH k tx ch=true:=by simp only[okN,aSe]at hN;exact hN.2.2
 unfold PH at he;rw[if_pos hlt',aSe,decide_eq_true_eq,aTr]at he;obtain⟨htx,hkk⟩:=he;subst htx;rw[wI,if_pos rfl]at hit;rw[uG]at e
 split at e
 case isFalse=>cases e
 obtain⟨⟨o1,n1,d1⟩,h1,e⟩:=oB e;simp only at e;obtain⟨⟨m2,d2⟩,h2,e⟩:=oB e;injection e with e;injection e with e1 e;injection e with e2 e3;simp only at e1 e2 e3;subst e1 e2 e3;have h0:RlN off off false ⟨k,0,[],off, -1, -1,[]⟩ ⟨k,0,[],off,off, -1,[]⟩:=⟨rfl,⟨by show(-1:Int)<0;decide,rfl,rfl,rfl⟩,aSl _⟩;obtain⟨g1,r',b',dn,g2,g3,g4,g5⟩:=yZ ch ih hit hall k hkk off off false _ _ rfl ds [] h0 o1 n1 d1 h1;obtain⟨d',q1,q2,q3⟩:=aEo (d:= []++dn) g4 h2 ⟨ds,by rw[g3];rfl⟩;refine⟨by rw[kQ];simp only[aT5];omega,d',q2 ds (by rw[g3];rfl), ?_,q3⟩;rw[SH];show(mI src ch off ⟨k,0,[],off,off, -1,[]⟩ false []).bind (λr=>GG src k r.2.1 r.2.2.2)=_;rw[g2];simp only[aSy];rw[g5]at q1;exact q1
theorem xY(src:List UInt8):∀(N:Nat) (t:St),SizeOf.sizeOf t<N->NRl src t
 |0,t,h=>z8
 |N+1,t,h=>aBr λc hc=>xY src N c (by
   obtain⟨k,tx,ch⟩:=t;have:=List.sizeOf_lt_of_mem (show c∈ch from hc);simp at h;omega)
theorem aEn{s:List UInt8}(h:s.length<=2000):BS s (lF s) 0=some ((FZ s).2.1,(FZ s).2.2)/\kQ (lF s)=s.length/\RG (lF s)=toks s/\uC (lF s)=s/\(lF s).size<=600002:=by
 obtain⟨h1,h2,h3,h4⟩:=sJ _ s (aSl _);obtain⟨ch,e1,e2,e3,e4,e5⟩:=SR h;obtain⟨g1,g2,g3⟩:=aJ9 h;have hlv:wI (lF s)=toks s:=by rw[e2,wI,if_pos rfl,e3]
 have hok:wO (lF s)=true:=by rw[e2];exact e4
 obtain⟨f1,dn,f2,f3,_⟩:=xY s _ (lF s) (aT9 _) (by rw[hlv];exact PF _ s (aSl _)) hok (by rw[e2];show(1:Int)<100;decide) 0 _ [] _ _ g1;rw[aT1]at f2;have f2':(FZ s).2.2=dn:=f2;refine⟨by rw[f2'];exact f3,by rw[SE _ hok,hlv,h2],by rw[aCa _ hok,hlv],by rw[TN _ hok,hlv,h4], ?_⟩;rw[e2];simp only[St.size];omega
set_option maxRecDepth 4000
theorem RQ(H:aC)(id:Nat)(ns:List Dg)(hid:H[id]? =some .unborn)(hx:ns.length*48<=2^47):aN Tryz.prog 65 [.slice (ns.map Dg.enc) .none] H λr' H'=>r'= .slice (ns.map Dg.enc) (.tok id)/\H'=H.set id (.buf ns.length 5):=by
 have em:maxLen=9223372036854775807:=z7
 have happ:ns.map Dg.enc≠ []->∀fr HH,dQ ⟨true,5,48⟩ fr HH (.slice [] .full) (.slice (ns.map Dg.enc) .none)=some (.slice (ns.map Dg.enc) (.tok fr),some (fr, .buf ns.length 5)):=λhne fr HH=>by
  have:=LI (i:=⟨true,5,48⟩) (fresh:=fr) (H:=HH) (tl:=.none) hne (by simpa using hx) (by simp;omega) (λe he=>by obtain⟨v,_,rfl⟩:=aTq.1 he;exact⟨v.enc_len,by rw[Dg.enc_cells];rfl⟩) z7;simpa using this
 refine aF (N:=5) Tryz.func65 rfl rfl z6 λhb'=> ?_;refine uA ?_;rcases Classical.em (ns= [])with hxs|hxs
 ·
  subst hxs;refine wQ ?_;refine eE (by simp only[kA,seval,rS,nT,aB,qG,aT6,dQ]<;>with_reducible rfl) z7 ?_;refine wQ ?_;refine OV id 2 5 (es:= []) hid (KU tN) ?_;refine wT ⟨.inr rfl,_,rfl, ?_⟩;exact⟨rfl,rfl⟩
 ·
  have ha:=happ (by simpa using hxs);refine ZT 1 ha ?_;refine XA false id hid rfl z7 (v:=.slice (ns.map Dg.enc) (.tok id)) (e:=some (id, .buf ns.length 5)) (by simp only[jN,seval,aB,qG,ha,eU,dX,aGg,BF,SA]<;>rfl) rfl ?_;refine ZX ha ?_;refine wQ ?_;refine wT ⟨.inr rfl,_,rfl, ?_⟩;exact⟨rfl,rfl⟩
theorem aEr(ds:List Dg)(hl:ds.length<=700000):PC Tryz.prog 35 [.slice (ds.map Dg.enc) .none] (.slice ((AI ds).map Dg.enc) .none):=by
 have hmx:maxLen=9223372036854775807:=z7
 refine dN (N:=52) Tryz.func35 rfl rfl z6 (by simp[jK]) (jK _ _) ?_;refine uA ?_;refine uA ?_;refine ZE (a2 rS nT) ?_;refine qB ?_;refine VL (σ:=Nat×List Dg) (λ(z:Nat×List Dg)=> [(7, .slice (ds.map Dg.enc) .none),(8,aB (ds.length:Int)),(9,aB (z.1:Int)),(3, .slice (z.2.map Dg.enc) .none)]) ([]) (λ(z:Nat×List Dg)=> []) (λ(z:Nat×List Dg)=>ds.length-z.1) (λ(z:Nat×List Dg)=>z.1<=ds.length/\z.2=AI (ds.take z.1)/\z.2.length<=z.1) ((0,[])) (_) ⟨(by first|rfl),(by first|rfl),(by first|rfl),(by first|rfl),trivial⟩ (Zf tN) (⟨aTn _,rfl,aSl _⟩) (λ_ _=>by first|exact aTn _| (simp only[aTi];omega)) ?_ ?_
 ·exact λz hg=>⟨by first|exact dF _| (simp only[aT4];assumption)| (refine iK hb' z6 ?_;exact ZH),ZR⟩
 ·intro z hg0;rcases aSk z.1 ds.length with hz|hz
  ·
   obtain⟨d,hd⟩:∃d,d=ds[z.1]:=⟨_,rfl⟩;have gi:=bS hz;have ge:=eH Dg.enc hz;rw[<-hd]at ge;have g3:decide ((z.1:Int)<(ds.length:Int))=true:=decide_eq_true z8;have gw:IntKind.i64.wrap ((z.1:Int)+1)=((z.1+1:Nat):Int):=by rw[aY z8 z8];omega
   have x1:=a4 gi ge g3 gw;refine ZE (a2 y3 x1) ?_;refine ZG x1 ?_;refine qK ?_;refine qB ?_;refine ZE (a3 rS nT x1) ?_;refine ZE x1 ?_;refine qB ?_;refine iD (σ:=Nat) (λ(i:Nat)=> [(7, .slice (ds.map Dg.enc) .none),(8,aB (ds.length:Int)),(9,aB (z.1:Int)),(3, .slice (z.2.map Dg.enc) .none),(5, .optr 0 0),(6,aB (i:Int))]) ([.row [.int .i64 d.code, .int .i64 d.mod, .int .i64 d.st, .int .i64 d.en, .str d.name]]) (λ(i:Nat)=> []) (λ(i:Nat)=>z.2.length-i) (λ(i:Nat)=>i<=z.2.length/\qH d z.2=z.2.take i++qH d (z.2.drop i)) (0) ([]) (Zt x1) (Zf x1) (⟨aTn _,z6⟩) (λ_ _=>by first|exact aTn _| (simp only[aTi];omega)) ?_ ?_
   ·exact λi hg=>⟨by rw[aT4];exact ZH,ZR⟩
   ·intro i hg;have hzl:=hg0.2.2;rcases aSk i z.2.length with hi|hi
    ·
     obtain⟨x,hx⟩:∃x,x=z.2[i]:=⟨_,rfl⟩;have gi2:=bS hi;have ge2:=eH Dg.enc hi;rw[<-hx]at ge2;have hdr:z.2.drop i=x::z.2.drop (i+1):=by rw[aUc hi,hx]
     have gl:decide ((i:Int)<(z.2.length:Int))=true:=decide_eq_true z8;have gw2:IntKind.i64.wrap ((i:Int)+1)=((i+1:Nat):Int):=by rw[aY z8 z8];omega
     rw[hdr,qH]at hg;refine wQ ?_;refine dA (by kernel_rfl) ?_;have x2:=a5 gl gi2 ge2 gw2 x1;refine AZ 10 (a4 y3 rS nT x2) ?_;refine ZpK x2 aQb (λhc=>aMw x d _) ?_;refine FM x2 ?_;refine ZI x2 (λbt24=> ?_) (λbt24=> ?_)
     ·
      rw[if_pos bt24]at hg;refine qK ?_;refine qB ?_;refine ZE (a2 y3 x2) ?_
      try simp only[aW,aO]
      exact⟨i+1,[],by show z.2.length- (i+1)<z.2.length-i;omega,ZV,rfl,z8,by rw[hg.2,aT8 hi,aUa,<-hx];rfl⟩
     ·
      rw[if_neg (by rw[bt24];decide)]at hg;refine wQ ?_;refine bD ?_;simp only[aW,aO,reduceIte,Nat.reduceEqDiff,aUb,if_true,if_false];refine wQ ?_;refine dA (by kernel_rfl) ?_;refine AZ 10 (a4 y3 rS nT x2) ?_;refine PW (ps:=x.enc.cells) (qs:=d.enc.cells) RZ rfl (fV (a3 gl gi2 ge2)) (fV (a3 gl gi2 ge2)) rfl rfl (Ze (a3 gl gi2 ge2)) (Zeo (a3 gl gi2 ge2)) z7 z7 ?_;rw[show gN x.enc.cells d.enc.cells=xA x d from rfl];refine FM x2 ?_;refine ZI x2 (λbt38=> ?_) (λbt38=> ?_)
      ·
       rw[if_pos bt38]at hg;refine wQ ?_;refine bD ?_;simp only[aW,aO,reduceIte,Nat.reduceEqDiff,aUb,if_true,if_false];refine ZL [3,5,6,7,8,9] x2 ?_;refine ZE (a2 y3 x2) ?_
       try simp only[aW,aO]
       exact⟨(z.1+1,z.2),_,by show ds.length- (z.1+1)<ds.length-z.1;omega,⟨rfl,rfl,rfl,by first|rfl| (simp[wkA,PV.drop1];done),trivial⟩,rfl,by simp only;omega,by rw[aT8 hz,AI,List.foldl_append,<-AI,<-hg0.2.1,<-hd];show _=qH d z.2;rw[hg.2,<-hdr,aT3],by simp only[aTi,aS2,aS9,aS8,aT5];omega⟩
      ·
       rw[if_neg (by rw[bt38];decide)]at hg;rw[<-hdr]at hg;have ha2:=λfr H hH=>TV (us:=z.2.take i++ [d]) (vs:=z.2.drop i) (id:=1) (tl:=.none) (by simp;omega) fr H hH (by rw[hdr];simp);have ha1:=DU (us:=z.2.take i) (u:=d) (id:=1) (tl:=.full) (by simp;omega);have g9:(0<=(i:Int)/\(i:Int)<=(z.2.length:Int))=True:=by simp;omega
       have g9':((i:Int)<=(z.2.length:Int))=True:=by simp;omega
       have gA:(∀(e:PV),e∈List.map Dg.enc z.2->e.cells.length=5)=True:=by simp only[aTq];exact eq_true (λe ⟨v,_,q⟩=>q▸v.enc_len)
       have g0i:(0<=(i:Int))=True:=z6
       refine qK ?_;refine ZL [3,5,6,7,8,9] x2 ?_;refine wQ ?_;refine uX 1 rfl (by kernel_rfl) ?_;refine rC 3 rfl (by simp only[jP,jO,jN,seval,rS,nT,jS,aB,qG,gi,ge,g3,gw,tN,gl,gi2,ge2,tN,gw2,ha2,ha1,g9',gA,g0i,<-aUk,<-aUl,aUd]<;>with_reducible rfl) z7 z7 z7 ?_;refine BM (by first| (simp only[LS,HS,aUa,aSg,aT1,gi,ge,g3,gw,tN,gl,gi2,ge2,tN,gw2,ha2,ha1,g9',gA,g0i,<-aUk,<-aUl,aUd]<;>with_reducible rfl)|rfl) ?_;refine aGt (bm:= [0,0,3,7,0,16,63,0,0,384,1023,2047]) [1] 1 (.buf (z.2.take i).length 5) (by kernel_rfl) (by simp only[kE,seval,aB,qG,gi,ge,g3,gw,tN,gl,gi2,ge2,tN,gw2,ha2,ha1,g9',gA,g0i,<-aUk,<-aUl,aUd]<;>with_reducible rfl) (by simp only[kE,seval,aB,qG,gi,ge,g3,gw,tN,gl,gi2,ge2,tN,gw2,ha2,ha1,g9',gA,g0i,<-aUk,<-aUl,aUd]<;>with_reducible rfl) (by simp only[kE,seval,aB,qG,gi,ge,g3,gw,tN,gl,gi2,ge2,tN,gw2,ha2,ha1,g9',gA,g0i,<-aUk,<-aUl,aUd]) z7 aGm (λH' hH _=>RQ H' 1 (z.2.take i) (hH 1 z6) (by simp;omega)) z6 (by simp only[jX,jO,jN,seval,aB,qG,gi,ge,g3,gw,tN,gl,gi2,ge2,tN,gw2,ha2,ha1,g9',gA,g0i,<-aUk,<-aUl,aUd]<;>first|done|rfl) (by simp only[jX,jO,jN,seval,aB,qG,gi,ge,g3,gw,tN,gl,gi2,ge2,tN,gw2,ha2,ha1,g9',gA,g0i,<-aUk,<-aUl,aUd]<;>first|done|rfl) (by simp only[jX,jO,jN,seval,aB,qG,gi,ge,g3,gw,tN,gl,gi2,ge2,tN,gw2,ha2,ha1,g9',gA,g0i,<-aUk,<-aUl,aUd]<;>with_reducible rfl) ?_;refine uF (bm:= [0,0,3,7,0,16,63,0,0,384,1023,2047]) (fresh:=0) (by kernel_rfl) (by simp only[jX,jO,jN,seval,rS,nT,jS,aB,qG,gi,ge,g3,gw,tN,gl,gi2,ge2,tN,gw2,ha2,ha1,g9',gA,g0i,<-aUk,<-aUl,aUd]<;>with_reducible rfl) z7 (by repeat (first|exact fK.base _|with_reducible apply fK.keep|apply fK.drop)) ?_;refine ZE (a2 y3 x2) ?_
       try simp only[aW,aO]
       exact⟨(z.1+1,z.2.take i++d::z.2.drop i),_,by show ds.length- (z.1+1)<ds.length-z.1;omega,⟨rfl,rfl,rfl,by first|rfl| (simp[wkA,PV.drop1];done),trivial⟩,rfl,by simp only;omega,by rw[aT8 hz,AI,List.foldl_append,<-AI,<-hg0.2.1,<-hd];show _=qH d z.2;rw[hg.2],by simp only[aTi,aS2,aS9,aS8,aT5];omega⟩
    ·
     have gl:decide ((i:Int)<(z.2.length:Int))=false:=decide_eq_false z8;have hdr:z.2.drop i= []:=List.drop_eq_nil_of_le hi;have ha2:∀fr H es,dQ ⟨true,5,48⟩ fr H (.slice es (.tok 1)) (.slice [] .none)=some (.slice es (.tok 1),none):=λ_ _ _=>by simp[dQ]
     rw[hdr,qH]at hg;have ha1:=DU (us:=z.2.take i) (u:=d) (id:=1) (tl:=.full) (by simp;omega);have g9:(0<=(i:Int)/\(i:Int)<=(z.2.length:Int))=True:=by simp;omega
     have g9':((i:Int)<=(z.2.length:Int))=True:=by simp;omega
     have gA:(∀(e:PV),e∈List.map Dg.enc z.2->e.cells.length=5)=True:=by simp only[aTq];exact eq_true (λe ⟨v,_,q⟩=>q▸v.enc_len)
     have g0i:(0<=(i:Int))=True:=z6
     refine wQ ?_;refine dA (by kernel_rfl) ?_;refine AZ 7 (a5 y3 rS nT gl x1) ?_;refine ZpS (a2 gl x1) ?_;refine ZpS (a2 gl x1) ?_;refine AZ 1 (a3 nT gl x1) ?_;refine ZpS (a2 gl x1) ?_;refine FM (a2 gl x1) ?_;refine ZF (a2 gl x1) ?_;refine wQ ?_;refine bD ?_;simp only[aW,aO,reduceIte,Nat.reduceEqDiff,aUb,if_true,if_false];refine wQ ?_;refine dA (by kernel_rfl) ?_;refine AZ 7 (a5 y3 rS nT gl x1) ?_;refine ZpS (a2 gl x1) ?_;refine ZpS (a2 gl x1) ?_;refine AZ 1 (a3 nT gl x1) ?_;refine ZpS (a2 gl x1) ?_;refine FM (a2 gl x1) ?_;refine ZF (a2 gl x1) ?_;refine qK ?_;refine ZL [3,5,6,7,8,9] (a2 gl x1) ?_;refine wQ ?_;refine uX 1 rfl (by kernel_rfl) ?_;refine rC 3 rfl (by simp only[jP,jO,jN,seval,rS,nT,jS,aB,qG,gi,ge,g3,gw,tN,gl,hdr,aT6,ha2,ha1,g9',gA,g0i,<-aUk,<-aUl,aUd]<;>with_reducible rfl) z7 z7 z7 ?_;refine BM (by first| (simp only[LS,HS,aUa,aSg,aT1,gi,ge,g3,gw,tN,gl,hdr,aT6,ha2,ha1,g9',gA,g0i,<-aUk,<-aUl,aUd]<;>with_reducible rfl)|rfl) ?_;refine aGt (bm:= [0,0,3,7,0,16,63,0,0,384,1023,2047]) [1] 1 (.buf (z.2.take i).length 5) (by kernel_rfl) (by simp only[kE,seval,aB,qG,gi,ge,g3,gw,tN,gl,hdr,aT6,ha2,ha1,g9',gA,g0i,<-aUk,<-aUl,aUd]<;>with_reducible rfl) (by simp only[kE,seval,aB,qG,gi,ge,g3,gw,tN,gl,hdr,aT6,ha2,ha1,g9',gA,g0i,<-aUk,<-aUl,aUd]<;>with_reducible rfl) (by simp only[kE,seval,aB,qG,gi,ge,g3,gw,tN,gl,hdr,aT6,ha2,ha1,g9',gA,g0i,<-aUk,<-aUl,aUd]) z7 aGm (λH' hH _=>RQ H' 1 (z.2.take i) (hH 1 z6) (by simp;omega)) z6 (by simp only[jX,jO,jN,seval,aB,qG,gi,ge,g3,gw,tN,gl,hdr,aT6,ha2,ha1,g9',gA,g0i,<-aUk,<-aUl,aUd]<;>first|done|rfl) (by simp only[jX,jO,jN,seval,aB,qG,gi,ge,g3,gw,tN,gl,hdr,aT6,ha2,ha1,g9',gA,g0i,<-aUk,<-aUl,aUd]<;>first|done|rfl) (by simp only[jX,jO,jN,seval,aB,qG,gi,ge,g3,gw,tN,gl,hdr,aT6,ha2,ha1,g9',gA,g0i,<-aUk,<-aUl,aUd]<;>with_reducible rfl) ?_;refine uF (bm:= [0,0,3,7,0,16,63,0,0,384,1023,2047]) (fresh:=0) (by kernel_rfl) (by simp only[jX,jO,jN,seval,rS,nT,jS,aB,qG,gi,ge,g3,gw,tN,gl,hdr,aT6,ha2,ha1,g9',gA,g0i,<-aUk,<-aUl,aUd]<;>with_reducible rfl) z7 (by repeat (first|exact fK.base _|with_reducible apply fK.keep|apply fK.drop)) ?_;refine ZE (a3 y3 gl x1) ?_
     try simp only[aW,aO]
     exact⟨(z.1+1,z.2.take i++ [d]),_,by show ds.length- (z.1+1)<ds.length-z.1;omega,⟨rfl,rfl,rfl,by first|rfl| (simp[wkA,PV.drop1];done),trivial⟩,rfl,by simp only;omega,by rw[aT8 hz,AI,List.foldl_append,<-AI,<-hg0.2.1,<-hd];show _=qH d z.2;rw[hg.2],by simp only[aTi,aS2,aS9,aS8,aT5];omega⟩
  ·
   have g3:decide ((z.1:Int)<(ds.length:Int))=false:=decide_eq_false z8;have hzz:ds.take z.1=ds:=aUf hz;rw[hzz]at hg0;refine ZE (a2 y3 g3) ?_;refine ZF g3 ?_;refine wQ ?_;refine bD ?_;simp only[aW,aO,reduceIte,Nat.reduceEqDiff,aUb,if_true,if_false];refine ZE g3 ?_;refine wQ ?_;refine wT ⟨.inr rfl,_,rfl, ?_⟩;rw[<-hg0.2.1];rfl
set_option maxRecDepth 4000
def RF(ib jt:Nat)(ts:List (List UInt8))(H:aC):Prop:=H[ib]? =some (.row [.slice (ts.map PV.str) (.tok jt)])/\H[jt]? =some (.buf ts.length 1)/\ib≠jt/\H[0]? =some gO/\ib≠0/\jt≠0
def rQ(f:FuncId)(args:List PV)(out:List (List UInt8)):Prop:=∀(ib jt:Nat) (ts:List (List UInt8)) (H:aC),RF ib jt ts H->ts.length+out.length<=1000->aN Tryz.prog f (.optr ib 0::args) H λr H'=>r= .tup []/\RF ib jt (ts++out) H'/\Fr [ib,jt] [ib,jt] H H'
theorem RF.app{ib jt:Nat}{ts:List (List UInt8)}{H:aC}(h:RF ib jt ts H)(L:aC):RF ib jt ts (H++L):=⟨aA h.1 L,aA h.2.1 L,h.2.2.1,aA h.2.2.2.1 L,h.2.2.2.2⟩
theorem RF.cast{ib jt:Nat}{ts us:List (List UInt8)}{H:aC}(h:RF ib jt ts H)(e:ts=us):RF ib jt us H:=e▸h
theorem Fr.app0(F:List Nat)(H L:aC):Fr F F H (H++L):=⟨z6,λid h1 h2=>aSv h1,λid h _=>h⟩
theorem rQ.at{f:FuncId}{args:List PV}{out:List (List UInt8)}(h:rQ f args out){ib jt:Nat}{ts:List (List UInt8)}{H:aC}(k:RF ib jt ts H)(hl:ts.length+out.length<=1000):aN Tryz.prog f (.optr ib 0::args) H λr H'=>r= .tup []/\RF ib jt (ts++out) H'/\Fr [ib,jt] [ib,jt] H H':=h ib jt ts H k hl
theorem aLw{us vs:List (List UInt8)}{id:Nat}{tl:jM}(hb:(us.length+vs.length)*16<=2^47)(hne:vs≠ [])(fresh:Nat)(H:aC)(hH:H[id]? =some (.buf us.length 1)):
  dQ ⟨false,1,16⟩ fresh H (.slice (us.map PV.str) (.tok id)) (.slice (vs.map PV.str) tl)=some (.slice ((us++vs).map PV.str) (.tok id),some (id, .buf (us.length+vs.length) 1)):=by
 have em:maxLen=9223372036854775807:=z7
 have:=zX (i:=⟨false,1,16⟩) (fr:=fresh) (H:=H) (es:=us.map PV.str) (xs:=vs.map PV.str) (id:=id) (tl:=tl) (by simpa using hH) (by simpa using hne) (by simpa using hb) (by simp;omega) (λe he=>by obtain⟨v,_,rfl⟩:=aTq.1 he;rfl)
  (λe he=>by obtain⟨v,_,rfl⟩:=aTq.1 he;exact⟨rfl,rfl⟩) z7
 simpa using this
def tW(ib jt bx:Nat)(ts:List (List UInt8))(n:Nd)(H0 H:aC):Prop:=RF ib jt ts H/\H[bx]? =some (CE n)/\Fr [ib,jt] [ib,jt] H0 H
theorem xM{ib jt:Nat}{ts:List (List UInt8)}{H0:aC}(kk:RF ib jt ts H0)(n:Nd):(H0.length≠ib/\H0.length≠jt)/\tW ib jt H0.length ts n H0 (H0++ [CE n]):=
 ⟨⟨by have:=lG kk.1;omega,by have:=lG kk.2.1;omega⟩,kk.app _,z6,Fr.app0 _ _ _⟩
theorem tW.P{ib jt bx:Nat}{ts us:List (List UInt8)}{n:Nd}{H0 H H':aC}(hx:bx≠ib/\bx≠jt)(h:tW ib jt bx ts n H0 H)(k:RF ib jt us H')(f:Fr [ib,jt] [ib,jt] H H'):tW ib jt bx us n H0 H':=
 ⟨k,by rw[f.same _ (lG h.2.1) (by simp[hx.1,hx.2])];exact h.2.1,h.2.2.trans f⟩
def SO(v:Int):List UInt8:=if v=1 then [49]else if v=2 then [50]else [51]
def kD(n:Nd)(i:Nat):Nd:=n.kids.getD i ⟨0,0,[],0,0,0,[]⟩
theorem IR(xs:List (List UInt8))(hne:xs≠ []):rQ 205 [.slice (xs.map PV.str) .none] xs:=by
 intro ib jt ts H0 k0 hl;obtain⟨h1,h2,h3,h4,h5,h6⟩:=k0;have ha:=λtl fr H hH=>aLw (us:=ts) (vs:=xs) (id:=jt) (tl:=tl) z8 hne fr H hH;have hi:=lG h1;have hj:=lG h2;have nI:(ib=H0.length)=False:=by simp;omega
 have nJ:(jt=H0.length)=False:=by simp;omega
 have hs1:∀o,(H0.set jt o)[ib]? =some (.row [.slice (ts.map PV.str) (.tok jt)]):=λo=>by rw[aS0 (Ne.symm h3)];exact h1
 refine aF (N:=13) Tryz.func205 rfl rfl z6 λhb'=> ?_;refine ZE (a5 y9 fQ aI7 h1 (a5 h2 ha nI nJ hs1)) ?_;refine⟨(by first|exact .inl rfl|exact .inl trivial|trivial),_,rfl, ?_⟩;refine⟨rfl,⟨aSz (by simpa using hi),by rw[aS0 h3,aSz hj,aTi],h3,by rw[aS0 h5,aS0 h6];exact h4,h5,h6⟩,z6,λid q1 q2=> ?_,λid q _=>q⟩;simp only[aTv,aT7,or_false,not_or]at q2;rw[aS0 (Ne.symm q2.1),aS0 (Ne.symm q2.2)]
theorem aNg(n:Nd)(t:List UInt8)(hv:n.value=0):PC Tryz.prog 206 [n.enc, .str t] (.str []):=by
 have hand:aHp n.value 1=0:=by rw[hv];rfl
 refine dN (N:=10) Tryz.func206 rfl rfl z6 (by simp[Nd.bel,aZ.str]) (.str _) ?_;refine ZE bY ?_;refine ZT 2 (a3 y3 bY hand) ?_;refine iM (mL tN) (pR (op:=.and) (m:=n.value) (n:=1) (r:=aHp n.value 1) rfl (.inr ⟨rfl,rfl⟩) z7 z7 (fV tN) (fV tN)) ?_;refine ZX (a2 y3 hand) ?_;refine ZF0 ?_;refine qK ?_;refine uA ?_;refine wQ ?_;refine wT ⟨.inr rfl,_,rfl, ?_⟩;rfl
theorem YC{H:aC}(hG:H[0]? =some gO):aN Tryz.prog 207 [aB 3] H λr H'=>r= .str [102,110]/\H'=H:=by
 refine gK (N:=10) Tryz.func207 rfl rfl z6 (.str _) λhb'=> ?_;have hk:=yQ [117,115,101,32,102,110,32,115,116,114,117,99,116,32,101,110,117,109,32,116,114,97,105,116,32,105,109,112,108,32,99,111,110,115,116,32,109,97,99,114,111] z7 z7 (by rw[CL];decide) hG;rw[CL]at hk;have gw1:IntKind.i64.wrap 1=1:=z7
 refine uA ?_;refine ZE y3 ?_;refine ZF0 ?_;refine qK ?_;refine wQ ?_;refine wR ?_;refine pL (by simp only[kC,seval,aB,qC,qG,eX,eY,lW,gw1,Int.toNat_one]<;>with_reducible rfl) (by simp only[kC,seval,aB,qC,qG,eX,eY,lW,gw1,Int.toNat_one]) z7 EG (hk) ?_;rintro _ _ ⟨rfl,rfl⟩;refine nO (by simp only[kA,seval,y3,y9,fQ,aB,qC,qG,eX,eY,lW,gw1,Int.toNat_one]<;>with_reducible rfl) z7 ?_;refine wQ ?_;refine wT ⟨.inr rfl,_,_,rfl, ?_,ZW⟩;rfl
theorem sW(n:Nd)(i:Nat):PC Tryz.prog 208 [n.enc,aB (i:Int)] (kD n i).enc:=by
 refine dN (N:=16) Tryz.func208 rfl rfl z6 (by simp[Nd.bel,aZ.int]) (Nd.bel _ _) ?_;refine ZE bY ?_;rcases aSk i n.kids.length with hi|hi
 ·
  have gi:=bS hi;have ge:=eH Nd.enc hi;have gl:decide ((i:Int)>=(n.kids.length:Int))=false:=decide_eq_false z8;have hk:kD n i=n.kids[i]:=by unfold kD;rw[aTe,aTd hi];rfl
  obtain⟨c,hc⟩:∃c,c=n.kids[i]:=⟨_,rfl⟩;rw[<-hc]at ge hk;refine ZE (a5 y3 zY bY gi (a2 ge gl)) ?_;refine ZF (a3 gi ge gl) ?_;refine qK ?_;refine ZE (a5 zY bY gi ge gl) ?_;refine wQ ?_;refine wT ⟨.inr rfl,_,(cD 4 31 rfl nQ z7 (by simp only[jL,jN,seval,aB,qC,qG,eX,eY,gi,ge,gl,tN]<;>with_reducible rfl)), ?_⟩;rw[hk];first|rfl| (cases c;rfl)
 ·
  have gl:decide ((i:Int)>=(n.kids.length:Int))=true:=decide_eq_true z8;have hk:kD n i=⟨0,0,[],0,0,0,[]⟩:=by unfold kD;rw[aTe,aSx z8];rfl
  refine ZE (a4 y3 zY bY gl) ?_;refine ZG gl ?_;refine ZE (a2 bY gl) ?_;refine wQ ?_;refine wT ⟨.inr rfl,_,(cD 4 31 rfl nQ z7 (by simp only[jL,jN,seval,aB,qC,qG,eX,eY,gl]<;>with_reducible rfl)), ?_⟩;rw[hk];rfl
set_option maxRecDepth 4000
theorem JF(ns:List Nd)(sep:List UInt8)(out:List (List UInt8))(hn:ns.length<=1)(h:∀n∈ns,rQ 89 [n.enc] out)(h0:ns= []->out= []):rQ 143 [.slice (ns.map Nd.enc) .none, .str sep] out:=by
 intro ib jt ts H0 k0 hl;have g0:Fr [ib,jt] [ib,jt] H0 H0:=Fr.refl _ _;refine aF (N:=25) Tryz.func143 rfl rfl z6 λhb'=> ?_;refine ZE (a2 zY bY) ?_;refine qB ?_;refine eC (σ:=Nat) (λ(j:Nat)=> [(0, .optr ib 0),(2, .str sep),(8, .slice (ns.map Nd.enc) .none),(9,aB (ns.length:Int)),(10,aB (j:Int))]) (λ(j:Nat)=>λH1=>j<=ns.length/\RF ib jt (ts++if j=0 then []else out) H1/\Fr [ib,jt] [ib,jt] H0 H1) (λ(j:Nat)=>ns.length-j) (0) (Zt tN) (⟨aTn _,by simpa using k0,g0⟩) ?_;intro j H1 hg;obtain⟨hj,k1,g1⟩:=hg;rcases aSk j ns.length with hi|hi
 ·
  obtain rfl:j=0:=z8
  obtain⟨n,rfl⟩:∃n,ns= [n]:=by
   match ns,hn,hi with
   | [n],_,_=>exact⟨n,rfl⟩
  rw[if_pos rfl,aT4]at k1;refine ZE y3 ?_;refine ZG tN ?_;refine qK ?_;refine qB ?_;refine ZE (a2 zY bY) ?_;refine wQ ?_;obtain⟨hx,hB⟩:=xM k1 n;refine bG (tW ib jt H1.length ts n H1) hB ?_;rintro HA ⟨k2,b2,g2⟩;refine eE (Za y3) z7 ?_;refine ZF0 ?_;refine qK ?_;refine ZT 2 (a2 bY b2) ?_;refine ZA b2 LO ((h n z6).at k2 z8) ?_;rintro _ H2 ⟨rfl,k2,f2⟩;have g3:=(g1.trans g2).trans f2;refine oN ?_;refine ZE (a2 y3 b2) ?_
  try simp only[aW,aO]
  exact⟨1,z6,ZV,z6,k2,g3⟩
 ·
  have gl:decide ((j:Int)<(ns.length:Int))=false:=decide_eq_false z8;refine ZE (a2 y3 gl) ?_;refine ZF gl ?_;refine wQ ?_;refine bD ?_;simp only[aW,aO,reduceIte,Nat.reduceEqDiff,aUb,if_true,if_false];refine⟨(by first|exact .inl rfl|exact .inl trivial|trivial),_,rfl, ?_⟩;refine⟨rfl,k1.cast ?_,g1⟩;rcases Nat.eq_zero_or_pos j with hz|hz
  ·rw[if_pos hz,h0 (aTx.1 z8)]
  ·rw[if_neg z8]
theorem PD(o c sep:List UInt8)(ns:List Nd)(out:List (List UInt8))(h:rQ 143 [.slice (ns.map Nd.enc) .none, .str sep] out):rQ 209 [.str o, .slice (ns.map Nd.enc) .none, .str sep, .str c] (o::out++ [c]):=by
 intro ib jt ts H0 k0 hl;have g0:Fr [ib,jt] [ib,jt] H0 H0:=Fr.refl _ _;refine aF (N:=22) Tryz.func209 rfl rfl z6 λhb'=> ?_;refine ZT 3 (a2 y9 fQ) ?_;refine ZA0 AT ((IR [o] z6).at k0 (by first|omega| (simp only[aTi,aS2,aT5]at hl⊢;omega))) ?_;rintro _ H1 ⟨rfl,k1,f1⟩;have g1:=g0.trans f1;refine oN ?_;refine ZT0 3 ?_;refine ZA0 aA1 ((h).at k1 (by first|omega| (simp only[aTi,aS2,aT5]at hl⊢;omega))) ?_;rintro _ H2 ⟨rfl,k2,f2⟩;have g2:=g1.trans f2;refine oN ?_;refine ZT 3 (a2 y9 fQ) ?_;refine ZA0 AT ((IR [c] z6).at k2 (by first|omega| (simp only[aTi,aS2,aT5]at hl⊢;omega))) ?_;rintro _ H3 ⟨rfl,k3,f3⟩;have g3:=g2.trans f3;refine oN ?_;refine⟨(by first|exact .inl rfl|exact .inl trivial|trivial),_,rfl, ?_⟩;exact⟨rfl,k3.cast z6,g3⟩
theorem aFj:rQ 212 [.slice [] .none] []:=by
 intro ib jt ts H0 k0 hl;have g0:Fr [ib,jt] [ib,jt] H0 H0:=Fr.refl _ _;refine aF (N:=10) Tryz.func212 rfl rfl z6 λhb'=> ?_;refine ZE (a3 y3 zY bY) ?_;refine ZF0 ?_;refine qK ?_;refine⟨(by first|exact .inl rfl|exact .inl trivial|trivial),_,rfl, ?_⟩;exact⟨rfl,k0.cast z6,g0⟩
theorem aO4(t:List UInt8)(n:Nd)(hk:n.kind=0):rQ 210 [.str t,n.enc] []:=by
 intro ib jt ts H0 kk hl;refine aF (N:=16) Tryz.func210 rfl rfl z6 λhb'=> ?_;refine ZE bY ?_;refine wQ ?_;obtain⟨hx,hB⟩:=xM kk n;refine bG (tW ib jt H0.length ts n H0) hB ?_;rintro HA ⟨k0,b0,g0⟩;refine eE (Za (a4 y3 bY b0 hk)) z7 ?_;refine ZF hk ?_;refine qK ?_;refine⟨(by first|exact .inl rfl|exact .inl trivial|trivial),_,rfl, ?_⟩;exact⟨rfl,k0.cast z6,g0⟩
set_option maxRecDepth 4000
theorem aFn(v:Int)(hv:v=1\/v=2\/v=3):PC Tryz.prog 309 [aB v] (.str (SO v)):=by
 refine dN (N:=15) Tryz.func309 rfl rfl z6 (by simp[aZ.int]) (.str _) ?_;have gw2:IntKind.i64.wrap 2=2:=z7
 have gw3:IntKind.i64.wrap 3=3:=z7
 have gw4:IntKind.i64.wrap 4=4:=z7
 rcases hv with rfl|rfl|rfl
 all_goals
  refine uA ?_;refine ZE y3 ?_;refine ZG tN ?_;refine wQ ?_;refine eE (by simp only[kA,seval,y3,y9,aB,jS,gw2,gw3,gw4]<;>with_reducible rfl) z7 ?_;refine wQ ?_;refine wT ⟨.inr rfl,_,rfl, ?_⟩;rfl
theorem aPi(v:Int)(hv:v=1\/v=2\/v=3):PC Tryz.prog 286 [aB v,aB 10] (.str (SO v)):=by
 have l1:decide ((0:Int)<=v)=true:=decide_eq_true z8;have l2:decide (v<100)=true:=decide_eq_true z8;refine dN (N:=54) Tryz.func286 rfl rfl z6 (by simp[aZ.int]) (.str _) ?_;refine uA ?_;refine ZE y3 ?_;refine ZG tN ?_;refine tL (a3 y2 l1 l2) ?_;refine ZG tN ?_;refine ZT0 1 ?_;refine ZP0 aKg (aFn v hv _) ?_;refine ZX0 ?_;refine wQ ?_;refine wT ⟨.inr rfl,_,rfl, ?_⟩;rfl
theorem aDv(v:Int)(hv:v=1\/v=2\/v=3):PC Tryz.prog 259 [aB v] (.str (SO v)):=by
 refine dN (N:=5) Tryz.func259 rfl rfl z6 (by simp[aZ.int]) (.str _) ?_;refine uA ?_;refine ZT0 1 ?_;refine ZP0 aL6 (aPi v hv _) ?_;refine ZX0 ?_;refine wQ ?_;refine wT ⟨.inr rfl,_,rfl, ?_⟩;rfl
theorem aN3(v:Int)(hv:v=1\/v=2\/v=3):PC Tryz.prog 213 [aB v] (.str (SO v)):=by
 refine dN (N:=5) Tryz.func213 rfl rfl z6 (by simp[aZ.int]) (.str _) ?_;refine uA ?_;refine ZT0 1 ?_;refine ZP0 aK1 (aDv v hv _) ?_;refine ZX0 ?_;refine wQ ?_;refine wT ⟨.inr rfl,_,rfl, ?_⟩;rfl
theorem aI5(n:Nd)(hk:n.kind=10)(h0:n.kids= []):rQ 145 [n.enc] ([]):=by
 intro ib jt ts H0 kk hl;have hke:∀c:Int,decide (n.kind=c)=decide ((10:Int)=c):=λc=>by rw[hk]
 have hkg:∀c:Int,decide (n.kind>=c)=decide ((10:Int)>=c):=λc=>by rw[hk]
 have hkl:∀c:Int,decide (n.kind<=c)=decide ((10:Int)<=c):=λc=>by rw[hk]
 refine aF (N:=107) Tryz.func145 rfl rfl z6 λhb'=> ?_;refine ZE (a4 bY hke hkg hkl) ?_;refine wQ ?_;obtain⟨hx,hB⟩:=xM kk n;refine bG (tW ib jt H0.length ts n H0) hB ?_;rintro HA ⟨k0,b0,g0⟩;refine eE (Za (a5 y3 bY hke hkg (a2 hkl b0))) z7 ?_;refine qB ?_;refine ZE (a5 y3 hke hkg hkl b0) ?_;refine ZG (a3 hke hkg hkl) ?_;refine wQ ?_;refine wR ?_;refine eT 3 (by simp only[kA,seval,zY,bY,aB,qC,qG,eX,eY,hke,hkg,hkl,b0,h0,aT6]<;>with_reducible rfl) z7 ?_;refine oC (by simp only[kC,seval,aB,qC,qG,eX,eY,hke,hkg,hkl,b0,h0,aT6]<;>with_reducible rfl) (by simp only[kC,seval,aB,qC,qG,eX,eY,hke,hkg,hkl,b0,h0,aT6]) z7 aLe ((aFj).at k0 (by first|omega| (simp only[aTi,aS2,aT5]at hl⊢;omega))) ?_;rintro _ H1 ⟨rfl,k1,f1⟩;obtain⟨_,b1,g1⟩:=tW.P hx ⟨k0,b0,g0⟩ k1 f1;refine oN ?_;refine⟨(by first|exact .inl rfl|exact .inl trivial|trivial),_,rfl, ?_⟩;exact⟨rfl,k1.cast z6,g1⟩
theorem aCy(n:Nd)(hk:n.kind=21){out:List (List UInt8)}(h:rQ 143 [.slice (n.kids.map Nd.enc) .none, .str []] out):rQ 148 [n.enc] ([123]::out++ [[125]]):=by
 intro ib jt ts H0 kk hl;have hke:∀c:Int,decide (n.kind=c)=decide ((21:Int)=c):=λc=>by rw[hk]
 have hkg:∀c:Int,decide (n.kind>=c)=decide ((21:Int)>=c):=λc=>by rw[hk]
 have hkl:∀c:Int,decide (n.kind<=c)=decide ((21:Int)<=c):=λc=>by rw[hk]
 refine aF (N:=122) Tryz.func148 rfl rfl z6 λhb'=> ?_;have x1:=a3 hke hkg hkl;refine ZE (a2 bY x1) ?_;refine wQ ?_;obtain⟨hx,hB⟩:=xM kk n;refine bG (tW ib jt H0.length ts n H0) hB ?_;rintro HA ⟨k0,b0,g0⟩;refine eE (Za (a4 y3 bY b0 x1)) z7 ?_;refine qB ?_;refine ZE (a3 y3 b0 x1) ?_;refine ZG x1 ?_;refine ZT 3 (a4 zY bY b0 x1) ?_;refine ZA (a2 b0 x1) OS ((PD [123] [125] [] n.kids _ h).at k0 (by first|omega| (simp only[aTi,aS2,aT5]at hl⊢;omega))) ?_;rintro _ H1 ⟨rfl,k1,f1⟩;obtain⟨_,b1,g1⟩:=tW.P hx ⟨k0,b0,g0⟩ k1 f1;refine oN ?_;refine⟨(by first|exact .inl rfl|exact .inl trivial|trivial),_,rfl, ?_⟩;exact⟨rfl,k1.cast z6,g1⟩
theorem aD6(n:Nd)(hk:n.kind=27)(hv:n.value=1\/n.value=2\/n.value=3):rQ 147 [n.enc] ([SO n.value]):=by
 intro ib jt ts H0 kk hl;have hke:∀c:Int,decide (n.kind=c)=decide ((27:Int)=c):=λc=>by rw[hk]
 have hkg:∀c:Int,decide (n.kind>=c)=decide ((27:Int)>=c):=λc=>by rw[hk]
 have hkl:∀c:Int,decide (n.kind<=c)=decide ((27:Int)<=c):=λc=>by rw[hk]
 refine aF (N:=117) Tryz.func147 rfl rfl z6 λhb'=> ?_;have x1:=a3 hke hkg hkl;refine ZE (a2 bY x1) ?_;refine wQ ?_;obtain⟨hx,hB⟩:=xM kk n;refine bG (tW ib jt H0.length ts n H0) hB ?_;rintro HA ⟨k0,b0,g0⟩;refine eE (Za (a4 y3 bY b0 x1)) z7 ?_;refine qB ?_;refine ZE (a3 y3 b0 x1) ?_;refine ZG x1 ?_;refine ZT 3 (a4 y3 bY b0 x1) ?_;refine ZP (a2 b0 x1) aMr (aN3 n.value hv _) ?_;refine ZU 1 (a4 y9 fQ b0 x1) ?_;refine ZA (a2 b0 x1) AT ((IR [SO n.value] z6).at k0 (by first|omega| (simp only[aTi,aS2,aT5]at hl⊢;omega))) ?_;rintro _ H1 ⟨rfl,k1,f1⟩;obtain⟨_,b1,g1⟩:=tW.P hx ⟨k0,b0,g0⟩ k1 f1;refine oN ?_;refine⟨(by first|exact .inl rfl|exact .inl trivial|trivial),_,rfl, ?_⟩;exact⟨rfl,k1.cast z6,g1⟩
theorem TE(n:Nd)(hk:n.kind=39){o0 o1:List (List UInt8)}(h0:rQ 216 [(kD n 0).enc] o0)(h1:rQ 216 [(kD n 1).enc] o1):rQ 147 [n.enc] (o0++n.text::o1):=by
 intro ib jt ts H0 kk hl;have hke:∀c:Int,decide (n.kind=c)=decide ((39:Int)=c):=λc=>by rw[hk]
 have hkg:∀c:Int,decide (n.kind>=c)=decide ((39:Int)>=c):=λc=>by rw[hk]
 have hkl:∀c:Int,decide (n.kind<=c)=decide ((39:Int)<=c):=λc=>by rw[hk]
 refine aF (N:=117) Tryz.func147 rfl rfl z6 λhb'=> ?_;have x1:=a3 hke hkg hkl;refine ZE (a2 bY x1) ?_;refine wQ ?_;obtain⟨hx,hB⟩:=xM kk n;refine bG (tW ib jt H0.length ts n H0) hB ?_;rintro HA ⟨k0,b0,g0⟩;refine eE (Za (a4 y3 bY b0 x1)) z7 ?_;refine qB ?_;refine ZE (a3 y3 b0 x1) ?_;refine ZF x1 ?_;refine ZE (a3 y3 b0 x1) ?_;refine ZF x1 ?_;refine ZE (a3 y3 b0 x1) ?_;refine ZF x1 ?_;refine ZE (a3 y3 b0 x1) ?_;refine ZF x1 ?_;refine ZE (a3 y3 b0 x1) ?_;refine ZF x1 ?_;refine ZE (a3 y3 b0 x1) ?_;refine ZF x1 ?_;refine ZL [0,3,5] x1 ?_;refine ZE (a3 y3 b0 x1) ?_;refine ZG x1 ?_;refine ZT 2 (a3 bY b0 x1) ?_;refine ZP (a2 b0 x1) xI (sW n 0 _) ?_;refine ZA (a2 b0 x1) aCz ((h0).at k0 (by first|omega| (simp only[aTi,aS2,aT5]at hl⊢;omega))) ?_;rintro _ H1 ⟨rfl,k1,f1⟩;obtain⟨_,b1,g1⟩:=tW.P hx ⟨k0,b0,g0⟩ k1 f1;refine oN ?_;refine ZT 4 (a5 y9 bY fQ b1 (a2 b0 x1)) ?_;refine ZA (a3 b1 b0 x1) AT ((IR [n.text] z6).at k1 (by first|omega| (simp only[aTi,aS2,aT5]at hl⊢;omega))) ?_;rintro _ H2 ⟨rfl,k2,f2⟩;obtain⟨_,b2,g2⟩:=tW.P hx ⟨k1,b1,g1⟩ k2 f2;refine oN ?_;refine ZT 2 (a5 bY b1 b2 b0 x1) ?_;refine ZP (a4 b1 b2 b0 x1) xI (sW n 1 _) ?_;refine ZA (a4 b1 b2 b0 x1) aCz ((h1).at k2 (by first|omega| (simp only[aTi,aS2,aT5]at hl⊢;omega))) ?_;rintro _ H3 ⟨rfl,k3,f3⟩;obtain⟨_,b3,g3⟩:=tW.P hx ⟨k2,b2,g2⟩ k3 f3;refine oN ?_;refine⟨(by first|exact .inl rfl|exact .inl trivial|trivial),_,rfl, ?_⟩;exact⟨rfl,k3.cast z6,g3⟩
theorem aFs(n:Nd)(hk:n.kind=27){out:List (List UInt8)}(h:rQ 89 [n.enc] out):rQ 216 [n.enc] (out):=by
 intro ib jt ts H0 kk hl;have hke:∀c:Int,decide (n.kind=c)=decide ((27:Int)=c):=λc=>by rw[hk]
 have hkg:∀c:Int,decide (n.kind>=c)=decide ((27:Int)>=c):=λc=>by rw[hk]
 have hkl:∀c:Int,decide (n.kind<=c)=decide ((27:Int)<=c):=λc=>by rw[hk]
 refine aF (N:=22) Tryz.func216 rfl rfl z6 λhb'=> ?_;have x1:=a3 hke hkg hkl;refine ZE (a2 bY x1) ?_;refine wQ ?_;obtain⟨hx,hB⟩:=xM kk n;refine bG (tW ib jt H0.length ts n H0) hB ?_;rintro HA ⟨k0,b0,g0⟩;refine eE (Za (a4 y3 bY b0 x1)) z7 ?_;refine qB ?_;refine ZE (a3 y3 b0 x1) ?_;refine ZG x1 ?_;refine qK ?_;refine ZG x1 ?_;refine ZT 2 (a3 bY b0 x1) ?_;refine ZA (a2 b0 x1) LO ((h).at k0 (by first|omega| (simp only[aTi,aS2,aT5]at hl⊢;omega))) ?_;rintro _ H1 ⟨rfl,k1,f1⟩;obtain⟨_,b1,g1⟩:=tW.P hx ⟨k0,b0,g0⟩ k1 f1;refine oN ?_;refine⟨(by first|exact .inl rfl|exact .inl trivial|trivial),_,rfl, ?_⟩;exact⟨rfl,k1.cast z6,g1⟩
theorem aFl(n:Nd)(hk:n.kind=39){out:List (List UInt8)}(h:rQ 143 [.slice ([n].map Nd.enc) .none, .str []] out):rQ 216 [n.enc] ([40]::out++ [[41]]):=by
 intro ib jt ts H0 kk hl;have hke:∀c:Int,decide (n.kind=c)=decide ((39:Int)=c):=λc=>by rw[hk]
 have hkg:∀c:Int,decide (n.kind>=c)=decide ((39:Int)>=c):=λc=>by rw[hk]
 have hkl:∀c:Int,decide (n.kind<=c)=decide ((39:Int)<=c):=λc=>by rw[hk]
 refine aF (N:=22) Tryz.func216 rfl rfl z6 λhb'=> ?_;have x1:=a3 hke hkg hkl;refine ZE (a2 bY x1) ?_;refine wQ ?_;obtain⟨hx,hB⟩:=xM kk n;refine bG (tW ib jt H0.length ts n H0) hB ?_;rintro HA ⟨k0,b0,g0⟩;refine eE (Za (a4 y3 bY b0 x1)) z7 ?_;refine qB ?_;refine ZE (a3 y3 b0 x1) ?_;refine ZF x1 ?_;refine ZE (a3 y3 b0 x1) ?_;refine ZF x1 ?_;refine ZE (a3 y3 b0 x1) ?_;refine ZF x1 ?_;refine ZE (a3 y3 b0 x1) ?_;refine ZF x1 ?_;refine ZE (a3 y3 b0 x1) ?_;refine ZF x1 ?_;refine ZE (a3 y3 b0 x1) ?_;refine ZF x1 ?_;refine ZL [0,3,5] x1 ?_;refine ZE (a3 y3 b0 x1) ?_;refine ZF x1 ?_;refine ZE (a3 y3 b0 x1) ?_;refine ZF x1 ?_;refine ZT 3 (a4 zY bY b0 x1) ?_;refine ZA (a2 b0 x1) OS ((PD [40] [41] [] [n] _ h).at k0 (by first|omega| (simp only[aTi,aS2,aT5]at hl⊢;omega))) ?_;rintro _ H1 ⟨rfl,k1,f1⟩;obtain⟨_,b1,g1⟩:=tW.P hx ⟨k0,b0,g0⟩ k1 f1;refine oN ?_;refine⟨(by first|exact .inl rfl|exact .inl trivial|trivial),_,rfl, ?_⟩;exact⟨rfl,k1.cast z6,g1⟩
theorem aE1(n:Nd)(hk:n.kind=27){out:List (List UInt8)}(h:rQ 147 [n.enc] out):rQ 89 [n.enc] (out):=by
 intro ib jt ts H0 kk hl;have hke:∀c:Int,decide (n.kind=c)=decide ((27:Int)=c):=λc=>by rw[hk]
 have hkg:∀c:Int,decide (n.kind>=c)=decide ((27:Int)>=c):=λc=>by rw[hk]
 have hkl:∀c:Int,decide (n.kind<=c)=decide ((27:Int)<=c):=λc=>by rw[hk]
 refine aF (N:=78) Tryz.func89 rfl rfl z6 λhb'=> ?_;have x1:=a3 hke hkg hkl;refine ZE (a2 bY x1) ?_;refine qB ?_;refine wQ ?_;obtain⟨hx,hB⟩:=xM kk n;refine bG (tW ib jt H0.length ts n H0) hB ?_;rintro HA ⟨k0,b0,g0⟩;refine eE (Za (a4 y3 bY b0 x1)) z7 ?_;refine ZF x1 ?_;refine tL (a4 y3 bY b0 x1) ?_;refine ZF x1 ?_;refine ZL [0,3] x1 ?_;refine tL (a4 y3 bY b0 x1) ?_;refine ZF x1 ?_;refine tL (a4 y3 bY b0 x1) ?_;refine ZF x1 ?_;refine ZL [0,3] x1 ?_;refine tL (a4 y3 bY b0 x1) ?_;refine ZG x1 ?_;refine ZL [0,3] x1 ?_;refine ZT 2 (a3 bY b0 x1) ?_;refine ZA (a2 b0 x1) ZD ((h).at k0 (by first|omega| (simp only[aTi,aS2,aT5]at hl⊢;omega))) ?_;rintro _ H1 ⟨rfl,k1,f1⟩;obtain⟨_,b1,g1⟩:=tW.P hx ⟨k0,b0,g0⟩ k1 f1;refine oN ?_;refine⟨(by first|exact .inl rfl|exact .inl trivial|trivial),_,rfl, ?_⟩;exact⟨rfl,k1.cast z6,g1⟩
theorem TM(n:Nd)(hk:n.kind=39){out:List (List UInt8)}(h:rQ 147 [n.enc] out):rQ 89 [n.enc] (out):=by
 intro ib jt ts H0 kk hl;have hke:∀c:Int,decide (n.kind=c)=decide ((39:Int)=c):=λc=>by rw[hk]
 have hkg:∀c:Int,decide (n.kind>=c)=decide ((39:Int)>=c):=λc=>by rw[hk]
 have hkl:∀c:Int,decide (n.kind<=c)=decide ((39:Int)<=c):=λc=>by rw[hk]
 refine aF (N:=78) Tryz.func89 rfl rfl z6 λhb'=> ?_;have x1:=a3 hke hkg hkl;refine ZE (a2 bY x1) ?_;refine qB ?_;refine wQ ?_;obtain⟨hx,hB⟩:=xM kk n;refine bG (tW ib jt H0.length ts n H0) hB ?_;rintro HA ⟨k0,b0,g0⟩;refine eE (Za (a4 y3 bY b0 x1)) z7 ?_;refine ZF x1 ?_;refine tL (a4 y3 bY b0 x1) ?_;refine ZF x1 ?_;refine ZL [0,3] x1 ?_;refine tL (a4 y3 bY b0 x1) ?_;refine ZF x1 ?_;refine tL (a4 y3 bY b0 x1) ?_;refine ZF x1 ?_;refine ZL [0,3] x1 ?_;refine tL (a4 y3 bY b0 x1) ?_;refine ZG x1 ?_;refine ZL [0,3] x1 ?_;refine ZT 2 (a3 bY b0 x1) ?_;refine ZA (a2 b0 x1) ZD ((h).at k0 (by first|omega| (simp only[aTi,aS2,aT5]at hl⊢;omega))) ?_;rintro _ H1 ⟨rfl,k1,f1⟩;obtain⟨_,b1,g1⟩:=tW.P hx ⟨k0,b0,g0⟩ k1 f1;refine oN ?_;refine⟨(by first|exact .inl rfl|exact .inl trivial|trivial),_,rfl, ?_⟩;exact⟨rfl,k1.cast z6,g1⟩
theorem aD8(n:Nd)(hk:n.kind=21){out:List (List UInt8)}(h:rQ 148 [n.enc] out):rQ 89 [n.enc] (out):=by
 intro ib jt ts H0 kk hl;have hke:∀c:Int,decide (n.kind=c)=decide ((21:Int)=c):=λc=>by rw[hk]
 have hkg:∀c:Int,decide (n.kind>=c)=decide ((21:Int)>=c):=λc=>by rw[hk]
 have hkl:∀c:Int,decide (n.kind<=c)=decide ((21:Int)<=c):=λc=>by rw[hk]
 refine aF (N:=78) Tryz.func89 rfl rfl z6 λhb'=> ?_;have x1:=a3 hke hkg hkl;refine ZE (a2 bY x1) ?_;refine qB ?_;refine wQ ?_;obtain⟨hx,hB⟩:=xM kk n;refine bG (tW ib jt H0.length ts n H0) hB ?_;rintro HA ⟨k0,b0,g0⟩;refine eE (Za (a4 y3 bY b0 x1)) z7 ?_;refine ZF x1 ?_;refine tL (a4 y3 bY b0 x1) ?_;refine ZF x1 ?_;refine ZL [0,3] x1 ?_;refine tL (a4 y3 bY b0 x1) ?_;refine ZF x1 ?_;refine tL (a4 y3 bY b0 x1) ?_;refine ZF x1 ?_;refine ZL [0,3] x1 ?_;refine tL (a4 y3 bY b0 x1) ?_;refine ZF x1 ?_;refine ZL [0,3] x1 ?_;refine ZT 2 (a3 bY b0 x1) ?_;refine ZA (a2 b0 x1) aMe ((h).at k0 (by first|omega| (simp only[aTi,aS2,aT5]at hl⊢;omega))) ?_;rintro _ H1 ⟨rfl,k1,f1⟩;obtain⟨_,b1,g1⟩:=tW.P hx ⟨k0,b0,g0⟩ k1 f1;refine oN ?_;refine⟨(by first|exact .inl rfl|exact .inl trivial|trivial),_,rfl, ?_⟩;exact⟨rfl,k1.cast z6,g1⟩
theorem aIp(n:Nd)(hk:n.kind=10){out:List (List UInt8)}(h:rQ 145 [n.enc] out):rQ 89 [n.enc] (out):=by
 intro ib jt ts H0 kk hl;have hke:∀c:Int,decide (n.kind=c)=decide ((10:Int)=c):=λc=>by rw[hk]
 have hkg:∀c:Int,decide (n.kind>=c)=decide ((10:Int)>=c):=λc=>by rw[hk]
 have hkl:∀c:Int,decide (n.kind<=c)=decide ((10:Int)<=c):=λc=>by rw[hk]
 refine aF (N:=78) Tryz.func89 rfl rfl z6 λhb'=> ?_;have x1:=a3 hke hkg hkl;refine ZE (a2 bY x1) ?_;refine qB ?_;refine wQ ?_;obtain⟨hx,hB⟩:=xM kk n;refine bG (tW ib jt H0.length ts n H0) hB ?_;rintro HA ⟨k0,b0,g0⟩;refine eE (Za (a4 y3 bY b0 x1)) z7 ?_;refine ZF x1 ?_;refine tL (a4 y3 bY b0 x1) ?_;refine ZF x1 ?_;refine ZL [0,3] x1 ?_;refine tL (a4 y3 bY b0 x1) ?_;refine ZG x1 ?_;refine ZT 2 (a3 bY b0 x1) ?_;refine ZA (a2 b0 x1) aI9 ((h).at k0 (by first|omega| (simp only[aTi,aS2,aT5]at hl⊢;omega))) ?_;rintro _ H1 ⟨rfl,k1,f1⟩;obtain⟨_,b1,g1⟩:=tW.P hx ⟨k0,b0,g0⟩ k1 f1;refine oN ?_;refine⟨(by first|exact .inl rfl|exact .inl trivial|trivial),_,rfl, ?_⟩;exact⟨rfl,k1.cast z6,g1⟩
theorem aIf(n:Nd)(hk:n.kind=3){out:List (List UInt8)}(h:rQ 144 [n.enc] out):rQ 89 [n.enc] (out):=by
 intro ib jt ts H0 kk hl;have hke:∀c:Int,decide (n.kind=c)=decide ((3:Int)=c):=λc=>by rw[hk]
 have hkg:∀c:Int,decide (n.kind>=c)=decide ((3:Int)>=c):=λc=>by rw[hk]
 have hkl:∀c:Int,decide (n.kind<=c)=decide ((3:Int)<=c):=λc=>by rw[hk]
 refine aF (N:=78) Tryz.func89 rfl rfl z6 λhb'=> ?_;have x1:=a3 hke hkg hkl;refine ZE (a2 bY x1) ?_;refine qB ?_;refine wQ ?_;obtain⟨hx,hB⟩:=xM kk n;refine bG (tW ib jt H0.length ts n H0) hB ?_;rintro HA ⟨k0,b0,g0⟩;refine eE (Za (a4 y3 bY b0 x1)) z7 ?_;refine ZF x1 ?_;refine tL (a4 y3 bY b0 x1) ?_;refine ZG x1 ?_;refine ZL [0,3] x1 ?_;refine ZT 2 (a3 bY b0 x1) ?_;refine ZA (a2 b0 x1) aHz ((h).at k0 (by first|omega| (simp only[aTi,aS2,aT5]at hl⊢;omega))) ?_;rintro _ H1 ⟨rfl,k1,f1⟩;obtain⟨_,b1,g1⟩:=tW.P hx ⟨k0,b0,g0⟩ k1 f1;refine oN ?_;refine⟨(by first|exact .inl rfl|exact .inl trivial|trivial),_,rfl, ?_⟩;exact⟨rfl,k1.cast z6,g1⟩
theorem YO(n:Nd)(hk:n.kind=1){out:List (List UInt8)}(h:rQ 143 [.slice (n.kids.map Nd.enc) .none, .str []] out):rQ 89 [n.enc] (out):=by
 intro ib jt ts H0 kk hl;have hke:∀c:Int,decide (n.kind=c)=decide ((1:Int)=c):=λc=>by rw[hk]
 have hkg:∀c:Int,decide (n.kind>=c)=decide ((1:Int)>=c):=λc=>by rw[hk]
 have hkl:∀c:Int,decide (n.kind<=c)=decide ((1:Int)<=c):=λc=>by rw[hk]
 refine aF (N:=78) Tryz.func89 rfl rfl z6 λhb'=> ?_;have x1:=a3 hke hkg hkl;refine ZE (a2 bY x1) ?_;refine qB ?_;refine wQ ?_;obtain⟨hx,hB⟩:=xM kk n;refine bG (tW ib jt H0.length ts n H0) hB ?_;rintro HA ⟨k0,b0,g0⟩;refine eE (Za (a4 y3 bY b0 x1)) z7 ?_;refine ZG x1 ?_;refine ZT 3 (a4 zY bY b0 x1) ?_;refine ZA (a2 b0 x1) aA1 ((h).at k0 (by first|omega| (simp only[aTi,aS2,aT5]at hl⊢;omega))) ?_;rintro _ H1 ⟨rfl,k1,f1⟩;obtain⟨_,b1,g1⟩:=tW.P hx ⟨k0,b0,g0⟩ k1 f1;refine oN ?_;refine⟨(by first|exact .inl rfl|exact .inl trivial|trivial),_,rfl, ?_⟩;exact⟨rfl,k1.cast z6,g1⟩
set_option maxRecDepth 4000
theorem aJt(n:Nd)(hk:n.kind=3)(hv:n.value=0){o0 o1 o3:List (List UInt8)}(h0:rQ 89 [(kD n 0).enc] o0)(h1:rQ 209 [.str [40], .slice ((kD n 1).kids.map Nd.enc) .none, .str [44], .str [41]] o1)(h2:(kD n 2).kind=0)(hk3:(kD n 3).kind≠0)(h3:rQ 89 [(kD n 3).enc] o3):rQ 144 [n.enc] ([]:: [102,110]::n.text::(o0++o1++o3)):=by
 intro ib jt ts H0 kk hl;have hke:∀c:Int,decide (n.kind=c)=decide ((3:Int)=c):=λc=>by rw[hk]
 have hkg:∀c:Int,decide (n.kind>=c)=decide ((3:Int)>=c):=λc=>by rw[hk]
 have hkl:∀c:Int,decide (n.kind<=c)=decide ((3:Int)<=c):=λc=>by rw[hk]
 have hk3:n.kind=3:=hk;have hk4:decide ((kD n 3).kind=0)=false:=decide_eq_false (by assumption);have ek1:(kD n 1).enc= .agg [.int .i64 (kD n 1).kind, .int .i64 (kD n 1).value, .str (kD n 1).text, .int .i64 (kD n 1).st, .int .i64 (kD n 1).en, .int .i64 (kD n 1).ns, .slice ((kD n 1).kids.map Nd.enc) .none]:=Nd.enc_eq _;have ek3:(kD n 3).enc= .agg [.int .i64 (kD n 3).kind, .int .i64 (kD n 3).value, .str (kD n 3).text, .int .i64 (kD n 3).st, .int .i64 (kD n 3).en, .int .i64 (kD n 3).ns, .slice ((kD n 3).kids.map Nd.enc) .none]:=Nd.enc_eq _;refine aF (N:=155) Tryz.func144 rfl rfl z6 λhb'=> ?_;have x1:=a3 hke hkg hkl;refine ZE (a2 bY x1) ?_;refine wQ ?_;obtain⟨hx,hB⟩:=xM kk n;refine bG (tW ib jt H0.length ts n H0) hB ?_;rintro HA ⟨kA0,bA,gA⟩;have zA:=kA0.2.2.2.1;refine eK 0 (by kernel_rfl) ?_;refine gM 7 (bm:= [0,0,2,0,8,30,62,127]) (by kernel_rfl) z7 (by kernel_rfl) (by kernel_rfl) ?_;refine AZ 2 (a3 bY bA x1) ?_;refine ZpK (a2 bA x1) aKw (λhc=>aNg n [112,117,98] hv _) ?_;refine AZ 2 (a4 y3 bY bA x1) ?_;refine ZpK (a3 bA hk3 x1) aIm (λhc=>YC zA) ?_;refine FM (a4 y9 fQ bA x1) ?_;refine kK (k:=7) (bm:= [0,0,2,0,8,30,62,127]) (by kernel_rfl) rfl (by kernel_rfl) (by kernel_rfl) ?_;refine ZA (a2 bA x1) AT ((IR [[],[102,110]] z6).at kA0 (by first|omega| (simp only[aTi,aS2,aT5]at hl⊢;omega))) ?_;rintro _ HB ⟨rfl,k0,f0⟩;obtain⟨_,b0,g0⟩:=tW.P hx ⟨kA0,bA,gA⟩ k0 f0;refine oN ?_;show kB _ _ _ _ _ _ _ _;refine fF ?_;refine tL (a4 y3 bY b0 x1) ?_;refine ZG x1 ?_;refine ZL [0,3] x1 ?_;refine ZT 4 (a5 y9 bY fQ b0 x1) ?_;refine ZA (a2 b0 x1) AT ((IR [n.text] z6).at k0 (by first|omega| (simp only[aTi,aS2,aT5]at hl⊢;omega))) ?_;rintro _ H1 ⟨rfl,k1,f1⟩;obtain⟨_,b1,g1⟩:=tW.P hx ⟨k0,b0,g0⟩ k1 f1;refine oN ?_;have x2:=a3 b1 b0 x1;refine ZE (a3 y3 bY x2) ?_;refine qB ?_;refine ZE (a2 y3 x2) ?_;refine ZF (a2 b1 x1) ?_;refine ZE (a2 y3 x2) ?_;refine ZG (a2 b1 x1) ?_;refine ZT 2 (a2 bY x2) ?_;refine ZP x2 xI (sW n 0 _) ?_;refine ZA x2 LO ((h0).at k1 (by first|omega| (simp only[aTi,aS2,aT5]at hl⊢;omega))) ?_;rintro _ H2 ⟨rfl,k2,f2⟩;obtain⟨_,b2,g2⟩:=tW.P hx ⟨k1,b1,g1⟩ k2 f2;refine oN ?_;refine ZL [0,3] (a3 b1 b2 x1) ?_;refine ZT 2 (a3 bY b2 x2) ?_;refine ZP (a2 b2 x2) xI (sW n 1 _) ?_;refine eT 1 (by simp only[kA,seval,bY,aB,ek1]<;>with_reducible rfl) z7 ?_;refine ZA (a2 b2 x2) OS ((h1).at k2 (by first|omega| (simp only[aTi,aS2,aT5]at hl⊢;omega))) ?_;rintro _ H3 ⟨rfl,k3,f3⟩;obtain⟨_,b3,g3⟩:=tW.P hx ⟨k2,b2,g2⟩ k3 f3;refine oN ?_;have x3:=a3 b2 b3 x2;refine ZT 2 (a2 bY x3) ?_;refine ZP x3 xI (sW n 2 _) ?_;refine ZA x3 aMq ((aO4 [45,62] (kD n 2) h2).at k3 (by first|omega| (simp only[aTi,aS2,aT5]at hl⊢;omega))) ?_;rintro _ H4 ⟨rfl,k4,f4⟩;obtain⟨_,b4,g4⟩:=tW.P hx ⟨k3,b3,g3⟩ k4 f4;refine oN ?_;refine ZT 1 (a4 bY b4 hk4 x3) ?_;refine ZP (a3 b4 hk4 x3) xI (sW n 3 _) ?_;refine eT 1 (by simp only[kA,seval,bY,aB,ek3]<;>with_reducible rfl) z7 ?_;refine ZX (a4 y3 b4 hk4 x3) ?_;refine ZF (a5 b1 b2 b3 b4 x1) ?_;refine qK ?_;refine ZT 2 (a3 bY b4 x3) ?_;refine ZP (a2 b4 x3) xI (sW n 3 _) ?_;refine ZA (a2 b4 x3) LO ((h3).at k4 (by first|omega| (simp only[aTi,aS2,aT5]at hl⊢;omega))) ?_;rintro _ H5 ⟨rfl,k5,f5⟩;obtain⟨_,b5,g5⟩:=tW.P hx ⟨k4,b4,g4⟩ k5 f5;refine oN ?_;refine⟨(by first|exact .inl rfl|exact .inl trivial|trivial),_,rfl, ?_⟩;exact⟨rfl,k5.cast z6,g5⟩
set_option maxRecDepth 4000
theorem wZ:∀(k:Nat) (n:Nd),n.size<=k->k<=1000000->PC Tryz.prog 12 [n.enc,n.enc] (.bool true)
 |0,n,h,_=>by cases n;simp[Nd.size]at h
 |k+1,n,h,hk=>by
  have hks:n.size=1+cO n.kids:=by cases n;simp only[Nd.size,Nd.kids]
  have hkl:=qR n.kids;have hmx:maxLen=9223372036854775807:=z7
  refine dN (N:=74) Tryz.func12 rfl rfl z6 (by simp[Nd.bel]) (.bool _) ?_;have x1:=a3 dT bN bF;refine ZE (a2 bY x1) ?_;refine tL (a5 y3 y9 zY bY x1) ?_;refine ZF x1 ?_;refine qK ?_;refine ZL [2,3] x1 ?_;refine ZE (a3 zY bY x1) ?_;refine wQ ?_;refine fN (σ:=Unit) (n.kids.length) (λ(u_:Unit)=> [(2, .optr 0 0),(3, .optr 1 0)]) [2,3] ([]) (λ(u_:Unit)=> [CE n,CE n]) (λ(i:Nat) (u_:Unit)=>True) (()) (_) rfl rfl rfl rfl rfl rfl rfl rfl rfl z7 z7 z7 (λ_=>rfl) (z8) ⟨(Zf x1),(Zf x1),(Zf x1),(Zf x1),trivial⟩ (Zf x1) z6 (λ_ _ _=>by first|exact aTn _| (simp only[aTi];omega)) ?_ ?_ ?_
  ·intro i u_ hg;refine⟨?_,ZR⟩;simp only[aT1];exact ZH
  ·intro i u_ hi hg;have g1:=bS hi;have g2:=eH Nd.enc hi;have hmem:n.kids[i]∈n.kids:=aTk hi;have hsa:=uH hmem;obtain⟨u,hu⟩:∃u,u=n.kids[i]:=⟨_,rfl⟩;rw[<-hu]at g2 hmem hsa;have ih:=wZ k u z8 z8;refine ZE (a3 g1 g2 x1) ?_;refine wQ ?_;refine dA (by kernel_rfl) ?_;refine AZ 10 (a5 zY bY g1 g2 x1) ?_;refine ZpK (a3 g1 g2 x1) XX (λhc=>ih _) ?_;refine FM (a3 g1 g2 x1) ?_;refine ZF (a3 g1 g2 x1) ?_;refine qK ?_;exact⟨ZV,(),_,ZV,by simp only[jN,seval,aB,eX,eY]<;>rfl,trivial⟩
  ·intro u_ hg;refine ZE x1 ?_;refine wQ ?_;refine wT ⟨.inr rfl,_,rfl, ?_⟩;rfl
set_option maxRecDepth 4000
mutual
def eqP:Nd->Nd->Bool
 | .mk k v t _ _ _ us, .mk k' v' t' _ _ _ vs=>decide (k=k')&&decide (v=v')&&decide (t=t')&&aA5 us vs
def aA5:List Nd->List Nd->Bool
 | [],[]=>true
 |u::us,v::vs=>eqP u v&&aA5 us vs
 |_,_=>false
end
theorem aDm{a b:Nd}(h:eqP a b=true):a.kind=b.kind/\a.value=b.value/\a.text=b.text/\aA5 a.kids b.kids=true:=by
 cases a;cases b;simp only[eqP,aSe,decide_eq_true_eq]at h;exact⟨h.1.1.1,h.1.1.2,h.1.2,h.2⟩
theorem NM:∀ {us vs:List Nd},aA5 us vs=true->us.length=vs.length/\∀i (h1:i<us.length) (h2:i<vs.length),eqP us[i] vs[i]=true
 | [],[],h=>⟨rfl,λi h1=>absurd h1 z6⟩
 | [],v::vs,h=>by cases h
 |u::us,[],h=>by cases h
 |u::us,v::vs,h=>by
  simp only[aA5,aSe]at h;obtain⟨i1,i2⟩:=NM h.2;refine⟨by simp[i1],λi h1 h2=> ?_⟩
  match i,h1,h2 with
  |0,_,_=>exact h.1
  |i+1,h1,h2=>exact i2 i (by simpa using h1) (by simpa using h2)
theorem uS:∀a b:List Nd,cO (a++b)=cO a+cO b
 | [],b=>by simp[cO]
 |u::a,b=>by simp only[aSg,cO,uS a b];omega
theorem aGa:∀(k:Nat) (n:Nd),n.size<=k->∀(il:Nat) (d:Int) (l:Nat) (H0:aC),H0[il]? =some (.row [.int .i64 (l:Int)])->n.size<=l->l<=1000->0<=d->d+n.size<=31->
  aN Tryz.prog 88 [n.enc, .int .i64 d, .optr il 0] H0 λr H'=>r= .bool false/\Fr [il] [il] H0 H'/\H'[il]? =some (.row [.int .i64 ((l-n.size:Nat):Int)])
 |0,n,h,_,_,_,_,_,_,_,_,_=>by cases n;simp[Nd.size]at h
 |k+1,n,h,il,d,l,H0,hH,hs,hl,hd,hdd=>by
  have hks:n.size=1+cO n.kids:=by cases n;simp only[Nd.size,Nd.kids]
  have hkl:=qR n.kids;have hmx:maxLen=9223372036854775807:=z7
  have hil:=lG hH;have w1:IntKind.i64.wrap ((l:Int) -1)=((l-1:Nat):Int):=by rw[aY z8 z8];omega
  have wd:IntKind.i64.wrap (d+1)=d+1:=aY z8 z8;have c1:decide (((l-1:Nat):Int)<0)=false:=decide_eq_false z8;have c2:decide (d>30)=false:=decide_eq_false z8;have hqL:=aA hH;have hs1:∀L o,(H0++L).set il o=H0.set il o++L:=λL o=>XT hil;have hs2:∀L o,(H0.set il o++L)[il]? =some o:=λL o=>by rw[aSv (by simpa using hil)];exact aSz hil
  have nI:∀j,(il=H0.length+j)=False:=λj=>by simp;omega
  have nI0:(il=H0.length)=False:=by simp;omega
  have nI1:(il=H0.length+1)=False:=by simp;omega
  have hb0:∀o v,(H0.set il o++ [v])[H0.length]? =some v:=λo v=>by rw[aSw z6];simp
  refine aF (N:=35) Tryz.func88 rfl rfl z6 λhb'=> ?_;refine wQ ?_;refine eE (by simp only[kA,seval,bY,aB,qC,qG,eX,eY,hH,hqL,w1,c1,c2,hs1,hs2,nI,nI0,nI1,hb0,aTi,lS]<;>with_reducible rfl) z7 ?_;refine wQ ?_;refine eE (by simp only[kA,seval,y3,aB,qC,qG,eX,eY,hH,hqL,w1,c1,c2,hs1,hs2,nI,nI0,nI1,hb0,aTi,lS]<;>with_reducible rfl) z7 ?_;refine wQ ?_;refine vG (by simp only[jG,jO,jN,seval,y3,aB,qC,qG,eX,eY,hH,hqL,w1,c1,c2,hs1,hs2,nI,nI0,nI1,hb0,aTi,lS]<;>with_reducible rfl) z7 (by repeat (first|exact fK.base _|with_reducible apply fK.keep|apply fK.drop)) ?_;refine wQ ?_;refine wF rfl (by simp only[jN,seval,aB,qC,qG,eX,eY,hH,hqL,w1,c1,c2,hs1,hs2,nI,nI0,nI1,hb0,aTi,lS]<;>with_reducible rfl) ?_;refine qK ?_;refine wL [1,2,3] (by simp only[jN,seval,aB,qC,qG,eX,eY,hH,hqL,w1,c1,c2,hs1,hs2,nI,nI0,nI1,hb0,aTi,lS]<;>with_reducible rfl) ?_;refine wQ ?_;refine eE (by simp only[kA,seval,zY,bY,aB,qC,qG,eX,eY,hH,hqL,w1,c1,c2,hs1,hs2,nI,nI0,nI1,hb0,aTi,lS]<;>with_reducible rfl) z7 ?_;refine qB ?_;refine eC (σ:=Nat) (λ(j:Nat)=> [(1, .int .i64 d),(2, .optr il 0),(23, .slice (n.kids.map Nd.enc) .none),(24,aB (n.kids.length:Int)),(25,aB (j:Int))]) (λ(j:Nat)=>λH1=>j<=n.kids.length/\H1[il]? =some (.row [.int .i64 ((l-1-cO (n.kids.take j):Nat):Int)])/\Fr [il] [il] H0 H1) (λ(j:Nat)=>n.kids.length-j) (0) ⟨(by first|rfl| (simp only[jN,seval,aB,qC,qG,eX,eY,hH,hqL,w1,c1,c2,hs1,hs2,nI,nI0,nI1,hb0,aTi,lS]<;>first|done|with_reducible rfl)),(by first|rfl| (simp only[jN,seval,aB,qC,qG,eX,eY,hH,hqL,w1,c1,c2,hs1,hs2,nI,nI0,nI1,hb0,aTi,lS]<;>first|done|with_reducible rfl)),(by first|rfl| (simp only[jN,seval,aB,qC,qG,eX,eY,hH,hqL,w1,c1,c2,hs1,hs2,nI,nI0,nI1,hb0,aTi,lS]<;>first|done|with_reducible rfl)),(by first|rfl| (simp only[jN,seval,aB,qC,qG,eX,eY,hH,hqL,w1,c1,c2,hs1,hs2,nI,nI0,nI1,hb0,aTi,lS]<;>first|done|with_reducible rfl)),(by first|rfl| (simp only[jN,seval,aB,qC,qG,eX,eY,hH,hqL,w1,c1,c2,hs1,hs2,nI,nI0,nI1,hb0,aTi,lS]<;>first|done|with_reducible rfl)),trivial⟩ (⟨aTn _,by simpa[cO]using hs2 _ _,⟨z6,λid q1 q2=>by rw[aSv (by simpa using q1),aS0 (λe=>q2 (by simp[e]))],λid q _=>q⟩⟩) ?_;intro j H1 hg;obtain⟨hj,h1,g1⟩:=hg;rcases aSk j n.kids.length with hi|hi
  ·
   have gi:=bS hi;have ge:=eH Nd.enc hi;have gl:decide ((j:Int)<(n.kids.length:Int))=true:=decide_eq_true z8;have gw:IntKind.i64.wrap ((j:Int)+1)=((j+1:Nat):Int):=by rw[aY z8 z8];omega
   have hst:cO (n.kids.take (j+1))=cO (n.kids.take j)+(n.kids[j]).size:=by rw[aT8 hi,uS];simp[cO]
   have hst2:=zB n.kids (j+1);obtain⟨c,hc⟩:∃c,c=n.kids[j]:=⟨_,rfl⟩;rw[<-hc]at ge hst;have hcs:1<=c.size:=by cases c;rw[Nd.size];omega
   have hi1:=lG h1;refine wQ ?_;refine eE (by simp only[kA,seval,y3,aB,qC,qG,eX,eY,hH,hqL,w1,c1,c2,hs1,hs2,nI,nI0,nI1,hb0,aTi,lS,gi,ge,gl,gw,tN]<;>with_reducible rfl) z7 ?_;refine wQ ?_;refine jJ rfl (by simp only[jN,seval,aB,qC,qG,eX,eY,hH,hqL,w1,c1,c2,hs1,hs2,nI,nI0,nI1,hb0,aTi,lS,gi,ge,gl,gw,tN]<;>with_reducible rfl) ?_;refine qK ?_;refine qB ?_;refine wQ ?_;refine eE (by simp only[kA,seval,zY,bY,aB,qC,qG,eX,eY,hH,hqL,w1,c1,c2,hs1,hs2,nI,nI0,nI1,hb0,aTi,lS,gi,ge,gl,gw,tN]<;>with_reducible rfl) z7 ?_;refine wQ ?_;refine bG (λH2=>H2[il]? =some (.row [.int .i64 ((l-1-cO (n.kids.take j):Nat):Int)])/\Fr [il] [il] H0 H2/\H2[H1.length]? =some (CE c)) ⟨aA h1 _,g1.trans (Fr.app0 _ _ _),z6⟩ ?_;rintro H2 ⟨h2,g2,hc2⟩;refine wR ?_;refine eT 4 (by simp only[kA,seval,y3,bY,aB,qC,qG,eX,eY,hH,hqL,w1,c1,c2,hs1,hs2,nI,nI0,nI1,hb0,aTi,lS,gi,ge,gl,gw,tN,hc2,wd]<;>with_reducible rfl) z7 ?_;refine oC (by simp only[kC,seval,aB,qC,qG,eX,eY,hH,hqL,w1,c1,c2,hs1,hs2,nI,nI0,nI1,hb0,aTi,lS,gi,ge,gl,gw,tN,hc2,wd]<;>with_reducible rfl) (by simp only[kC,seval,aB,qC,qG,eX,eY,hH,hqL,w1,c1,c2,hs1,hs2,nI,nI0,nI1,hb0,aTi,lS,gi,ge,gl,gw,tN,hc2,wd]) z7 aHa (aGa k c z8 il (d+1) _ H2 h2 z8 z8 z8 z8) ?_;rintro _ H3 ⟨rfl,f3,l3⟩;refine oN ?_;refine wQ ?_;refine wF rfl (by simp only[jN,seval,aB,qC,qG,eX,eY,hH,hqL,w1,c1,c2,hs1,hs2,nI,nI0,nI1,hb0,aTi,lS,gi,ge,gl,gw,tN]<;>with_reducible rfl) ?_;refine qK ?_;refine wQ ?_;refine eE (by simp only[kA,seval,y3,aB,qC,qG,eX,eY,hH,hqL,w1,c1,c2,hs1,hs2,nI,nI0,nI1,hb0,aTi,lS,gi,ge,gl,gw,tN]<;>with_reducible rfl) z7 ?_
   try simp only[aW,aO]
   exact⟨j+1,by show n.kids.length- (j+1)<n.kids.length-j;omega,ZV,hi,by rw[l3,hst,Nat.sub_sub (l-1)],g2.trans f3⟩
  ·
   have gl:decide ((j:Int)<(n.kids.length:Int))=false:=decide_eq_false z8;refine wQ ?_;refine eE (by simp only[kA,seval,y3,aB,qC,qG,eX,eY,hH,hqL,w1,c1,c2,hs1,hs2,nI,nI0,nI1,hb0,aTi,lS,gl]<;>with_reducible rfl) z7 ?_;refine wQ ?_;refine wF rfl (by simp only[jN,seval,aB,qC,qG,eX,eY,hH,hqL,w1,c1,c2,hs1,hs2,nI,nI0,nI1,hb0,aTi,lS,gl]<;>with_reducible rfl) ?_;refine wQ ?_;refine bD ?_;simp only[aW,aO,reduceIte,Nat.reduceEqDiff,aUb,if_true,if_false];refine wQ ?_;refine eE (by simp only[kA,seval,aB,qC,qG,eX,eY,hH,hqL,w1,c1,c2,hs1,hs2,nI,nI0,nI1,hb0,aTi,lS,gl]<;>with_reducible rfl) z7 ?_;refine wQ ?_;refine wT ⟨.inr rfl,_,rfl, ?_⟩;refine⟨rfl,g1, ?_⟩;rw[h1,aUf hi,Nat.sub_sub,<-hks]
theorem TK:∀(k:Nat) (n m:Nd),n.size<=k->k<=1000000->eqP n m=true->PC Tryz.prog 91 [n.enc,m.enc] (.bool true)
 |0,n,m,h,_,_=>by cases n;simp[Nd.size]at h
 |k+1,n,m,h,hk,hq=>by
  have hks:n.size=1+cO n.kids:=by cases n;simp only[Nd.size,Nd.kids]
  have hkl:=qR n.kids;have hmx:maxLen=9223372036854775807:=z7
  obtain⟨e1,e2,e3,e4⟩:=aDm hq;obtain⟨e5,e6⟩:=NM e4;have q1:decide (n.kind=m.kind)=true:=decide_eq_true e1;have q2:decide (n.value=m.value)=true:=decide_eq_true e2;have q3:decide (n.text=m.text)=true:=decide_eq_true e3;have q5:decide ((n.kids.length:Int)=(m.kids.length:Int))=true:=decide_eq_true z8;refine dN (N:=53) Tryz.func91 rfl rfl z6 (by simp[Nd.bel]) (.bool _) ?_;have x1:=a5 q1 q2 q3 q5 (a2 dT bN);refine ZE (a2 bY x1) ?_;refine tL (a5 y3 y9 zY bY x1) ?_;refine ZF x1 ?_;refine qK ?_;refine ZL [2,3] x1 ?_;refine ZE (a3 zY bY x1) ?_;refine wQ ?_;refine fN (σ:=Unit) (n.kids.length) (λ(s:Unit)=> [(2, .optr 0 0),(3, .optr 1 0)]) [2,3] ([]) (λ(s:Unit)=> [CE n,CE m]) (λ(i:Nat) (s:Unit)=>True) (()) (_) rfl rfl rfl rfl rfl rfl rfl rfl rfl z7 z7 z7 (λ_=>rfl) (z8) ⟨(Zf x1),(Zf x1),(Zf x1),(Zf x1),trivial⟩ (Zf x1) (trivial) (λ_ _ _=>by first|exact aTn _| (simp only[aTi];omega)) ?_ ?_ ?_
  ·intro i u_ hg;refine⟨?_,ZR⟩;simp only[aT1];exact ZH
  ·intro i s hi hg;have hi2:i<m.kids.length:=z8
   have g1:=bS hi;have g2:=eH Nd.enc hi;have g3:=bS hi2;have g4:=eH Nd.enc hi2;have hsa:=uH (aTk hi);have hqi:=e6 i hi hi2;obtain⟨u,hu⟩:∃u,u=n.kids[i]:=⟨_,rfl⟩;obtain⟨v,hv⟩:∃v,v=m.kids[i]:=⟨_,rfl⟩;rw[<-hu]at g2 hsa hqi;rw[<-hv]at g4 hqi;have x2:=a5 g1 g2 g3 g4 x1;refine ZE x2 ?_;refine wQ ?_;refine dA (by kernel_rfl) ?_;refine AZ 10 (a3 zY bY x2) ?_;refine ZpK x2 aGj (λhc=>TK k u v z8 z8 hqi _) ?_;refine FM x2 ?_;refine ZF x2 ?_;refine qK ?_;exact⟨ZV,(),_,ZV,by simp only[jN,seval,aB,eX,eY]<;>rfl,trivial⟩
  ·intro s hg;refine ZE x1 ?_;refine wQ ?_;refine wT ⟨.inr rfl,_,rfl, ?_⟩;rfl
open Go.Proofs Go.RowKit
def jnS(a t:List UInt8):List UInt8:=(if t≠ []/\0<a.length then a++ [32]else a)++t
def SM(ts:List (List UInt8)):List UInt8:=ts.foldl jnS []
theorem aBy{ts:List (List UInt8)}{i:Nat}(h:i<ts.length):SM (ts.take (i+1))=jnS (SM (ts.take i)) ts[i]:=by
 unfold SM;rw[aT8 h,List.foldl_append];rfl
theorem aAc{b:Nat}{l:List UInt8}{w:World}(h:Lib.IsBuilderF 126 5 b b (Lib.byteCells l) w):∃g,PBu b l w g:=by
 rcases h with⟨_,v,h1,h2,h3⟩| ⟨_,v,h1,h2,h3⟩
 ·exact⟨_,_,v, .inl rfl,h1,by rw[Lib.byteCells_length]at h2;exact h2,h3,rfl⟩
 ·exact⟨_,_,v, .inr rfl,h1,by rw[Lib.byteCells_length]at h2;exact h2,h3,rfl⟩
theorem aLp{b:Nat}{l:List UInt8}{w:World}{g:Option Nat}(h:PBu b l w g):Lib.IsBuilderF 126 5 b b (Lib.byteCells l) w:=by
 obtain⟨p,v,hp,h1,h2,h3,_⟩:=h;rcases hp with rfl|rfl
 ·exact .inl ⟨aSl _,v,h1,by rw[Lib.byteCells_length];exact h2,h3⟩
 ·exact .inr ⟨aSl _,v,h1,by rw[Lib.byteCells_length];exact h2,h3⟩
theorem aHh{b:Nat}{l:List UInt8}{w:World}{g:Option Nat}(h:PBu b l w g):∀x,g=some x->b<=x:=by
 obtain⟨p,v,_,_,h2,_,h5⟩:=h;intro x hx;rcases h2.2 with⟨rfl,_⟩| ⟨z,cap,cur,fz,rfl,hz,_⟩
 ·rw[hx]at h5;cases h5
 ·rw[hx]at h5;injection h5 with h5;have:z=x:=h5;omega
theorem XY{b:Nat}{l:List UInt8}{w w':World}{g:Option Nat}(h:PBu b l w g)(t:Tn b g w w'):Below b w w':=by
 obtain⟨p,v,_,h1,_⟩:=id h;have hb:=(Array.getElem?_eq_some_iff.1 h1).1;exact⟨t.os,t.tape,t.output,t.size,λk hk=>t.block k z8 z8 (λe=>by have:=aHh h k e.symm;omega)⟩
theorem wbB{b:Nat}{l:List UInt8}{c:UInt8}{w:World}(h:Lib.IsBuilderF 126 5 b b (Lib.byteCells l) w)(hlen:l.length+1<=140737488355328):
  Calls Tryz.prog 150 #[.pointer (some ⟨b,0,none⟩), .int .u8 c.toNat] w λe w'=>e= .returned .nilIface/\Lib.IsBuilderF 126 5 b b (Lib.byteCells (l++ [c])) w'/\Below b w w':=by
 obtain⟨g,hp⟩:=aAc h;exact(Tryz.wb b l c w g hp hlen).mono λe w' ⟨h1,g',h2,h3,_⟩=>⟨h1,aLp h2,XY hp h3⟩
set_option maxHeartbeats 1000000 in
set_option maxRecDepth 100000 in
theorem aRa{b:Nat}{l:List UInt8}{w:World}(h:Lib.IsBuilderF 126 5 b b (Lib.byteCells l) w):
  Calls Tryz.prog 149 #[.pointer (some ⟨b,0,none⟩)] w λe w'=>e= .returned (.int .i64 (l.length:Int))/\w'=w:=by
 obtain⟨g,p,v,hp,h1,h2,h3,h5⟩:=aAc h;have c1:w.cell? ⟨b,1,none⟩=some v:=by rw[Lib.cell_of_heap h1];rfl
 have mixed:Tryz.prog.follows .mixedOrders=true:=by kernel_rfl
 obtain⟨ao,cap,rfl⟩:∃ao cap,v= .slice ao l.length cap:=by
  rcases h2.2 with⟨rfl,h0⟩| ⟨z,cap,cur,fz,rfl,_⟩
  ·exact⟨none,0,by rw[h0]⟩
  ·exact⟨_,_,rfl⟩
 clear h h1 h2 h3 h5
 go_enter Tryz.func149,Tryz.ntmps149
 go_wp2
 first|go_ret|go_ret2|go_end0
 exact⟨rfl,rfl⟩
theorem aCv{V:cS}{sl:Value}{ts:List (List UInt8)}(h:aL V sl (.slice (ts.map PV.str) .none)):∃ao cap,sl= .slice ao ts.length cap/\ts.length<=maxLen/\∀i (hi:i<ts.length),∃(a:Addr) (z:ByteArray),ao=some a/\V.cell (a.add i)=some (.string z)/\z.data.toList=ts[i]:=by
 generalize he:ts.map PV.str=es at h;cases h with
 |nils _ _=>
  obtain rfl:ts= []:=by simpa using he
  exact⟨none,0,rfl,aTn _,λi hi=>by simp at hi⟩
 |slice a len cap sz _ _ vs hl hcap hmax hsz hc hr ht=>
  subst he;rw[aSr]at hl;subst hl;refine⟨some a,cap,rfl,z8,λi hi=> ?_⟩;have hi':i<(ts.map PV.str).length:=by simpa using hi
  have hz:=hsz i hi';simp only[aSh,PV.cells,aS2,aT5]at hz;subst hz;have h0:=hc i 0 hi z8;have h1:=hr i 0 hi' (by simp[PV.cells]);simp only[aSh,PV.cells,aSj]at h1;generalize vs i 0=q at h0 h1;generalize hs:ts[i]=s at h1⊢;cases h1 with
  |str z=>exact⟨a,z,rfl,by simpa using h0,rfl⟩
end Go.Abs
namespace Go.Abs
open Go.Proofs Go.RowKit
set_option maxHeartbeats 4000000 in
set_option maxRecDepth 100000 in
theorem aMx(V:cS)(ts:List (List UInt8))(v:Value)(w:World)(hv:aL V v (.slice (ts.map PV.str) .none))(hw:∀a x,V.cell a=some x->w.cell? a=some x)(hlen:∀i,i<=ts.length->(SM (ts.take i)).length<=1000000)(hts:∀t∈ts,t.length<=1000000):
  Calls Tryz.prog 90 #[v] w λe w'=>e= .returned (.string ⟨(SM ts).toArray⟩)/\Below w.heap.size w w':=by
 obtain⟨ao,cap,rfl,hmx,hk⟩:=aCv hv;clear hv;have h0:Lib.IsBuilderF 126 5 w.heap.size w.heap.size (Lib.byteCells []) (w.alloc (.cells #[.pointer none, .slice none 0 0] 126)):=by
  have:=Lib.IsBuilderF.of (Lib.fresh_isBuilder 126 5 w);rw[show Lib.byteCells []= []from rfl];simpa using this
 have b0:Below w.heap.size w (w.alloc (.cells #[.pointer none, .slice none 0 0] 126)):=(Below.refl _ w).alloc (aSl _) _;have HK:=Lib.hid hk;have HW:=Lib.hid hw;have HL:=Lib.hid hlen;have HT:=Lib.hid hts;clear hk hw hlen hts
 go_enter Tryz.func90,Tryz.ntmps90
 go_wp2
 go_loopw [8] (λtv wr=>∃i:Nat,tv= .int .i64 (i:Int)/\i<=ts.length/\Lib.IsBuilderF 126 5 w.heap.size w.heap.size (Lib.byteCells (SM (ts.take i))) wr/\Below w.heap.size w wr) (λtv _=>ts.length-GW tv)
 case atStart=>exact⟨0,rfl,aTn _,h0,b0⟩
 case round=>
  obtain⟨i,rfl,hi,hI,hbw⟩:=hrel;have hsize:=hbw.size
  by_cases hl:i<ts.length
  ·have hli:(i:Int)<(ts.length:Int):=z8
   obtain⟨a,z,rfl,c0,hz⟩:=HK.out i hl;have c0:wr.cell? (a.add i)=some (.string z):=by
    have h':=HW.out _ _ c0;rw[hbw.cell (World.block_lt_of_cell? _ _ h')];exact h'
   have hw64:wrap64 ((i:Int)+1)=(i:Int)+1:=by
    have e2:maxLen=9223372036854775807:=z7
    unfold wrap64;omega
   have hst:SM (ts.take (i+1))=jnS (SM (ts.take i)) ts[i]:=aBy hl;have hzl:z.toList=ts[i]:=by rw[ByteArray.toList_eq];exact hz
   have hL0:=HL.out i hi;have ht0:=HT.out ts[i] (aTk hl);have hzs:z.size=ts[i].length:=by rw[<-hz];rfl
   have hzc:∀l:List UInt8,Lib.byteCells l++Lib.strCells z=Lib.byteCells (l++ts[i]):=λl=>by rw[Lib.byteCells_append,<-hz,<-Lib.strCells_eq]
   generalize hA:SM (ts.take i)=A at hI hst hL0;have fin:∀(W:World) (l:List UInt8),Lib.IsBuilderF 126 5 w.heap.size w.heap.size (Lib.byteCells l) W->Below w.heap.size w W->l.length<=1000001->w.heap.size<=W.heap.size->
     Calls Tryz.prog 62 #[.pointer (some ⟨w.heap.size,0,none⟩), .string z] W λe w'=>e= .returned (.tuple #[.int .i64 z.size, .nilIface])/\Lib.IsBuilderF 126 5 w.heap.size w.heap.size (Lib.byteCells (l++ts[i])) w'/\Below w.heap.size w w':=λW l h1 h2 h3 h4=>
    (Tryz.wr w.heap.size w.heap.size _ z W h1 (by rw[Lib.byteCells_length];omega) h4).mono λe w' ⟨q1,q2,q3⟩=>⟨q1, .inr (by rw[<-hzc];exact q2),h2.trans q3⟩
   have HF:=Lib.hid fin;have HS:=Lib.hid hst;clear fin hst hzc
   by_cases he:ts[i]= []
   ·have hs:jnS A ts[i]=A++ts[i]:=by unfold jnS;rw[if_neg (by rw[he];simp)]
    go_wp2_with (go_at_call 62;refine(HF.out _ A hI hbw z8 hsize).mono ?_)
    rintro e W2 ⟨rfl,h2,b2⟩
    go_wp2
    go_roundw
    case rel=>exact⟨i+1,by simp[hw64],Nat.succ_le_of_lt hl,by rw[HS.out,hs];exact h2,b2⟩
    case measure=>simp only[hw64,GW,aSo,aTa,aS3,aTo,aSu];exact aDd hl
   ·go_wp2_with (go_at_call 149;refine(aRa hI).mono ?_)
    rintro e W1 ⟨rfl,rfl⟩;have he':ts[i].isEmpty=false:=by cases h:ts[i]with|nil=>exact absurd h he|cons=>rfl
    by_cases hp:0<A.length
    ·have hs:jnS A ts[i]=A++ [32]++ts[i]:=by unfold jnS;rw[if_pos ⟨he,z8⟩]
     have hwb:=wbB (c:=32) hI z8
     go_wp2_with (go_at_call 150;refine(show Calls Tryz.prog 150 #[.pointer (some ⟨w.heap.size,0,none⟩), .int .u8 32] _ _ from hwb).mono ?_)
     rintro e W2 ⟨rfl,h2,b2⟩;have bw2:=hbw.trans b2
     go_wp2_with (go_at_call 62;refine(HF.out _ (A++ [32]) h2 bw2 (by simp;omega) (aSm hsize b2.size)).mono ?_)
     rintro e W3 ⟨rfl,h3,b3⟩
     go_wp2
     go_roundw
     case rel=>exact⟨i+1,by simp[hw64],Nat.succ_le_of_lt hl,by rw[HS.out,hs];exact h3,b3⟩
     case measure=>simp only[hw64,GW,aSo,aTa,aS3,aTo,aSu];exact aDd hl
    ·have hs:jnS A ts[i]=A++ts[i]:=by unfold jnS;rw[if_neg z8]
     go_wp2_with (go_at_call 62;refine(HF.out _ A hI hbw z8 hsize).mono ?_)
     rintro e W2 ⟨rfl,h2,b2⟩
     go_wp2
     go_roundw
     case rel=>exact⟨i+1,by simp[hw64],Nat.succ_le_of_lt hl,by rw[HS.out,hs];exact h2,b2⟩
     case measure=>simp only[hw64,GW,aSo,aTa,aS3,aTo,aSu];exact aDd hl
  ·have hli:¬((i:Int)<(ts.length:Int)):=z8
   obtain rfl:i=ts.length:=z8
   rw[aUd]at hI;clear h0 b0 HK HW
   go_wp2_with (go_at_call 63;refine(Tryz.Builder_String_any_f w.heap.size w.heap.size (SM ts) _ hI z8).mono ?_)
   rintro e W1 rfl hI1 b1;have hb:=hbw.trans b1;clear hI1 hI b1 hbw
   go_wp2
   first|go_ret|go_ret2|go_end0
   exact⟨rfl,hb⟩
end Go.Abs
namespace Go.Abs
open Go.Proofs
theorem XU{s:List UInt8}{e3 e4:Value}{H0:aC}(h:s.length<=2000)(hG:EL G0 H0)(hE:tV e3 e4 H0):aN Tryz.prog 27 [.str s] H0 λr H'=>r= .tup [(FL s).enc, .slice ((AI (FZ s).2.2).map Dg.enc) .none,aB 0]/\Fr [] [] H0 H':=by
 obtain⟨h1,h2,h3,h4⟩:=sJ _ s (aSl _);obtain⟨ch,e1,e2,e3',e4',e5⟩:=SR h;obtain⟨g1,g2,g3⟩:=aJ9 h;rw[e2]at g1;have hmx:maxLen=9223372036854775807:=z7
 refine(QK s kP nP z8 z8 (by simp only[iB];omega) hG hE e1 (off':=(FZ s).1) (nd:=(FZ s).2.1) (ds:=(FZ s).2.2) g1 g3 (by simp only[iB];omega)).mono λr H' ⟨ds',p1,p2,p3,p4⟩=>⟨?_,p4⟩;rw[p3,aJ2 p1 p2 g3];rfl
theorem aJu(ts:List (List UInt8))(hlen:∀i,i<=ts.length->(SM (ts.take i)).length<=1000000)(hts:∀t∈ts,t.length<=1000000){H:aC}:aN Tryz.prog 90 [.slice (ts.map PV.str) .none] H λr H'=>r= .str (SM ts)/\H'=H:=by
 refine oT λE vargs ho hH hrl=> ?_;obtain⟨hsz,hr⟩:=hrl;have h0:=hr 0 z6;simp only[aSj]at h0;obtain⟨v0,rfl⟩:∃v0,vargs= #[v0]:=by
  have:vargs.size=1:=by simpa using hsz
  exact⟨vargs[0],by apply Array.ext<;>simp[this];intro i hi;subst hi;rfl⟩
 simp only[aSo,aTa,aTo,aSu]at h0;exact⟨_,aL.str ⟨(SM ts).toArray⟩,aMx E.view ts v0 E.w h0 (λ_ _=>LT) hlen hts⟩
def sX:List UInt8:= [102,110,32,102,40,41,123,49,42,40,50,43,51,41,125]
def sY:List UInt8:= [102,110,32,102,32,40,32,41,32,123,32,49,32,42,32,40,32,50,32,43,32,51,32,41,32,125]
def bX:Nd:=.mk 39 0 [43] 9 14 (-1) [.mk 27 2 [] 10 11 (-1) [], .mk 27 3 [] 12 13 (-1) []]
def aX:Nd:=.mk 39 0 [42] 7 14 (-1) [.mk 27 1 [] 7 8 (-1) [],bX]
def kX:Nd:=.mk 21 0 [] 6 15 (-1) [aX]
def fX:Nd:=.mk 3 0 [102] 0 15 3 [.mk 10 0 [] 4 4 (-1) [], .mk 12 0 [] 5 6 (-1) [], .mk 0 0 [] 6 6 (-1) [],kX]
def nX:Nd:=.mk 1 0 [] 0 15 (-1) [fX]
def nY:Nd:=.mk 1 0 [] 0 26 (-1) [.mk 3 0 [102] 0 26 3 [.mk 10 0 [] 4 4 (-1) [], .mk 12 0 [] 7 8 (-1) [], .mk 0 0 [] 8 8 (-1) [], .mk 21 0 [] 9 26 (-1) [.mk 39 0 [42] 11 24 (-1) [.mk 27 1 [] 11 12 (-1) [], .mk 39 0 [43] 15 24 (-1) [.mk 27 2 [] 17 18 (-1) [], .mk 27 3 [] 21 22 (-1) []]]]]]
theorem aQi:FL sX=nX:=by kernel_rfl
theorem aQk:FL sY=nY:=by kernel_rfl
theorem aP9:(FZ sX).2.2= []:=by kernel_rfl
theorem aOo:(FZ sY).2.2= []:=by kernel_rfl
theorem aPo:eqP nY nX=true:=by kernel_rfl
def tX:List (List UInt8):= [[],[102,110],[102],[40],[41],[123],[49],[42],[40],[50],[43],[51],[41],[125]]
theorem aRf:SM tX=sY:=by kernel_rfl
theorem aBp(v s e:Int)(hv:v=1\/v=2\/v=3):rQ 216 [(Nd.mk 27 v [] s e (-1) []).enc] [SO v]:=aFs _ rfl (aE1 _ rfl (aD6 _ rfl hv))
theorem aPc:rQ 89 [nX.enc] tX:=by
 have hb:rQ 89 [bX.enc] ([SO 2]++ [43]:: [SO 3]):=TM bX rfl (TE bX rfl (aBp 2 10 11 z7) (aBp 3 12 13 z7));have ho:rQ 216 [bX.enc] ([40]::([SO 2]++ [43]:: [SO 3])++ [[41]]):=aFl bX rfl (JF [bX] [] _ z7 (λn hn=>by rw[aT2.1 hn];exact hb) (λh=>by cases h));have ha:rQ 89 [aX.enc] ([SO 1]++ [42]::([40]::([SO 2]++ [43]:: [SO 3])++ [[41]])):=TM aX rfl (TE aX rfl (aBp 1 7 8 z7) ho);have hk:=aD8 kX rfl (aCy kX rfl (JF [aX] [] _ z7 (λn hn=>by rw[aT2.1 hn];exact ha) (λh=>by cases h)));have ht:rQ 89 [(kD fX 0).enc] []:=aIp (kD fX 0) rfl (aI5 (kD fX 0) rfl rfl);have hp:rQ 209 [.str [40], .slice ((kD fX 1).kids.map Nd.enc) .none, .str [44], .str [41]] ([40]:: []++ [[41]]):=PD [40] [41] [44] [] [] (JF [] [44] [] z7 (λn hn=>by cases hn) (λ_=>rfl));have hf:=aIf fX rfl (aJt fX rfl rfl ht hp rfl z7 hk);exact YO nX rfl (JF [fX] [] tX z7 (λn hn=>by rw[aT2.1 hn];exact hf) (λh=>by cases h))
set_option maxRecDepth 4000
theorem Fr.thr{F:List Nat}{H0 H H':aC}(a:Fr [] [] H0 H)(b:Fr F F H H')(h:∀x∈F,H0.length<=x):Fr [] [] H0 H':=
 ⟨aSm a.len b.len,λid h1 h2=>(b.same id (aSn h1 a.len) (λq=>by have:=h id q;omega)).trans (a.same id h1 h2),λid q=>by cases q⟩
theorem EL.thr{G H0 H:aC}(h:EL G H0)(a:Fr [] [] H0 H):EL G H:=λi o q=>(a.same i (lG (h i o q)) z6).trans (h i o q)
theorem aQ3{H0:aC}{e3 e4:Value}(hG:EL G0 H0)(hE:tV e3 e4 H0):aN Tryz.prog 27 [.str sX] H0 λr H'=>r= .tup [nX.enc, .slice [] .none,aB 0]/\Fr [] [] H0 H':=by
 have h:=XU (s:=sX) z7 hG hE;rw[aQi,aP9]at h;exact h
theorem aQ2{H0:aC}{e3 e4:Value}(hG:EL G0 H0)(hE:tV e3 e4 H0):aN Tryz.prog 27 [.str sY] H0 λr H'=>r= .tup [nY.enc, .slice [] .none,aB 0]/\Fr [] [] H0 H':=by
 have h:=XU (s:=sY) z7 hG hE;rw[aQk,aOo]at h;exact h
theorem aP1{H:aC}:aN Tryz.prog 90 [.slice (tX.map PV.str) .none] H λr H'=>r= .str sY/\H'=H:=by
 have h:=aJu tX z7 z7 (H:=H);rw[aRf]at h;exact h
theorem aFk{H0:aC}{e3 e4:Value}(hG:EL G0 H0)(hE:tV e3 e4 H0):aN Tryz.prog 51 [nX.enc] H0 λr H'=>r= .tup [.str sY,aB 0]/\Fr [] [] H0 H':=by
 have hg0:=hG 0 _ rfl;have hl0:=lG hg0;refine aF (N:=43) Tryz.func51 rfl rfl z6 λhb'=> ?_;refine ZE bY ?_;refine ZE y3 ?_;refine wQ ?_;obtain⟨bx,hbx⟩:∃bx,bx=H0.length:=⟨_,rfl⟩;refine bG (λH1=>H1[bx]? =some (CE nX)/\H1[bx+1]? =some (.row [.int .i64 ((800:Nat):Int)])/\Fr [] [] H0 H1/\H1.length=bx+2) ⟨by rw[hbx];simp,by rw[hbx];simp,Fr.app0 _ _ _,by rw[hbx];simp⟩ ?_;rintro H1 ⟨b1,l1,g1,n1⟩
 try rw[<-hbx]
 refine wR ?_;refine ZU 1 (a2 bY b1) ?_;refine ZA b1 aHa (aGa 100 nX z7 (bx+1) 1 800 H1 l1 z7 z7 z7 z7) ?_;rintro _ H2 ⟨rfl,f2,l2⟩;have b2:H2[bx]? =some (CE nX):=by rw[f2.same _ z8 z6];exact b1
 have g2:=g1.thr f2 (λx h=>by rw[aT2.1 h];omega);have n2:=f2.len;refine oN ?_;refine ZF0 ?_;refine qK ?_;refine ZE aI7 ?_;refine wQ ?_;obtain⟨ib,hib⟩:∃ib,ib=H2.length:=⟨_,rfl⟩;refine GK H2.length 0 1 (es:= []) (by simp;rfl) rfl ?_;refine bG (λH3=>RF ib (ib+1) [] H3/\H3[bx]? =some (CE nX)/\Fr [] [] H0 H3/\ib+1<H3.length) ⟨⟨by rw[hib];simp,by rw[hib];simp,z8, ?_,z8,z8⟩, ?_, ?_,by rw[hib];simp⟩ ?_
 ·rw[aSv z6,aS0 z8,aSv z8,g2.same 0 hl0 z6];exact hg0
 ·rw[aSv (by simp;omega),aS0 z8,aSv z8];exact b2
 ·refine g2.trans ⟨z6,λid q1 q2=> ?_,λid q=>by cases q⟩;rw[aSv (by simp;omega),aS0 z8,aSv q1]
 rintro H3 ⟨k3,b3,g3,n3⟩
 try rw[<-hib]
 refine wR ?_;refine ZU 2 (a2 bY b3) ?_;refine ZA b3 LO (aPc ib (ib+1) [] H3 k3 z7) ?_;rintro _ H4 ⟨rfl,k4,f4⟩;have b4:H4[bx]? =some (CE nX):=by rw[f4.same _ (lG b3) (by simp;omega)];exact b3
 have g4:=g3.thr f4 (λx h=>by simp only[aTv,aT7,or_false]at h;omega);have r4:H4[ib]? =some (.row [.slice (tX.map PV.str) (.tok (ib+1))]):=k4.1;have hG4:=hG.thr g4;have hE4:=hE.fr g4 z6 z6;refine oN ?_;refine ZT 4 (a4 y9 fQ aI7 r4) ?_;refine ZA r4 aOw (aP1) ?_;rintro _ _ ⟨rfl,rfl⟩;refine ZX r4 ?_;refine ZL0 [1,6] ?_;refine ZT0 1 ?_;refine ZA0 SB (aQ2 hG4 hE4) ?_;rintro _ H5 ⟨rfl,f5⟩;have b5:H5[bx]? =some (CE nX):=by rw[f5.same _ (lG b4) z6];exact b4
 have g5:=g4.trans f5;refine ZX bY ?_;refine qB ?_;refine wQ ?_;obtain⟨cx,hcx⟩:∃cx,cx=H5.length:=⟨_,rfl⟩;refine bG (λH6=>H6[bx]? =some (CE nX)/\H6[cx]? =some (CE nY)/\Fr [] [] H0 H6) ⟨aA b5 _,by rw[hcx];simp,g5.trans (Fr.app0 _ _ _)⟩ ?_;rintro H6 ⟨b6,y6,g6⟩
 try rw[<-hcx]
 refine eE (Za (a3 y26 b6 y6)) z7 ?_;refine ZF0 ?_;refine wQ ?_;refine wR ?_;refine bO ?_;refine OH 6 (a5 y3 bY rS nT (a2 b6 y6)) ?_;refine RN (a2 b6 y6) aGj (λhc=>TK 100 nY nX z7 z7 aPo _) ?_;refine ZgX (a2 b6 y6) ?_;refine ZF0 ?_;refine qK ?_;refine ZL0 [6] ?_;refine uA ?_;refine wQ ?_;refine wT ⟨.inr rfl,_,(cW (.tmp 2) (.tmp 3) rfl (aR z7) (aR z7)), ?_⟩;exact⟨rfl,g6⟩
theorem aF1{H0:aC}{e3 e4:Value}(hG:EL G0 H0)(hE:tV e3 e4 H0):aN Tryz.prog 25 [] H0 λr H'=>r= .bool true/\Fr [] [] H0 H':=by
 refine aF (N:=31) Tryz.func25 rfl rfl z6 λhb'=> ?_;refine uA ?_;refine wQ ?_;refine wR ?_;refine oC (by simp only[kC,seval,aB,qC,qG,eX,eY,sX]<;>with_reducible rfl) (by simp only[kC,seval,aB,qC,qG,eX,eY,sX]) z7 SB (aQ3 hG hE) ?_;rintro _ H1 ⟨rfl,f1⟩;refine ZX bY ?_;refine wQ ?_;refine bG (λH2=>H2[H1.length]? =some (CE nX)/\Fr [] [] H0 H2) ⟨z6,f1.trans (Fr.app0 _ _ _)⟩ ?_;rintro H2 ⟨b2,g2⟩;refine wR ?_;refine ZU 1 (a2 bY b2) ?_;refine ZA b2 aPr (aFk (hG.thr g2) (hE.fr g2 z6 z6)) ?_;rintro _ H3 ⟨rfl,f3⟩;refine ZX b2 ?_;refine ZL0 [2,3,4,5] ?_;refine wQ ?_;refine vG (by simp only[jG,jO,jN,seval,y3,y9,y26,rS,nT,aB,qC,qG,eX,eY,sY]<;>with_reducible rfl) z7 (by repeat (first|exact fK.base _|with_reducible apply fK.keep|apply fK.drop)) ?_;refine wQ ?_;refine wT ⟨.inr rfl,_,rfl, ?_⟩;exact⟨rfl,g2.trans f3⟩
set_option maxRecDepth 4000
def ftV(s:List UInt8)(k:Int)(n:Nat):Tk:=⟨k,s.take n⟩
def ftT(s:List UInt8):Tk:=⟨(bZ s).2,s.take (bZ s).1⟩
def wE(s p:List UInt8):Bool:=decide (s.take p.length=p)
theorem CX{s p:List UInt8}(h:wE s p=true):p.length<=s.length:=by
 have h:=of_decide_eq_true h;have:=congrArg List.length h;rw[aS9]at this;omega
def PP(s:List UInt8):Nat×Int:=match uY.find? (wE s)with|some p=>(p.length,107)|none=>(1,108)
theorem PN:uY=KP++PX.map λx=> [x]:=by kernel_rfl
theorem aDj(c:UInt8)(r:List UInt8):PP (c::r)=if(c::r).length>1/\KP.contains ((c::r).take 2)=true then(2,107)else if PX.contains c then(1,107)else(1,108):=by
 have h2:∀p∈KP,p.length=2:=z7
 unfold PP;rw[PN,List.find?_append];cases h:KP.find? (wE (c::r))with
 |some p=>
  have hp:=h2 p (List.mem_of_find?_eq_some h);have hq:=List.find?_some h;have hl:=CX hq;have ht:=of_decide_eq_true hq;rw[hp]at ht hl;rw[if_pos ⟨z8,by rw[ht];exact aTz.2 (List.mem_of_find?_eq_some h)⟩];simp[hp]
 |none=>
  have hn:=List.find?_eq_none.1 h;rw[if_neg]
  ·simp only[Option.none_or,List.find?_map];have hf:(wE (c::r)∘λx=> [x])=λx=>decide (c=x):=by
    funext x;simp[wE]
   rw[hf];cases h1:PX.find? (λx=>decide (c=x))with
   |none=>
    have hm:=List.find?_eq_none.1 h1;rw[if_neg]
    ·rfl
    ·intro hc;exact hm c (aTz.1 hc) z6
   |some x=>
    have hx:=List.find?_some h1;have:c=x:=by simpa using hx
    subst this;rw[if_pos (aTz.2 (List.mem_of_find?_eq_some h1))];rfl
  ·rintro⟨hl,hc⟩;have hm:=aTz.1 hc;refine hn _ hm ?_;unfold wE;rw[h2 _ hm];simp
theorem TF{α:Type}{p:α->Bool}{xs:List α}{i:Nat}(hi:i<xs.length)(h:p xs[i]=true)(h':(xs.take i).any p=false):xs.find? p=some xs[i]:=by
 rw[List.find?_eq_some_iff_getElem];refine⟨h,i,hi,rfl,λj hj=> ?_⟩;rw[List.any_eq_false]at h';have:=h' xs[j] (by rw[List.mem_take_iff_getElem];exact⟨j,z8,rfl⟩);simpa using this
theorem GZ{α:Type}{p:α->Bool}{xs:List α}(h:xs.any p=false):xs.find? p=none:=by
 rw[List.find?_eq_none];intro x hx;rw[List.any_eq_false]at h;exact h x hx
theorem aJl(c:UInt8)(r:List UInt8):bZ (c::r)=if 0<dI oI (c::r)then(dI oI (c::r),101)else if(c::r).take 2= [47,47]then(dI gH (c::r),102)
  else if 0<dI iU (c::r)then(dI iU (c::r),105)else if 0<dI iG (c::r)then(if kwL.contains ((c::r).take (dI iG (c::r)))then(dI iG (c::r),104)else(dI iG (c::r),103))
  else if c=34 then(if 0<ED (c::r)then(ED (c::r),106)else(dI gH (c::r),108))else PP (c::r):=by
 have hdl:iU c=true->uV c=false:=by
  intro h;have h:=h;simp only[iU,aSe,decide_eq_true_eq,UInt8.le_iff_toNat_le]at h;simp only[uV,Bool.or_eq_false_iff,Bool.and_eq_false_iff,decide_eq_false_iff_not,UInt8.le_iff_toNat_le];have e1:(48:UInt8).toNat=48:=rfl;have e2:(57:UInt8).toNat=57:=rfl;have e3:(97:UInt8).toNat=97:=rfl;have e4:(65:UInt8).toNat=65:=rfl;refine⟨⟨.inl z8, .inl z8⟩, ?_⟩;rw[beq_eq_false_iff_ne];rintro rfl;have e5:(95:UInt8).toNat=95:=rfl;omega
 simp only[DM];rw[aDj];unfold bZ;simp only
 by_cases a1:oI c=true
 ·rw[if_pos a1,if_pos a1]
 ·rw[if_neg a1,if_neg a1]
  by_cases a2:(c::r).take 2= [47,47]
  ·rw[if_pos a2,if_pos a2]
  ·rw[if_neg a2,if_neg a2]
   by_cases a3:iU c=true
   ·rw[if_pos a3,hdl a3,if_neg z6,if_pos a3]
   ·rw[if_neg a3,if_neg a3];have hw:iG c=uV c:=by unfold iG;simp only[Bool.not_eq_true]at a3;rw[a3];simp
    rw[hw]
    by_cases a4:uV c=true
    ·rw[if_pos a4,if_pos a4]
    ·rw[if_neg a4,if_neg a4]
     by_cases a5:c=34
     ·rw[if_pos a5,if_pos a5];unfold ED;simp only[List.drop_succ_cons,aUh];cases lA false r with
      |none=>simp
      |some k=>simp
     ·rw[if_neg a5,if_neg a5]
theorem oJ(s:List UInt8)(hs:s.length<=maxLen)(kd:Int)(n:Nat)(hn:n<=s.length)(H:aC)(a:Nat)(ha:H[a]? =some (.row [.str s])):aN Tryz.prog 113 [aB kd,aB (n:Int), .optr a 0] H λr' H'=>r'=(ftV s kd n).enc/\H'=H:=by
 have em:maxLen=9223372036854775807:=z7
 have q1:∀L,(H++L)[a]? =some (.row [.str s]):=λL=>by rw[aSv (lG ha)];exact ha
 have h3:((0:Int)<=n/\(n:Int)<=s.length)=True:=by simp;omega
 have h4:(n<=s.length)=True:=by simp;omega
 have h5:((n:Int)<=(s.length:Int))=True:=by simp;omega
 have h6:((0:Int)<=(n:Int))=True:=z6
 refine gK (N:=11) Tryz.func113 rfl rfl z6 (Tk.bel _ _) λhb'=> ?_;refine qE (a3 lT q1 ha) ?_;refine wQ ?_;refine eE (by simp only[kA,seval,y9,lT,aB,qC,q1,ha,jS,h3,h4,h5,h6,tN,aUh]<;>with_reducible rfl) z7 ?_;refine wQ ?_;refine wT ⟨.inr rfl,_,_,(cD 5 77 rfl lI z7 (by simp only[jL,jN,seval,aB,qC,q1,ha]<;>with_reducible rfl)), ?_,ZW⟩;simp only[jL,jN,seval,aB,qC]
 try rfl
set_option maxRecDepth 4000
theorem aQ0(c:UInt8)(r:List UInt8)(hs:(c::r).length<=maxLen):PC Tryz.prog 61 [.str (c::r)] (ftT (c::r)).enc:=by
 have em:maxLen=9223372036854775807:=z7
 have hft:=aJl c r;obtain⟨n0,en0⟩:∃n,dI oI (c::r)=n:=⟨_,rfl⟩;have rn0:=RW (c::r) hs 0;have ln0:=tK oI (c::r);rw[show iL 0=oI from funext λc=>by unfold iL;simp]at rn0;rw[en0]at hft ln0 rn0;obtain⟨n1,en1⟩:∃n,dI gH (c::r)=n:=⟨_,rfl⟩;have rn1:=RW (c::r) hs 1;have ln1:=tK gH (c::r);rw[show iL 1=gH from funext λc=>by unfold iL;simp]at rn1;rw[en1]at hft ln1 rn1;obtain⟨n3,en3⟩:∃n,dI iU (c::r)=n:=⟨_,rfl⟩;have rn3:=RW (c::r) hs 3;have ln3:=tK iU (c::r);rw[show iL 3=iU from funext λc=>by unfold iL;simp]at rn3;rw[en3]at hft ln3 rn3;obtain⟨n2,en2⟩:∃n,dI iG (c::r)=n:=⟨_,rfl⟩;have rn2:=RW (c::r) hs 2;have ln2:=tK iG (c::r);rw[show iL 2=iG from funext λc=>by unfold iL;simp]at rn2;rw[en2]at hft ln2 rn2;obtain⟨s,hse⟩:∃s,c::r=s:=⟨_,rfl⟩;have g2:s[0]? =some c:=by rw[<-hse];rfl
 have g1:(0<(s.length:Int))=True:=by rw[<-hse];simp
 have h1:1<=s.length:=by rw[<-hse];simp
 have hb:=lP (s:=s) (by rw[<-hse];simp);rw[hse]at hs hft rn0 rn1 rn2 rn3 ln0 ln1 ln2 ln3⊢;obtain⟨n4,en4⟩:∃n,ED s=n:=⟨_,rfl⟩;have rn4:=UO s hs h1;rw[en4]at rn4 hft;have e34:decide ((c.toNat:Int)=34)=(c==34):=kV c 34 z7;have h2:s.length>1\/¬s.length>1:=z8
 unfold ftT;refine dN (N:=92) Tryz.func61 rfl rfl z6 (by simp[aZ.int,aZ.str]) (Tk.bel _ _) ?_;refine qE (a2 y9 lT) ?_;refine nV ?_;refine qT 1 y9 ?_;refine KW vK (rn0 _) ?_;refine OI ?_;refine qE y3 ?_;refine GR (λbt14=> ?_) (λbt14=> ?_)
 ·
  have hp:0<n0:=by have:=of_decide_eq_true bt14;omega
  have hv:bZ s=(n0,101):=by rw[hft,if_pos hp]
  refine KT 2 ?_;refine KW kL (oJ s hs _ n0 ln0 _ 0 rfl) ?_;refine qX lT ?_;refine wQ ?_;refine wT ⟨.inr rfl,_,(cD 2 77 rfl lI z7 (by simp only[jL,jN,seval,aB,qC]<;>with_reducible rfl)), ?_⟩;rw[hv];simp only[jN,seval,aB,qC]
  try rfl
 ·
  have hp:¬0<n0:=by have:=of_decide_eq_false bt14;omega
  rw[if_neg hp]at hft;refine qK ?_;rcases h2 with h2|h2
  ·
   have l2:(1<(s.length:Int))=True:=by simp;omega
   have l3:(2<=(s.length:Int))=True:=by simp;omega
   refine wQ ?_;refine vG (by simp only[jG,jO,jN,seval,y3,y9,jS,aB,qC,l2,l3,decide_true,aUh]<;>with_reducible rfl) z7 (by repeat (first|exact fK.base _|with_reducible apply fK.keep|apply fK.drop)) ?_;refine ZI (a4 l2 l3 dT dZ) (λbt25=> ?_) (λbt25=> ?_)
   ·
    have hv:bZ s=(n1,102):=by rw[hft,if_pos (of_decide_eq_true bt25)]
    refine ZL [1,2,3] (a4 l2 l3 dT dZ) ?_;refine ZT 2 (a5 y9 l2 l3 dT dZ) ?_;refine ZP (a4 l2 l3 dT dZ) vK (rn1 _) ?_;refine ZP (a4 l2 l3 dT dZ) kL (oJ s hs _ n1 ln1 _ 0 rfl) ?_;refine ZX (a5 lT l2 l3 dT dZ) ?_;refine wQ ?_;refine wT ⟨.inr rfl,_,(cD 2 77 rfl lI z7 (by simp only[jL,jN,seval,aB,qC,l2,l3,decide_true,aUh]<;>with_reducible rfl)), ?_⟩;rw[hv];simp only[jN,seval,aB,qC]
    try rfl
   ·
    rw[if_neg (of_decide_eq_false bt25)]at hft;refine qK ?_;refine ZL [1,2,3] (a4 l2 l3 dT dZ) ?_;refine ZT 1 (a5 y9 l2 l3 dT dZ) ?_;refine ZP (a4 l2 l3 dT dZ) vK (rn3 _) ?_;refine ZX (a4 l2 l3 dT dZ) ?_;refine ZE (a5 y3 l2 l3 dT dZ) ?_;refine ZI (a4 l2 l3 dT dZ) (λbt33=> ?_) (λbt33=> ?_)
    ·
     have hp3:0<n3:=by have:=of_decide_eq_true bt33;omega
     have hv:bZ s=(n3,105):=by rw[hft,if_pos hp3]
     refine ZT 2 (a4 l2 l3 dT dZ) ?_;refine ZP (a4 l2 l3 dT dZ) kL (oJ s hs _ n3 ln3 _ 0 rfl) ?_;refine ZX (a5 lT l2 l3 dT dZ) ?_;refine wQ ?_;refine wT ⟨.inr rfl,_,(cD 2 77 rfl lI z7 (by simp only[jL,jN,seval,aB,qC,l2,l3,decide_true,aUh]<;>with_reducible rfl)), ?_⟩;rw[hv];simp only[jN,seval,aB,qC]
     try rfl
    ·
     have hp3:¬0<n3:=by have:=of_decide_eq_false bt33;omega
     rw[if_neg hp3]at hft;refine qK ?_;refine ZT 1 (a5 y9 l2 l3 dT dZ) ?_;refine ZP (a4 l2 l3 dT dZ) vK (rn2 _) ?_;refine ZX (a4 l2 l3 dT dZ) ?_;refine ZE (a5 y3 l2 l3 dT dZ) ?_;refine ZI (a4 l2 l3 dT dZ) (λbt40=> ?_) (λbt40=> ?_)
     ·
      have hp2:0<n2:=by have:=of_decide_eq_true bt40;omega
      rw[if_pos hp2]at hft;have h3:((0:Int)<=n2/\(n2:Int)<=s.length)=True:=by simp;omega
      have h4:(n2<=s.length)=True:=by simp;omega
      have h5:((n2:Int)<=(s.length:Int))=True:=by simp;omega
      have h6:((0:Int)<=(n2:Int))=True:=z6
      refine wQ ?_;refine dA (by kernel_rfl) ?_;refine vX (by simp only[kE,seval,aB,qC,l2,l3,decide_true,aUh,jS,h3,h4,h5,h6,tN,aUh]<;>with_reducible rfl) (by simp only[kE,seval,aB,qC,l2,l3,decide_true,aUh,jS,h3,h4,h5,h6,tN,aUh]<;>with_reducible rfl) (by simp only[kE,seval,aB,qC,l2,l3,decide_true,aUh,jS,h3,h4,h5,h6,tN,aUh]) z7 aCi (λhc=>aG8 _) ?_;refine vQ 3 (by simp only[jP,jO,jN,seval,y9,jS,aB,qC,l2,l3,decide_true,aUh,jS,h3,h4,h5,h6,tN,aUh]<;>with_reducible rfl) z7 ?_;refine vX (by simp only[kE,seval,aB,qC,l2,l3,decide_true,aUh,jS,h3,h4,h5,h6,tN,aUh]<;>with_reducible rfl) (by simp only[kE,seval,aB,qC,l2,l3,decide_true,aUh,jS,h3,h4,h5,h6,tN,aUh]<;>with_reducible rfl) (by simp only[kE,seval,aB,qC,l2,l3,decide_true,aUh,jS,h3,h4,h5,h6,tN,aUh]) z7 XW (λhc=>aGo kwL (s.take n2) z7 _) ?_;refine xN (by simp only[jP,jO,jN,seval,aB,qC,l2,l3,decide_true,aUh,jS,h3,h4,h5,h6,tN,aUh]<;>with_reducible rfl) z7 (by repeat (first|exact fK.base _|with_reducible apply fK.keep|apply fK.drop)) ?_;refine ZI (a4 l2 l3 dT dZ) (λbt45=> ?_) (λbt45=> ?_)
      ·
       have hv:bZ s=(n2,104):=by rw[hft,if_pos bt45]
       refine ZL [2,3,6] (a4 l2 l3 dT dZ) ?_;refine ZT 2 (a4 l2 l3 dT dZ) ?_;refine ZP (a4 l2 l3 dT dZ) kL (oJ s hs _ n2 ln2 _ 0 rfl) ?_;refine ZX (a5 lT l2 l3 dT dZ) ?_;refine wQ ?_;refine wT ⟨.inr rfl,_,(cD 2 77 rfl lI z7 (by simp only[jL,jN,seval,aB,qC,l2,l3,decide_true,aUh]<;>with_reducible rfl)), ?_⟩;rw[hv];simp only[jN,seval,aB,qC]
       try rfl
      ·
       have hv:bZ s=(n2,103):=by rw[hft,if_neg (by rw[bt45];simp)]
       refine qK ?_;refine ZL [2,3,6] (a4 l2 l3 dT dZ) ?_;refine ZT 2 (a4 l2 l3 dT dZ) ?_;refine ZP (a4 l2 l3 dT dZ) kL (oJ s hs _ n2 ln2 _ 0 rfl) ?_;refine ZX (a5 lT l2 l3 dT dZ) ?_;refine wQ ?_;refine wT ⟨.inr rfl,_,(cD 2 77 rfl lI z7 (by simp only[jL,jN,seval,aB,qC,l2,l3,decide_true,aUh]<;>with_reducible rfl)), ?_⟩;rw[hv];simp only[jN,seval,aB,qC]
       try rfl
     ·
      have hp2:¬0<n2:=by have:=of_decide_eq_false bt40;omega
      rw[if_neg hp2]at hft;refine qK ?_;refine ZE (a5 y5 y9 l2 l3 (a5 dT dZ g1 g2 e34)) ?_;refine ZI (a4 l2 l3 dT dZ) (λbt54=> ?_) (λbt54=> ?_)
      ·
       have h34:c=34:=by simpa using bt54
       rw[if_pos h34]at hft;refine ZT 1 (a5 y9 l2 l3 dT dZ) ?_;refine ZP (a4 l2 l3 dT dZ) XG (rn4 _) ?_;refine ZX (a4 l2 l3 dT dZ) ?_;refine ZL [1,2,3,7] (a4 l2 l3 dT dZ) ?_;refine ZE (a5 y3 l2 l3 dT dZ) ?_;refine ZI (a4 l2 l3 dT dZ) (λbt58=> ?_) (λbt58=> ?_)
       ·
        have hp4:0<n4:=by have:=of_decide_eq_true bt58;omega
        have hv:bZ s=(n4,106):=by rw[hft,if_pos hp4]
        have ln4:n4<=s.length:=by rw[hv]at hb;exact hb.2
        refine ZT 2 (a4 l2 l3 dT dZ) ?_;refine ZP (a4 l2 l3 dT dZ) kL (oJ s hs _ n4 ln4 _ 0 rfl) ?_;refine ZX (a5 lT l2 l3 dT dZ) ?_;refine wQ ?_;refine wT ⟨.inr rfl,_,(cD 2 77 rfl lI z7 (by simp only[jL,jN,seval,aB,qC,l2,l3,decide_true,aUh]<;>with_reducible rfl)), ?_⟩;rw[hv];simp only[jN,seval,aB,qC]
        try rfl
       ·
        have hp4:¬0<n4:=by have:=of_decide_eq_false bt58;omega
        have hv:bZ s=(n1,108):=by rw[hft,if_neg hp4]
        refine qK ?_;refine ZT 2 (a5 y9 l2 l3 dT dZ) ?_;refine ZP (a4 l2 l3 dT dZ) vK (rn1 _) ?_;refine ZP (a4 l2 l3 dT dZ) kL (oJ s hs _ n1 ln1 _ 0 rfl) ?_;refine ZX (a5 lT l2 l3 dT dZ) ?_;refine wQ ?_;refine wT ⟨.inr rfl,_,(cD 2 77 rfl lI z7 (by simp only[jL,jN,seval,aB,qC,l2,l3,decide_true,aUh]<;>with_reducible rfl)), ?_⟩;rw[hv];simp only[jN,seval,aB,qC]
        try rfl
      ·
       have h34:¬c=34:=by simpa using bt54
       rw[if_neg h34]at hft;refine qK ?_;refine wQ ?_;refine wR ?_;refine ZP (a4 l2 l3 dT dZ) YI (aBs _) ?_;refine ZX (a5 y9 fQ l2 l3 (a2 dT dZ)) ?_;refine wQ ?_;refine fN (σ:=Unit) (uY.length) (λ(u_:Unit)=> [(1, .optr 0 0),(2, .optr 1 0),(3, .fn (.func 113) [] [.optr 0 0]),(66, .slice (uY.map PV.str) .none)]) [1,2,3,66] ([]) (λ(u_:Unit)=> [.row [.str s], .row [.int .i64 0, .str []]]) (λ(i:Nat) (u_:Unit)=>(uY.take i).any (wE s)=false) (()) (_) rfl rfl rfl rfl rfl rfl rfl rfl rfl z7 z7 z7 (λ_=>rfl) (z7) ⟨(Zf (a4 l2 l3 dT dZ)),(Zf (a4 l2 l3 dT dZ)),(Zf (a4 l2 l3 dT dZ)),(Zf (a4 l2 l3 dT dZ)),(Zf (a4 l2 l3 dT dZ)),(Zf (a4 l2 l3 dT dZ)),trivial⟩ (Zf (a4 l2 l3 dT dZ)) z6 (λ_ _ _=>by first|exact aTn _| (simp only[aTi];omega)) ?_ ?_ ?_
       ·exact λi u hg=>⟨by simp only[aT1];repeat (first|exact dF _|exact trivial|exact iX _| (refine jF.cons ?_ ?_)| (refine gY (by first|exact aZ.fn _ _ _ z6 (by intro c hc;rw[aT2.1 hc];exact aZ.optr _ _ z6)|exact cQ _ _|exact Tk.bel _ _|exact cR _|exact cT _|exact aZ.int _ _|exact aZ.bool _|exact aZ.str _|exact aZ.nilp|exact aZ.nilfn|exact aZ.optr _ _ z6|exact cR _|exact cT _|exact iC _ _|assumption) ?_)),by repeat (first|exact kI.nil|refine kI.cons (by first|exact aZ.fn _ _ _ z6 (by intro c hc;rw[aT2.1 hc];exact aZ.optr _ _ z6)|exact cQ _ _|exact Tk.bel _ _|exact cR _|exact cT _|exact aZ.int _ _|exact aZ.bool _|exact aZ.str _|exact aZ.nilp|exact aZ.nilfn|exact aZ.optr _ _ z6|exact cR _|exact cT _|exact iC _ _|assumption) ?_)⟩
       ·intro i u_ hi hg;have g1:=bS hi;have g3:=eH PV.str hi;obtain⟨p,hp⟩:∃p,uY[i]=p:=⟨_,rfl⟩;rw[hp]at g3;have hcs:p.length<=s.length\/¬p.length<=s.length:=z8
        refine ZE (a5 y9 fQ l2 l3 (a4 dT dZ g1 g3)) ?_;rcases hcs with hc|hc
        ·
         have l2:((p.length:Int)<=s.length)=True:=by simp;omega
         have l4:(p.length<=s.length)=True:=by simp;omega
         have l5:((0:Int)<=(p.length:Int))=True:=z6
         refine wQ ?_;refine vG (by simp only[jG,jO,jN,seval,y3,y9,jS,aB,qC,l2,l3,decide_true,aUh,g1,tN,g3,jS,l2,l4,l5,decide_true,aUh]<;>with_reducible rfl) z7 (by repeat (first|exact fK.base _|with_reducible apply fK.keep|apply fK.drop)) ?_;refine wQ ?_;refine wC rfl (by simp only[jN,seval,aB,qC,l2,l3,decide_true,aUh,g1,tN,g3,jS,l2,l4,l5,decide_true,aUh]<;>with_reducible rfl) (λbt84=> ?_) (λbt84=> ?_)
         ·
          have hq:wE s uY[i]=true:=by rw[hp];exact bt84
          have hv:bZ s=(p.length,107):=by rw[hft];unfold PP;rw[TF hi hq hg,hp]
          refine wL [1,2,3,9,66,67,68] (by simp only[jN,seval,aB,qC,l2,l3,decide_true,aUh,g1,tN,g3,jS,l2,l4,l5,decide_true,aUh]<;>with_reducible rfl) ?_;refine wQ ?_;refine wR ?_;refine eT 3 (by simp only[kA,seval,y9,aB,qC,l2,l3,decide_true,aUh,g1,tN,g3,jS,l2,l4,l5,decide_true,aUh]<;>with_reducible rfl) z7 ?_;refine oP (by simp only[kC,seval,aB,qC,l2,l3,decide_true,aUh,g1,tN,g3,jS,l2,l4,l5,decide_true,aUh]<;>with_reducible rfl) (by simp only[kC,seval,aB,qC,l2,l3,decide_true,aUh,g1,tN,g3,jS,l2,l4,l5,decide_true,aUh]) z7 kL (oJ s hs _ p.length hc _ 0 rfl) ?_;refine nO (by simp only[kA,seval,lT,aB,qC,l2,l3,decide_true,aUh,g1,tN,g3,jS,l2,l4,l5,decide_true,aUh]<;>with_reducible rfl) z7 ?_;refine wQ ?_;refine wT ⟨.inr rfl,_,(cD 2 77 rfl lI z7 (by simp only[jL,jN,seval,aB,qC,l2,l3,decide_true,aUh,g1,tN,g3,jS,l2,l4,l5,decide_true,aUh]<;>with_reducible rfl)), ?_⟩;rw[hv];simp only[jN,seval,aB,qC]
          try rfl
         ·
          have hq:wE s uY[i]=false:=by rw[hp];exact bt84
          refine qK ?_;exact⟨⟨rfl,rfl,trivial⟩,(),[],⟨rfl,rfl,rfl,rfl,trivial⟩,rfl,eS hi hg hq⟩
        ·
         have l2:((p.length:Int)<=s.length)=False:=by simp;omega
         have hq:wE s uY[i]=false:=by rw[hp];cases h:wE s p with
          |false=>rfl
          |true=>exact absurd (CX h) hc
         refine wQ ?_;refine wR ?_;refine bO ?_;refine OH 9 (a5 y3 y9 l2 l3 (a5 dT dZ g1 g3 decide_false)) ?_;refine ZgS (a5 l2 l3 dT dZ (a3 g1 g3 decide_false)) ?_;refine OH 1 (a5 l2 l3 dT dZ (a3 g1 g3 decide_false)) ?_;refine ZgS (a5 l2 l3 dT dZ (a3 g1 g3 decide_false)) ?_;refine ZgX (a5 l2 l3 dT dZ (a3 g1 g3 decide_false)) ?_;refine ZF (a5 l2 l3 dT dZ (a3 g1 g3 decide_false)) ?_;refine qK ?_;exact⟨⟨rfl,rfl,trivial⟩,(),[],⟨rfl,rfl,rfl,rfl,trivial⟩,rfl,eS hi hg hq⟩
       ·intro u_ hg;rw[aUd]at hg;have hv:bZ s=(1,108):=by rw[hft];unfold PP;rw[GZ hg]
        refine ZT 1 (a4 l2 l3 dT dZ) ?_;refine ZP (a4 l2 l3 dT dZ) kL (oJ s hs _ 1 h1 _ 0 rfl) ?_;refine ZX (a5 lT l2 l3 dT dZ) ?_;refine wQ ?_;refine wT ⟨.inr rfl,_,(cD 2 77 rfl lI z7 (by simp only[jL,jN,seval,aB,qC,l2,l3,decide_true,aUh]<;>with_reducible rfl)), ?_⟩;rw[hv];simp only[jN,seval,aB,qC]
        try rfl
  ·
   have l2:(1<(s.length:Int))=False:=by simp;omega
   rw[if_neg (λq=>h2 (by have:=congrArg List.length q;rw[aS9]at this;simp only[aS2,aT5]at this;omega))]at hft;refine wQ ?_;refine wR ?_;refine bO ?_;refine gT 4 (a4 y3 y9 l2 decide_false) ?_;refine gS (a2 l2 decide_false) ?_;refine gS (a2 l2 decide_false) ?_;refine gS (a2 l2 decide_false) ?_;refine gX (a2 l2 decide_false) ?_;refine qF (a2 l2 decide_false) ?_;refine qK ?_;refine qL [1,2,3] (a2 l2 decide_false) ?_;refine qT 1 (a3 y9 l2 decide_false) ?_;refine qP (a2 l2 decide_false) vK (rn3 _) ?_;refine qX (a2 l2 decide_false) ?_;refine qE (a3 y3 l2 decide_false) ?_;refine qI (a2 l2 decide_false) (λbt33=> ?_) (λbt33=> ?_)
   ·
    have hp3:0<n3:=by have:=of_decide_eq_true bt33;omega
    have hv:bZ s=(n3,105):=by rw[hft,if_pos hp3]
    refine qT 2 (a2 l2 decide_false) ?_;refine qP (a2 l2 decide_false) kL (oJ s hs _ n3 ln3 _ 0 rfl) ?_;refine qX (a3 lT l2 decide_false) ?_;refine wQ ?_;refine wT ⟨.inr rfl,_,(cD 2 77 rfl lI z7 (by simp only[jL,jN,seval,aB,qC,l2,decide_false]<;>with_reducible rfl)), ?_⟩;rw[hv];simp only[jN,seval,aB,qC]
    try rfl
   ·
    have hp3:¬0<n3:=by have:=of_decide_eq_false bt33;omega
    rw[if_neg hp3]at hft;refine qK ?_;refine qT 1 (a3 y9 l2 decide_false) ?_;refine qP (a2 l2 decide_false) vK (rn2 _) ?_;refine qX (a2 l2 decide_false) ?_;refine qE (a3 y3 l2 decide_false) ?_;refine qI (a2 l2 decide_false) (λbt40=> ?_) (λbt40=> ?_)
    ·
     have hp2:0<n2:=by have:=of_decide_eq_true bt40;omega
     rw[if_pos hp2]at hft;have h3:((0:Int)<=n2/\(n2:Int)<=s.length)=True:=by simp;omega
     have h4:(n2<=s.length)=True:=by simp;omega
     have h5:((n2:Int)<=(s.length:Int))=True:=by simp;omega
     have h6:((0:Int)<=(n2:Int))=True:=z6
     refine wQ ?_;refine dA (by kernel_rfl) ?_;refine vX (by simp only[kE,seval,aB,qC,l2,decide_false,jS,h3,h4,h5,h6,tN,aUh]<;>with_reducible rfl) (by simp only[kE,seval,aB,qC,l2,decide_false,jS,h3,h4,h5,h6,tN,aUh]<;>with_reducible rfl) (by simp only[kE,seval,aB,qC,l2,decide_false,jS,h3,h4,h5,h6,tN,aUh]) z7 aCi (λhc=>aG8 _) ?_;refine vQ 3 (by simp only[jP,jO,jN,seval,y9,jS,aB,qC,l2,decide_false,jS,h3,h4,h5,h6,tN,aUh]<;>with_reducible rfl) z7 ?_;refine vX (by simp only[kE,seval,aB,qC,l2,decide_false,jS,h3,h4,h5,h6,tN,aUh]<;>with_reducible rfl) (by simp only[kE,seval,aB,qC,l2,decide_false,jS,h3,h4,h5,h6,tN,aUh]<;>with_reducible rfl) (by simp only[kE,seval,aB,qC,l2,decide_false,jS,h3,h4,h5,h6,tN,aUh]) z7 XW (λhc=>aGo kwL (s.take n2) z7 _) ?_;refine xN (by simp only[jP,jO,jN,seval,aB,qC,l2,decide_false,jS,h3,h4,h5,h6,tN,aUh]<;>with_reducible rfl) z7 (by repeat (first|exact fK.base _|with_reducible apply fK.keep|apply fK.drop)) ?_;refine qI (a2 l2 decide_false) (λbt45=> ?_) (λbt45=> ?_)
     ·
      have hv:bZ s=(n2,104):=by rw[hft,if_pos bt45]
      refine qL [2,3,6] (a2 l2 decide_false) ?_;refine qT 2 (a2 l2 decide_false) ?_;refine qP (a2 l2 decide_false) kL (oJ s hs _ n2 ln2 _ 0 rfl) ?_;refine qX (a3 lT l2 decide_false) ?_;refine wQ ?_;refine wT ⟨.inr rfl,_,(cD 2 77 rfl lI z7 (by simp only[jL,jN,seval,aB,qC,l2,decide_false]<;>with_reducible rfl)), ?_⟩;rw[hv];simp only[jN,seval,aB,qC]
      try rfl
     ·
      have hv:bZ s=(n2,103):=by rw[hft,if_neg (by rw[bt45];simp)]
      refine qK ?_;refine qL [2,3,6] (a2 l2 decide_false) ?_;refine qT 2 (a2 l2 decide_false) ?_;refine qP (a2 l2 decide_false) kL (oJ s hs _ n2 ln2 _ 0 rfl) ?_;refine qX (a3 lT l2 decide_false) ?_;refine wQ ?_;refine wT ⟨.inr rfl,_,(cD 2 77 rfl lI z7 (by simp only[jL,jN,seval,aB,qC,l2,decide_false]<;>with_reducible rfl)), ?_⟩;rw[hv];simp only[jN,seval,aB,qC]
      try rfl
    ·
     have hp2:¬0<n2:=by have:=of_decide_eq_false bt40;omega
     rw[if_neg hp2]at hft;refine qK ?_;refine qE (a5 y5 y9 l2 decide_false (a3 g1 g2 e34)) ?_;refine qI (a2 l2 decide_false) (λbt54=> ?_) (λbt54=> ?_)
     ·
      have h34:c=34:=by simpa using bt54
      rw[if_pos h34]at hft;refine qT 1 (a3 y9 l2 decide_false) ?_;refine qP (a2 l2 decide_false) XG (rn4 _) ?_;refine qX (a2 l2 decide_false) ?_;refine qL [1,2,3,7] (a2 l2 decide_false) ?_;refine qE (a3 y3 l2 decide_false) ?_;refine qI (a2 l2 decide_false) (λbt58=> ?_) (λbt58=> ?_)
      ·
       have hp4:0<n4:=by have:=of_decide_eq_true bt58;omega
       have hv:bZ s=(n4,106):=by rw[hft,if_pos hp4]
       have ln4:n4<=s.length:=by rw[hv]at hb;exact hb.2
       refine qT 2 (a2 l2 decide_false) ?_;refine qP (a2 l2 decide_false) kL (oJ s hs _ n4 ln4 _ 0 rfl) ?_;refine qX (a3 lT l2 decide_false) ?_;refine wQ ?_;refine wT ⟨.inr rfl,_,(cD 2 77 rfl lI z7 (by simp only[jL,jN,seval,aB,qC,l2,decide_false]<;>with_reducible rfl)), ?_⟩;rw[hv];simp only[jN,seval,aB,qC]
       try rfl
      ·
       have hp4:¬0<n4:=by have:=of_decide_eq_false bt58;omega
       have hv:bZ s=(n1,108):=by rw[hft,if_neg hp4]
       refine qK ?_;refine qT 2 (a3 y9 l2 decide_false) ?_;refine qP (a2 l2 decide_false) vK (rn1 _) ?_;refine qP (a2 l2 decide_false) kL (oJ s hs _ n1 ln1 _ 0 rfl) ?_;refine qX (a3 lT l2 decide_false) ?_;refine wQ ?_;refine wT ⟨.inr rfl,_,(cD 2 77 rfl lI z7 (by simp only[jL,jN,seval,aB,qC,l2,decide_false]<;>with_reducible rfl)), ?_⟩;rw[hv];simp only[jN,seval,aB,qC]
       try rfl
     ·
      have h34:¬c=34:=by simpa using bt54
      rw[if_neg h34]at hft;refine qK ?_;refine wQ ?_;refine wR ?_;refine qP (a2 l2 decide_false) YI (aBs _) ?_;refine qX (a4 y9 fQ l2 decide_false) ?_;refine wQ ?_;refine fN (σ:=Unit) (uY.length) (λ(u_:Unit)=> [(1, .optr 0 0),(2, .optr 1 0),(3, .fn (.func 113) [] [.optr 0 0]),(66, .slice (uY.map PV.str) .none)]) [1,2,3,66] ([]) (λ(u_:Unit)=> [.row [.str s], .row [.int .i64 0, .str []]]) (λ(i:Nat) (u_:Unit)=>(uY.take i).any (wE s)=false) (()) (_) rfl rfl rfl rfl rfl rfl rfl rfl rfl z7 z7 z7 (λ_=>rfl) (z7) ⟨(Zf (a2 l2 decide_false)),(Zf (a2 l2 decide_false)),(Zf (a2 l2 decide_false)),(Zf (a2 l2 decide_false)),(Zf (a2 l2 decide_false)),(Zf (a2 l2 decide_false)),trivial⟩ (Zf (a2 l2 decide_false)) z6 (λ_ _ _=>by first|exact aTn _| (simp only[aTi];omega)) ?_ ?_ ?_
      ·exact λi u hg=>⟨by simp only[aT1];repeat (first|exact dF _|exact trivial|exact iX _| (refine jF.cons ?_ ?_)| (refine gY (by first|exact aZ.fn _ _ _ z6 (by intro c hc;rw[aT2.1 hc];exact aZ.optr _ _ z6)|exact cQ _ _|exact Tk.bel _ _|exact cR _|exact cT _|exact aZ.int _ _|exact aZ.bool _|exact aZ.str _|exact aZ.nilp|exact aZ.nilfn|exact aZ.optr _ _ z6|exact cR _|exact cT _|exact iC _ _|assumption) ?_)),by repeat (first|exact kI.nil|refine kI.cons (by first|exact aZ.fn _ _ _ z6 (by intro c hc;rw[aT2.1 hc];exact aZ.optr _ _ z6)|exact cQ _ _|exact Tk.bel _ _|exact cR _|exact cT _|exact aZ.int _ _|exact aZ.bool _|exact aZ.str _|exact aZ.nilp|exact aZ.nilfn|exact aZ.optr _ _ z6|exact cR _|exact cT _|exact iC _ _|assumption) ?_)⟩
      ·intro i u_ hi hg;have g1:=bS hi;have g3:=eH PV.str hi;obtain⟨p,hp⟩:∃p,uY[i]=p:=⟨_,rfl⟩;rw[hp]at g3;have hcs:p.length<=s.length\/¬p.length<=s.length:=z8
       refine qE (a5 y9 fQ l2 decide_false (a3 g1 tN g3)) ?_;rcases hcs with hc|hc
       ·
        have l2:((p.length:Int)<=s.length)=True:=by simp;omega
        have l4:(p.length<=s.length)=True:=by simp;omega
        have l5:((0:Int)<=(p.length:Int))=True:=z6
        refine wQ ?_;refine vG (by simp only[jG,jO,jN,seval,y3,y9,jS,aB,qC,l2,decide_false,g1,tN,g3,jS,l2,l4,l5,decide_true,aUh]<;>with_reducible rfl) z7 (by repeat (first|exact fK.base _|with_reducible apply fK.keep|apply fK.drop)) ?_;refine wQ ?_;refine wC rfl (by simp only[jN,seval,aB,qC,l2,decide_false,g1,tN,g3,jS,l2,l4,l5,decide_true,aUh]<;>with_reducible rfl) (λbt84=> ?_) (λbt84=> ?_)
        ·
         have hq:wE s uY[i]=true:=by rw[hp];exact bt84
         have hv:bZ s=(p.length,107):=by rw[hft];unfold PP;rw[TF hi hq hg,hp]
         refine wL [1,2,3,9,66,67,68] (by simp only[jN,seval,aB,qC,l2,decide_false,g1,tN,g3,jS,l2,l4,l5,decide_true,aUh]<;>with_reducible rfl) ?_;refine wQ ?_;refine wR ?_;refine eT 3 (by simp only[kA,seval,y9,aB,qC,l2,decide_false,g1,tN,g3,jS,l2,l4,l5,decide_true,aUh]<;>with_reducible rfl) z7 ?_;refine oP (by simp only[kC,seval,aB,qC,l2,decide_false,g1,tN,g3,jS,l2,l4,l5,decide_true,aUh]<;>with_reducible rfl) (by simp only[kC,seval,aB,qC,l2,decide_false,g1,tN,g3,jS,l2,l4,l5,decide_true,aUh]) z7 kL (oJ s hs _ p.length hc _ 0 rfl) ?_;refine nO (by simp only[kA,seval,lT,aB,qC,l2,decide_false,g1,tN,g3,jS,l2,l4,l5,decide_true,aUh]<;>with_reducible rfl) z7 ?_;refine wQ ?_;refine wT ⟨.inr rfl,_,(cD 2 77 rfl lI z7 (by simp only[jL,jN,seval,aB,qC,l2,decide_false,g1,tN,g3,jS,l2,l4,l5,decide_true,aUh]<;>with_reducible rfl)), ?_⟩;rw[hv];simp only[jN,seval,aB,qC]
         try rfl
        ·
         have hq:wE s uY[i]=false:=by rw[hp];exact bt84
         refine qK ?_;exact⟨⟨rfl,rfl,trivial⟩,(),[],⟨rfl,rfl,rfl,rfl,trivial⟩,rfl,eS hi hg hq⟩
       ·
        have l2:((p.length:Int)<=s.length)=False:=by simp;omega
        have hq:wE s uY[i]=false:=by rw[hp];cases h:wE s p with
         |false=>rfl
         |true=>exact absurd (CX h) hc
        refine wQ ?_;refine wR ?_;refine bO ?_;refine gT 9 (a5 y3 y9 l2 decide_false (a3 g1 tN g3)) ?_;refine gS (a5 l2 decide_false g1 tN g3) ?_;refine gT 1 (a5 l2 decide_false g1 tN g3) ?_;refine gS (a5 l2 decide_false g1 tN g3) ?_;refine gX (a5 l2 decide_false g1 tN g3) ?_;refine qF (a5 l2 decide_false g1 tN g3) ?_;refine qK ?_;exact⟨⟨rfl,rfl,trivial⟩,(),[],⟨rfl,rfl,rfl,rfl,trivial⟩,rfl,eS hi hg hq⟩
      ·intro u_ hg;rw[aUd]at hg;have hv:bZ s=(1,108):=by rw[hft];unfold PP;rw[GZ hg]
       refine qT 1 (a2 l2 decide_false) ?_;refine qP (a2 l2 decide_false) kL (oJ s hs _ 1 h1 _ 0 rfl) ?_;refine qX (a3 lT l2 decide_false) ?_;refine wQ ?_;refine wT ⟨.inr rfl,_,(cD 2 77 rfl lI z7 (by simp only[jL,jN,seval,aB,qC,l2,decide_false]<;>with_reducible rfl)), ?_⟩;rw[hv];simp only[jN,seval,aB,qC]
       try rfl
set_option maxRecDepth 4000
theorem aQy{s:List UInt8}(hs:s.length<=maxLen)(h:s≠ []):PC Tryz.prog 61 [.str s] (ftT s).enc:=by
 cases s with
 |nil=>exact absurd rfl h
 |cons c r=>exact aQ0 c r hs
theorem aNh(s:List UInt8)(hs:s.length<=1048576):PC Tryz.prog 32 [.str s] (.slice ((toks s).map Tk.enc) .none):=by
 have em:maxLen=9223372036854775807:=z7
 refine dN (N:=20) Tryz.func32 rfl rfl z6 (by simp[aZ.int,aZ.str]) (jR _ _) ?_;refine nV ?_;refine nV ?_;refine wQ ?_;refine sO 3 2 (es:= []) (KU tN) ?_;refine fB ?_;refine iD (σ:=List Tk×List UInt8) (λ(q:List Tk×List UInt8)=> [(0, .str q.2),(3, .slice (q.1.map Tk.enc) (.tok 0))]) ([]) (λ(q:List Tk×List UInt8)=> [.buf q.1.length 2]) (λ(q:List Tk×List UInt8)=>q.2.length) (λ(q:List Tk×List UInt8)=>q.1.length+q.2.length<=s.length/\toks s=q.1++toks q.2) (([],s)) ([]) ⟨(Zf tN),(Zf tN),trivial⟩ (Zf tN) (⟨z6,z6⟩) (λ_ _=>by first|exact aTn _| (simp only[aTi];omega)) ?_ ?_
 ·exact λq hg=>⟨by simp only[aT1];exact jF.cons trivial (dF _),by repeat (first|exact kI.nil|refine kI.cons (by first|exact iV _ (by simp only[aTi,aS2,aT5];omega)|exact Tk.bel _ _|exact cR _|exact cT _|exact aZ.int _ _|exact aZ.bool _|exact aZ.str _|exact aZ.nilp|exact aZ.nilfn|exact aZ.optr _ _ z6|exact cR _|exact cT _|exact iC _ _|assumption) ?_)⟩
 ·intro q hg;obtain⟨ts,r⟩:=q;obtain⟨hq1,hq2⟩:=hg;simp only at hq1 hq2;refine qE (a2 y3 y9) ?_;refine GR (λbt7=> ?_) (λbt7=> ?_)
  ·
   have hne:r≠ []:=by rintro rfl;simp at bt7
   have hb:=lP hne;have hst:=vZ hne;have hf:=aQy (s:=r) z8 hne;unfold ftT at hf;obtain⟨n,hn⟩:∃n,(bZ r).1=n:=⟨_,rfl⟩;obtain⟨kd,hkd⟩:∃kd,(bZ r).2=kd:=⟨_,rfl⟩;rw[hn]at hb hf hst;rw[hkd]at hf hst;obtain⟨tx,htx⟩:∃tx,r.take n=tx:=⟨_,rfl⟩;rw[htx]at hf hst;have hln:(tx.length:Int)=n:=by rw[<-htx,aS9];omega
   have h3:((n:Int)<=r.length)=True:=by simp;omega
   have h4:(n<=r.length)=True:=by simp;omega
   have h5:((0:Int)<=(n:Int))=True:=z6
   have hap:=YR (us:=ts) (u:=⟨kd,tx⟩) (id:=0) (tl:=.full) z8;refine qK ?_;refine qB ?_;refine KT 1 ?_;refine KW aQj (hf _) ?_;refine qX lT ?_;refine qE (a4 JZ lT jS hap) ?_;refine wQ ?_;refine eE (by simp only[kA,seval,y9,lT,aB,qC,jS,hln,h3,h4,h5,tN,aUd]<;>with_reducible rfl) z7 ?_
   try simp only[aW,aO]
   exact⟨(ts++ [⟨kd,tx⟩],r.drop n),_,by show(r.drop n).length<r.length;rw[aS8];omega,⟨rfl,rfl,trivial⟩,by simp only[jN,seval,aB,qC,aTi,aSi]<;>rfl,by simp only[aTi,aSi,aS8];omega,by rw[hq2,hst];simp⟩
  ·
   have hr:r= []:=by cases r with|nil=>rfl|cons a l=>simp at bt7<;>omega
   have hv:toks s=ts:=by rw[hq2,hr,yW,aT4]
   rw[hv];refine wQ ?_;refine bD ?_;simp only[aW,aO,reduceIte,Nat.reduceEqDiff,aUb,if_true,if_false];refine nV ?_;refine wQ ?_;refine wT ⟨.inr rfl,_,rfl, ?_⟩;simp only[jN,seval,aB,qC]
   try rfl
set_option maxRecDepth 4000
def zT:St:=⟨0,[],[]⟩
def zN:Nd:=⟨0,0,[],0,0,0,[]⟩
theorem MG(s:List UInt8)(hs:s.length<=maxLen)(hl:2000<s.length){H:aC}(hG:EL G0 H):aN Tryz.prog 26 [.str s] H λr H'=>r= .tup [zT.enc,aB 2]/\H'=H:=by
 have hk:=aAp s hs;rw[if_pos z8,if_pos z8]at hk;refine gK (N:=34) Tryz.func26 rfl rfl z6 (.tup _ (by simp[zT,St.bel,aZ.int])) λhb'=> ?_;refine ZE (a3 dM oO oL) ?_;refine ZT 1 (a2 oO oL) ?_;refine pL (Zc (a2 oO oL)) (mL (a2 oO oL)) z7 aG7 (hk _ (hG.app _)) ?_;rintro _ _ ⟨rfl,rfl⟩;refine ZX (a2 oO oL) ?_;refine ZE (a3 y26 oO oL) ?_;refine ZG (a2 oO oL) ?_;refine ZE (a3 dM oO oL) ?_;refine wQ ?_;refine wT ⟨.inr rfl,_,_,(cW (.cell 2 67) (.tmp 3) rfl (fO MM z7 (by simp only[jL,jN,seval,aB,qM,qC,qG,eX,eY,oO,oL]<;>with_reducible rfl)) (aR z7)), ?_,ZW⟩;rfl
theorem aL5(s:List UInt8)(hs:s.length<=maxLen)(hl:2000<s.length){H:aC}(hG:EL G0 H):aN Tryz.prog 27 [.str s] H λr H'=>r= .tup [zN.enc, .slice [] .none,aB 2]/\H'=H:=by
 refine gK (N:=39) Tryz.func27 rfl rfl z6 (.tup _ (by simp only[aTv,aT7,or_false];rintro p (rfl|rfl|rfl);exact Nd.bel _ _;exact jK _ [];exact .int _ _)) λhb'=> ?_;refine ZE (a3 bY oO oL) ?_;refine wQ ?_;refine wR ?_;refine eT 1 (by simp only[kA,seval,aB,qM,qC,qG,eX,eY,oO,oL,zT]<;>with_reducible rfl) z7 ?_;refine pL (by simp only[kC,seval,aB,qM,qC,qG,eX,eY,oO,oL,zT]<;>with_reducible rfl) (by simp only[kC,seval,aB,qM,qC,qG,eX,eY,oO,oL,zT]) z7 RU (MG s hs hl (hG.app _)) ?_;rintro _ _ ⟨rfl,rfl⟩;refine nO (by simp only[kA,seval,dM,aB,qM,qC,qG,eX,eY,oO,oL,zT]<;>with_reducible rfl) z7 ?_;refine ZE (a3 y26 oO oL) ?_;refine ZG (a2 oO oL) ?_;refine ZE (a3 bY oO oL) ?_;refine wQ ?_;refine wT ⟨.inr rfl,_,_,(xG (.cell 2 31) (.tmp 3) (.tmp 4) rfl (fO nQ z7 (by simp only[jL,jN,seval,aB,qM,qC,qG,eX,eY,oO,oL]<;>with_reducible rfl)) (aR z7) (aR z7)), ?_,ZW⟩;rfl
theorem nN(n:Nd):n.size=1+cO n.kids:=by cases n;simp only[Nd.size,Nd.kids]
theorem IM:∀(ds o:List Dg),(ds.foldl (λo d=>qH d o) o).length<=o.length+ds.length
 | [],o=>z6
 |d::ds,o=>by
  have:=IM ds (qH d o);have:=ME d o;rw[List.foldl_cons,aS2];omega
theorem aA3(ds:List Dg):(AI ds).length<=ds.length:=by have:=IM ds [];simpa[AI]using this
theorem WS{src:List UInt8}{k:Int}{n m:Nd}{ds ds':List Dg}(h:GG src k n ds=some (m,ds')):m.size<=n.size:=by
 unfold GG at h
 split at h
 ·split at h
  ·rename_i c cs hc;injection h with h;injection h with h1 h2;subst h1;have e:(fC c n.st n.en).size=c.size:=by rw[nN,nN];rfl
   rw[e,nN n,hc,cO];omega
  ·cases h
 split at h
 ·split at h
  ·injection h with h;injection h with h1 h2;subst h1;rw[nN,nN n];simp[Nd.kids,cO]
  ·cases h
 ·injection h with h;injection h with h1 h2;subst h1;exact aSl _
mutual
theorem II(src:List UInt8):∀(t:St) (o:Nat) (m:Nd) (ds:List Dg),BS src t o=some (m,ds)->m.size<=t.size
 | .mk k x ch,o,m,ds,h=>by
  rw[BS]at h;obtain⟨⟨o2,n2,b2,d2⟩,h1,h2⟩:=oB h;have h3:=tE src ch o _ _ _ _ _ _ _ h1;have h4:=WS h2;simp only at h4;rw[nN n2]at h4;have h3':cO n2.kids<=cO ([]:List Nd)+bE ch:=h3;rw[cO]at h3';rw[St.size];omega
theorem tE(src:List UInt8):∀(ch:List St) (o:Nat) (n:Nd) (b:Bool) (ds:List Dg) (o2:Nat) (n2:Nd) (b2:Bool) (d2:List Dg),mI src ch o n b ds=some (o2,n2,b2,d2)->cO n2.kids<=cO n.kids+bE ch
 | [],o,n,b,ds,o2,n2,b2,d2,h=>by rw[mI]at h;injection h with h;injection h with _ h;injection h with h _;subst h;omega
 |c::cs,o,n,b,ds,o2,n2,b2,d2,h=>by
  rw[sZ]at h;rw[bE]
  split at h
  ·split at h
   ·have:=tE src cs _ _ _ _ _ _ _ _ h;rw[oZ,uU]at this;omega
   ·have:=tE src cs _ _ _ _ _ _ _ _ h;rw[uU]at this;omega
  ·obtain⟨⟨m,dm⟩,h1,h2⟩:=oB h;have h3:=II src c _ _ _ h1;simp only at h2;have:=tE src cs _ _ _ _ _ _ _ _ h2;rw[oZ,show(mW n m).kids=n.kids++ [m]from rfl,uS,cO,cO]at this;omega
end
theorem law_ast{H0:aC}{e3 e4:Value}(hG:EL G0 H0)(hE:tV e3 e4 H0)(s:List UInt8)(hs:s.length<=maxLen):aN Tryz.prog 5 [.str s] H0 λr H'=>r= .bool true/\Fr [] [] H0 H':=by
 refine aF (N:=83) Tryz.func5 rfl rfl z6 λhb'=> ?_;refine ZE (a2 oO oL) ?_;refine wQ ?_;refine wR ?_;refine ZA (a2 oO oL) aQa (aF1 hG hE) ?_;rintro _ H1 ⟨rfl,f1⟩;refine ZX (a2 oO oL) ?_;refine ZF (a2 oO oL) ?_;refine qK ?_;rcases aSk 2000 s.length with h2|h2
 ·
  have gl:decide ((s.length:Int)>2000)=true:=decide_eq_true z8;have kT:=EZ 1 zT z7 z7;have kN:=wZ 1 zN z7 z7;refine wQ ?_;refine wR ?_;refine eT 1 (by simp only[kA,seval,aB,qM,qC,qG,eX,eY,oO,oL,gl,zT,zN]<;>with_reducible rfl) z7 ?_;refine pL (by simp only[kC,seval,aB,qM,qC,qG,eX,eY,oO,oL,gl,zT,zN]<;>with_reducible rfl) (by simp only[kC,seval,aB,qM,qC,qG,eX,eY,oO,oL,gl,zT,zN]) z7 RU (MG s hs h2 (hG.thr f1)) ?_;rintro _ _ ⟨rfl,rfl⟩;refine nO (by simp only[kA,seval,dM,aB,qM,qC,qG,eX,eY,oO,oL,gl,zT,zN]<;>with_reducible rfl) z7 ?_;refine wQ ?_;refine wR ?_;refine eT 1 (by simp only[kA,seval,aB,qM,qC,qG,eX,eY,oO,oL,gl,zT,zN]<;>with_reducible rfl) z7 ?_;refine pL (by simp only[kC,seval,aB,qM,qC,qG,eX,eY,oO,oL,gl,zT,zN]<;>with_reducible rfl) (by simp only[kC,seval,aB,qM,qC,qG,eX,eY,oO,oL,gl,zT,zN]) z7 SB (aL5 s hs h2 ((hG.thr f1).app _)) ?_;rintro _ _ ⟨rfl,rfl⟩;refine nO (by simp only[kA,seval,bY,aB,qM,qC,qG,eX,eY,oO,oL,gl,zT,zN]<;>with_reducible rfl) z7 ?_;refine wL [0,3,4,5,6,7] (by simp only[jN,seval,aB,qM,qC,qG,eX,eY,oO,oL,gl,zT,zN]<;>with_reducible rfl) ?_;refine wQ ?_;refine eE (by simp only[kA,seval,y3,y9,aB,qM,qC,qG,eX,eY,oO,oL,gl,zT,zN]<;>with_reducible rfl) z7 ?_;refine wQ ?_;refine jJ rfl (by simp only[jN,seval,aB,qM,qC,qG,eX,eY,oO,oL,gl,zT,zN]<;>with_reducible rfl) ?_;refine wQ ?_;refine wR ?_;refine bO ?_;refine FB 2 (by simp only[jG,jO,jN,seval,dM,aB,qM,qC,qG,eX,eY,oO,oL,gl,zT,zN]<;>with_reducible rfl) z7 ?_;refine pP (by simp only[kE,seval,aB,qM,qC,qG,eX,eY,oO,oL,gl,zT,zN]<;>with_reducible rfl) (by simp only[kE,seval,aB,qM,qC,qG,eX,eY,oO,oL,gl,zT,zN]<;>with_reducible rfl) (by simp only[kE,seval,aB,qM,qC,qG,eX,eY,oO,oL,gl,zT,zN]) z7 aGp (λhc=>kT _) ?_;refine FB 7 (by simp only[jG,jO,jN,seval,y26,bY,aB,qM,qC,qG,eX,eY,oO,oL,gl,zT,zN]<;>with_reducible rfl) z7 ?_;refine pP (by simp only[kE,seval,aB,qM,qC,qG,eX,eY,oO,oL,gl,zT,zN]<;>with_reducible rfl) (by simp only[kE,seval,aB,qM,qC,qG,eX,eY,oO,oL,gl,zT,zN]<;>with_reducible rfl) (by simp only[kE,seval,aB,qM,qC,qG,eX,eY,oO,oL,gl,zT,zN]) z7 XX (λhc=>kN _) ?_;refine aB6 (by simp only[jG,jO,jN,seval,y3,y26,rS,nT,aB,qM,qC,qG,eX,eY,oO,oL,gl,zT,zN]<;>with_reducible rfl) z7 (by repeat (first|exact fK.base _|with_reducible apply fK.keep|apply fK.drop)) ?_;refine wQ ?_;refine wT ⟨.inr rfl,_,rfl, ?_⟩;exact⟨rfl,f1.app _⟩
 ·
  have hem:maxLen=9223372036854775807:=z7
  obtain⟨r1,r2,r3,r4,r5⟩:=aEn h2;obtain⟨ch,t1,t2,t3,t4,t5⟩:=SR h2;obtain⟨g1,g2,g3⟩:=aJ9 h2;obtain⟨_,_,q3,_⟩:=sJ _ s (aSl _);have hp:uR (toks s) kP nP=some (lF s):=by rw[t2];exact t1
  have hlim:(toks s).length<=iB:=by simp only[iB];omega
  have gl:decide ((s.length:Int)>2000)=false:=decide_eq_false z8;have k1:∀H,aN Tryz.prog 31 [(lF s).enc] H λr H'=>r= .slice ((toks s).map Tk.enc) .none/\H'=H:=λH=>by have h:=IQ 1000000 (lF s) z8 (aSl _) H;rw[r3]at h;exact h
  have k2:∀H,aN Tryz.prog 33 [(lF s).enc] H λr H'=>r= .str s/\H'=H:=λH=>by have h:=aQg (H:=H) (lF s) (by rw[r4];omega);rw[r4]at h;exact h
  have k3:PC Tryz.prog 29 [.str s,(lF s).enc] (.tup [(FL s).enc, .slice ((FZ s).2.2.map Dg.enc) .none]):=aD0 h2 z8 r1 z8;have hsz:(FL s).size<=1000000:=by
   have h1:(FZ s).2.1.size<=600002:=by have:=II s (lF s) 0 _ _ r1;omega
   have h3:(FL s).size=(FZ s).2.1.size:=by unfold FL;rw[nN,nN];rfl
   omega
  have hsl:=aA3 (FZ s).2.2;have x1:=a3 oO oL gl;refine ZT 1 x1 ?_;refine ZA x1 RU (SD s kP nP hs z8 hlim (hG.thr f1) hp) ?_;rintro _ H2 ⟨rfl,f2⟩;refine ZX (a2 dM x1) ?_;refine wQ ?_;obtain⟨tx,htx⟩:∃tx,tx=H2.length:=⟨_,rfl⟩;refine bG (λHA=>HA[tx]? =some (.row [.int .i64 (lF s).kind, .str (lF s).text, .slice ((lF s).ch.map St.enc) .none])/\Fr [] [] H0 HA) ⟨by rw[htx];simp,(f1.trans f2).app _⟩ ?_;rintro HA ⟨bA,gA⟩
  try rw[<-htx]
  refine wR ?_;refine ZU 1 x1 ?_;refine ZA x1 SB (XU h2 (hG.thr gA) (hE.fr gA z6 z6)) ?_;rintro _ H3 ⟨rfl,f3⟩;refine ZX (a2 bY x1) ?_;refine ZL [0,3,4,5,6,7] x1 ?_;refine wQ ?_;obtain⟨nx,hnx⟩:∃nx,nx=H3.length:=⟨_,rfl⟩;refine bG (λHB=>HB[tx]? =some (.row [.int .i64 (lF s).kind, .str (lF s).text, .slice ((lF s).ch.map St.enc) .none])/\HB[nx]? =some (CE (FL s))/\Fr [] [] H0 HB) ⟨aA ((f3.same _ (lG bA) z6).trans bA) _,by rw[hnx];simp,(gA.trans f3).app _⟩ ?_;rintro HB ⟨bB,yB,gB⟩
  try rw[<-hnx]
  refine eE (Za (a3 y3 y9 x1)) z7 ?_;refine ZF x1 ?_;refine qK ?_;refine ZT 2 (a3 dM bB x1) ?_;refine ZP (a2 bB x1) aO3 (k3 _) ?_;refine ZX (a3 bY bB x1) ?_;refine wQ ?_;obtain⟨wx,hwx⟩:∃wx,wx=HB.length:=⟨_,rfl⟩;refine bG (λHC=>HC[tx]? =some (.row [.int .i64 (lF s).kind, .str (lF s).text, .slice ((lF s).ch.map St.enc) .none])/\HC[nx]? =some (CE (FL s))/\HC[wx]? =some (CE (FL s))/\Fr [] [] H0 HC) ⟨aA bB _,aA yB _,by rw[hwx];simp,gB.app _⟩ ?_;rintro HC ⟨bC,yC,zC,gC⟩
  try rw[<-hwx]
  refine wR ?_;refine bO ?_;have x2:=a4 bC yC zC x1;refine OH 8 (a3 y26 dM x2) ?_;refine RN x2 aAz (λhc=>k1 _) ?_;refine OH 1 x2 ?_;refine RN x2 aPz (λhc=>aNh s z8 _) ?_;refine RN x2 aOm (λhc=>aQe (toks s) z8 _) ?_;refine OH 3 (a2 dM x2) ?_;refine RN x2 aPj (λhc=>k2 _) ?_;refine OH 6 (a3 y9 bY x2) ?_;refine RN x2 XX (λhc=>wZ 1000000 (FL s) hsz (aSl _) _) ?_;refine OH 4 x2 ?_;refine RN x2 aQc (λhc=>aEr (FZ s).2.2 z8 _) ?_;refine RN x2 aPt (λhc=>aP6 (AI (FZ s).2.2) z8 _) ?_;refine ZgX x2 ?_;refine wQ ?_;refine wT ⟨.inr rfl,_,rfl, ?_⟩;exact⟨rfl,gC⟩
def env0(W:World):aE:= {w:=W,κ:=λ_=>.fixed,ρ:=λ_=>0,tb:=λ_=>none,H:= []}
theorem WT(W:World)(a:Addr):(env0 W).view.cell a=W.cell? a:=rfl
def RLl(V:cS)(cs:List Value)(ps:List PV):Prop:=cs.length=ps.length/\∀i (h:i<ps.length),aL V (cs.getD i undef) ps[i]
theorem RLl.nil{V:cS}:RLl V [] []:=⟨rfl,λi h=>by cases h⟩
theorem RLl.cons{V:cS}{c:Value}{cs:List Value}{p:PV}{ps:List PV}(h:aL V c p)(hs:RLl V cs ps):RLl V (c::cs) (p::ps):=by
 refine⟨by simp[hs.1],λi hi=> ?_⟩;cases i with
 |zero=>exact h
 |succ i=>exact hs.2 i (by simpa using hi)
theorem RLl.app{V:cS}{c1 c2:List Value}{p1 p2:List PV}(h1:RLl V c1 p1)(h2:RLl V c2 p2):RLl V (c1++c2) (p1++p2):=by
 refine⟨by simp[h1.1,h2.1],λi hi=> ?_⟩
 by_cases h:i<p1.length
 ·have:=h1.2 i h;simp only[aTe]at this⊢;rw[aSv (by rw[h1.1];exact h),List.getElem_append_left h];exact this
 ·have:=h2.2 (i-p1.length) (by simp at hi;omega);simp only[aTe]at this⊢;rw[aSw (by rw[h1.1];omega),List.getElem_append_right z8,h1.1];exact this
theorem RLl.agg{V:cS}{arr:Array Value}{ps:List PV}(h:RLl V arr.toList ps):aL V (.agg arr) (.agg ps):=by
 refine .agg _ _ (by have:=h.1;simpa using this) λi hi=> ?_;have:=h.2 i hi;rw[aTe,aTf]at this;rw[aSo];exact this
theorem RLl.one{V:cS}{v:Value}{p:PV}(h:RLl V [v] [p]):aL V v p:=h.2 0 z6
theorem LZ{α:Type}{n:Nat}{p:Nat->α->Prop}(h:∀i,i<n->∃a,p i a):∃xs:List α,xs.length=n/\∀i (hi:i<xs.length),p i xs[i]:=by
 induction n with
 |zero=>exact⟨[],rfl,λi hi=>by cases hi⟩
 |succ n ih=>
  obtain⟨xs,h1,h2⟩:=ih λi hi=>h i z8;obtain⟨a,ha⟩:=h n z8;refine⟨xs++ [a],by simp[h1],λi hi=> ?_⟩
  by_cases hlt:i<xs.length
  ·rw[List.getElem_append_left hlt];exact h2 i hlt
  ·rw[List.getElem_append_right z8];simp at hi;obtain rfl:i=n:=z8
   simpa using ha
def SlD{α:Type}{H:Type}(D:α->DataW H->Prop)(xs:List α)(d:DataW H):Prop:=
 (xs= []/\d= .nil)\/∃els sp,d= .slice els sp/\xs.length=els.length/\∀i (h1:i<xs.length) (h2:i<els.length),D xs[i] els[i]
section
variable{H:Type}{enc:TypeId×Value->H}{P:Program}{W:World}{spare:Nat->Bool}{held:Bool}
theorem rd_slice{α:Type}(en:α->PV)(D:α->DataW H->Prop){t e:TypeId}{fuel:Nat}{cs:List Value}{x:DataW H×List MemPlace}(ht:P.underlying t=some (.slice e))(hsz:∀a,(en a).cells.length=P.cellsOf e)
  (h:DataW.trod enc P W 0 spare held fuel t cs=some x) (ih:∀n cs' x',n<fuel->DataW.trod enc P W 0 spare held n e cs'=some x'->∃a,RLl (env0 W).view cs' (en a).cells/\D a x'.1):
  ∃(xs:List α) (v:Value),cs= [v]/\aL (env0 W).view v (.slice (xs.map en) .none)/\SlD D xs x.1:=by
 rcases DataW.trod_slice ht h with⟨rfl,rfl⟩| ⟨a,len,cap,elems,rest,n,rfl,rfl,rfl,hb,hl,hm,hlen,hel,_,_⟩
 ·exact⟨[],_,rfl, .nils .none trivial, .inl ⟨rfl,rfl⟩⟩
 ·obtain⟨ys,hys,hp⟩:=LZ (α:=α×List Value) (n:=len) (p:=λi y=>W.cells? 0 (a.add (i*P.cellsOf e)) (P.cellsOf e)=some y.2/\RLl (env0 W).view y.2 (en y.1).cells/\∀h:i<elems.length,D y.1 elems[i].1) (λi hi=>by
   have:=hel i hi;rw[aTd z8]at this;obtain⟨cs',h1,h2⟩:=oB this;obtain⟨y,h3,h4⟩:=ih n cs' _ z8 h2;exact⟨(y,cs'),h1,h3,λ_=>h4⟩)
  refine⟨ys.map (·.1),_,rfl, ?_, .inr ⟨_,_,rfl,by simp[hys,hlen],λi h1 h2=> ?_⟩⟩
  ·have hget:∀i (hi:i<ys.length),ys[i]? =some ys[i]:=λi hi=>aTd hi;refine .slice a len cap (P.cellsOf e) _ .none (λi j=>match ys[i]? with|some y=>y.2.getD j undef|none=>undef) (by simp[hys]) hl hm ?_ ?_ ?_ trivial
   ·intro i hi;simp only[aSh];exact hsz _
   ·intro i j hi hj;have hi':i<ys.length:=z8
    obtain⟨h1,h2,_⟩:=hp i hi';obtain⟨_,h4,h5⟩:=World.cells?_some h1;have:=h5 j hj;rw[hget i hi'];simp only;rw[WT,<-CB,this,aTe,aTd z8];rfl
   ·intro i j hi hj;have hi':i<ys.length:=by simpa using hi
    simp only[aSh]at hj⊢;rw[hget i hi'];exact(hp i hi').2.1.2 j hj
  ·simp only[aSh];exact(hp i (by simpa using h1)).2.2 _
theorem WI{t:TypeId}{fs:Array Field}{fuel:Nat}{cs:List Value}{x:DataW H×List MemPlace}(ht:P.underlying t=some (.struct fs))(h:DataW.trod enc P W 0 spare held fuel t cs=some x):
  ∃(ds:List (DataW H)) (n:Nat),fuel=n+1/\x.1= .agg ds/\cs.length=P.cellsOf t/\ds.length=fs.size/\∀(i:Nat) (f:Field),fs[i]? =some f->∃d ps,ds[i]? =some d/\DataW.trod enc P W 0 spare held n f.type ((cs.drop f.offset).take (P.cellsOf f.type))=some (d,ps):=by
 obtain⟨xs,n,h1,rfl,h3,h4,h5⟩:=DataW.trod_struct ht h;refine⟨xs.map (·.1),n,h1,rfl,h3,by simpa using h4,λi f hf=> ?_⟩;have hi:i<xs.length:=by
  rw[h4];rcases aSk i fs.size with hl|hl
  ·exact hl
  ·rw[Array.getElem?_eq_none hl]at hf;cases hf
 have:=h5 i f hf;rw[aTd hi]at this;exact⟨xs[i].1,xs[i].2,by simp[hi],this⟩
theorem rd_int{t:TypeId}{k:IntKind}{fuel:Nat}{cs:List Value}{x:DataW H×List MemPlace}(ht:P.underlying t=some (.int k))(h:DataW.trod enc P W 0 spare held fuel t cs=some x):∃n,RLl (env0 W).view cs [.int k n]/\x.1= .lit (.int k n)/\(Lit.int k n).wf=true/\cs= [.int k n]:=by
 obtain⟨n,rfl,rfl,h3⟩:=DataW.trod_int ht h;exact⟨n, .cons (.int _ _) .nil,rfl,h3,rfl⟩
theorem rd_string{t:TypeId}{fuel:Nat}{cs:List Value}{x:DataW H×List MemPlace}(ht:P.underlying t=some .string)(h:DataW.trod enc P W 0 spare held fuel t cs=some x):∃s:List UInt8,RLl (env0 W).view cs [.str s]/\x.1= .lit (.string s)/\s.length<=maxLen:=by
 obtain⟨s,rfl,rfl,h3⟩:=DataW.trod_string ht h;exact⟨s.data.toList, .cons (.str _) .nil,rfl,by simpa using h3⟩
end
inductive TyD{H:Type}:Ty->DataW H->Prop
 |nil (k i:Int):TyD (.mk k i []) (.agg [.lit (.int .i64 k), .lit (.int .i64 i), .nil])
 |slice (k i:Int) (xs:List Ty) (es sp:List (DataW H)) (hl:xs.length=es.length) (h:∀j (h1:j<xs.length) (h2:j<es.length),TyD xs[j] es[j]):TyD (.mk k i xs) (.agg [.lit (.int .i64 k), .lit (.int .i64 i), .slice es sp])
theorem TyD.of{H:Type}{k i:Int}{xs:List Ty}{d:DataW H}(h:SlD TyD xs d):TyD (.mk k i xs) (.agg [.lit (.int .i64 k), .lit (.int .i64 i),d]):=by
 rcases h with⟨rfl,rfl⟩| ⟨es,sp,rfl,h1,h2⟩
 ·exact .nil k i
 ·exact .slice k i xs es sp h1 h2
structure aQt(P:Program)(T S:TypeId):Prop where
 st:∃f0 f1 f2:Field,P.underlying T=some (.struct #[f0,f1,f2])/\P.underlying f0.type=some (.int .i64)/\P.underlying f1.type=some (.int .i64)/\f2.type=S/\f0.offset=0/\f1.offset=1/\f2.offset=2/\P.cellsOf f0.type=1/\P.cellsOf f1.type=1
 sl:P.underlying S=some (.slice T)
 c:P.cellsOf T=3
 cs:P.cellsOf S=1
 by40:P.bytesOf T=40
section
variable{H:Type}{enc:TypeId×Value->H}{P:Program}{W:World}{spare:Nat->Bool}{held:Bool}{T S:TypeId}
theorem rd_ty(F:aQt P T S):∀(fuel:Nat) (cs:List Value) (x:DataW H×List MemPlace),DataW.trod enc P W 0 spare held fuel T cs=some x->∃t:Ty,RLl (env0 W).view cs t.enc.cells/\TyD t x.1:=by
 intro fuel
 induction fuel using Nat.strongRecOn with
 |_ fuel ih=>
 intro cs x h;obtain⟨f0,f1,f2,hst,u0,u1,e2,o0,o1,o2,c0,c1⟩:=F.st;obtain⟨ds,n,rfl,hx,hlen,hdl,hf⟩:=WI hst h;rw[F.c]at hlen
 match cs,hlen with
 | [v0,v1,v2],_=>
 obtain⟨d0,p0,g0,r0⟩:=hf 0 f0 rfl;obtain⟨d1,p1,g1,r1⟩:=hf 1 f1 rfl;obtain⟨d2,p2,g2,r2⟩:=hf 2 f2 rfl;rw[o0,c0]at r0;rw[o1,c1]at r1;rw[o2,e2,F.cs]at r2;obtain⟨k,q0,rfl,w0,_⟩:=rd_int u0 r0;obtain⟨i,q1,rfl,w1,_⟩:=rd_int u1 r1;obtain⟨xs,v,hv,hr,hd⟩:=rd_slice Ty.enc TyD F.sl (λa=>by rw[F.c,Ty.enc_len]) r2 (λm cs' x' hm h'=>ih m z8 cs' x' h');simp only[List.drop_succ_cons,aUh,List.take_succ_cons,List.take_zero,List.cons.injEq,and_true]at hv;subst hv;refine⟨.mk k i xs, ?_, ?_⟩
 ·rw[Ty.enc_cells];exact .cons q0.one (.cons q1.one (.cons hr .nil))
 ·rw[hx];have:ds= [.lit (.int .i64 k), .lit (.int .i64 i),d2]:=by
   match ds,hdl with
   | [a,b,c],_=>
    simp at g0 g1 g2;rw[g0,g1,g2]
  rw[this];exact .of hd
end
theorem RLl.rl{V:cS}{arr:Array Value}{ps:List PV}(h:RLl V arr.toList ps):RL V arr ps:=by
 refine⟨by have:=h.1;simpa using this,λi hi=> ?_⟩;have:=h.2 i hi;rw[aTe,aTf]at this;rw[aSo];exact this
theorem Ty.enc_agg(t:Ty):PV.agg t.enc.cells=t.enc:=by rw[Ty.enc_cells,Ty.enc_eq]
def aDh(W:World)(G:aC):aE:= {w:=W,κ:=λ_=>.fixed,ρ:=λ_=>0,tb:=λ_=>none,H:=G}
theorem aFd{W:World}{G:aC}(hG:∀o∈G,∃b vs,o=AObj.glob b vs)(hW:∀b vs,AObj.glob b vs∈G->∀i (h:i<vs.length),W.cell? ⟨b,i,none⟩=some vs[i]):(aDh W G).Ok:=by
 have hk:∀id o,(aDh W G).H[id]? =some o->∃b vs,o=AObj.glob b vs:=λid o h=>hG o (List.mem_of_getElem? h);constructor
 ·intro id cs h;obtain⟨b,vs,e⟩:=hk _ _ h;cases e
 ·intro id n sz b h;obtain⟨b,vs,e⟩:=hk _ _ h;cases e
 ·intro id id' cs cs' h;obtain⟨b,vs,e⟩:=hk _ _ h;cases e
 ·intro id id' n sz n' sz' b h;obtain⟨b,vs,e⟩:=hk _ _ h;cases e
 ·intro id b vs h i hi;exact hW b vs (List.mem_of_getElem? h) i hi
 ·exact⟨λid k h=>(by obtain⟨b,vs,e⟩:=hk _ _ h;cases e),λid id' k k' h=>(by obtain⟨b,vs,e⟩:=hk _ _ h;cases e)⟩
theorem VX(W:World)(G:aC):(env0 W).view.le (aDh W G).view:=by
 have hb:∀id,¬(env0 W).view.born id:=by
  rintro id ⟨o,h,_⟩;simp[env0]at h
 exact⟨λa v h=>h,λid h=>absurd h (hb id),λid h=>absurd h (hb id),λid t h=>absurd h (hb id)⟩
theorem calls_of_ga{P:Program}{f:FuncId}{args:List PV}{b:Bool}{G:aC}(h:aN P f args G λr _=>r= .bool b)(W:World)(hG:∀o∈G,∃b vs,o=AObj.glob b vs)(hW:∀b vs,AObj.glob b vs∈G->∀i (h:i<vs.length),W.cell? ⟨b,i,none⟩=some vs[i])
  (vargs:Array Value) (hr:RL (env0 W).view vargs args):Calls P f vargs W λe w'=>e= .returned (.bool b)/\Go.RowKit.Below W.heap.size W w':=by
 refine(h (aDh W G) vargs (aFd hG hW) rfl (hr.mono (VX W G))).mono ?_;rintro e w' ⟨E',v,r,rfl,rfl,hle,hok,hv,rfl⟩;refine⟨by rw[hv.bool_inv],hle.os,hle.tape,hle.output,hle.size,λk hk=>(hle.other k hk ?_).2⟩;rintro(⟨id,cs,h,_⟩| ⟨id,n,sz,h,_⟩| ⟨id,k,h,_⟩)<;>(obtain⟨b,vs,e⟩:=hG _ (List.mem_of_getElem? h);cases e)
theorem laid_ints{H:Type}{enc:TypeId×Value->H}{P:Program}{w:World}{sp:Nat->Bool}{held:Bool}{t e:TypeId}{n f:Nat}{k:IntKind}{cs:List Value}{ds:List (DataW H)}{q:List MemPlace}
  (ht:P.underlying t=some (.array n e)) (he:P.underlying e=some (.int k)) (hc:P.cellsOf e=1) (h:DataW.trod enc P w 0 sp held f t cs=some (.agg ds,q)):
  ∀i,i<n->∃v,ds[i]? =some (.lit (.int k v))/\cs[i]? =some (.int k v):=by
 intro i hi;obtain⟨xs,m,rfl,hx,hlen,hn,hel⟩:=DataW.trod_array ht h;have h1:=hel i hi;rw[hc,Nat.mul_one]at h1;rw[aTd z8]at h1;obtain⟨v,e1,e2,_⟩:=DataW.trod_int he h1;simp only[Prod.mk.injEq,DataW.agg.injEq]at hx;refine⟨v, ?_, ?_⟩
 ·rw[hx.1,aTb,aTd z8];simp[e2]
 ·have:(cs.drop i).head? =some (.int k v):=by
   cases hd:cs.drop i with
   |nil=>rw[hd]at e1;cases e1
   |cons a l=>rw[hd]at e1;simp at e1;rw[e1];rfl
  rw[List.head?_drop]at this;exact this
theorem trod_ifc{H:Type}{enc:TypeId×Value->H}{P:Program}{w:World}{base:Nat}{sp:Nat->Bool}{held:Bool}{fuel:Nat}{t:TypeId}{cs:List Value}{n:String}{d:DataW H}{p:List MemPlace}(hu:∃ms,P.underlying t=some (.interface ms))(h:DataW.trod enc P w base sp held fuel t cs=some (.iface n d,p)):∃te pe,cs= [.iface te pe]:=by
 obtain⟨ms,hu⟩:=hu;cases fuel with
 |zero=>cases h
 |succ f=>
  unfold DataW.trod at h;rw[hu]at h
  split at h<;>first|exact⟨_,_,rfl⟩| (exfalso;simp_all;done)| (exfalso;rename_i heq _;simp at heq;done)| (exfalso;rename_i heq;simp at heq;done)
def GE(e3 e4:Value):aC:= [gO, .glob 3 [e3], .glob 4 [e4]]
theorem preE(e3 e4:Value):EL G0 (GE e3 e4):=λk o h=>by
 match k,h with
 |0,h=>exact h
 |k+1,h=>simp[G0,GC]at h
theorem errE{e3 e4:Value}(h3:∃te pe,e3= .iface te pe)(h4:∃te pe,e4= .iface te pe):tV e3 e4 (GE e3 e4):=⟨rfl,rfl, .inr h3, .inr h4⟩
theorem globE{e3 e4:Value}:∀o∈GE e3 e4,∃b vs,o=AObj.glob b vs:=λo ho=>by
 simp only[GE,gO,aTv,aT7,or_false]at ho;rcases ho with rfl|rfl|rfl<;>exact⟨_,_,rfl⟩
end Go.Abs
