/- Part 1 of a proof of the law AstReference: Go data as trees, the walks of the functions that the law reaches, the plain laws. -/
import Derived.JoinedOf
import Derived.KernelRfl
import Derived.Test.YtfphoklhgapnpaaGreatDoorRows
open Bool renaming and_eq_true->aSe,not_eq_true'->aSf
open List renaming all_cons->aSd,cons_append->aSg
set_option linter.unusedVariables false
set_option linter.unusedSimpArgs false
namespace Go.Abs
theorem aGz(r:List (List Char)):stripLifts liftWords ("cut".toList::r)=([], "cut".toList::r):=by
  simp only[liftWords]
  repeat (rw[stripLifts,if_neg (by decide)])
  rfl
theorem ML{P:Program}{r:List (List Char)}(h:behindMainWord (wordsSigns P.initOrder.toList)= "cut".toList::r)(h1:P.laysLater=false)(h2:P.bearsReflect=false)(h3:P.doorFits []=true):P.mayEnter=true:=by
  unfold Program.mayEnter;rw[h];simp only[aGz,h1,h2,h3];rfl
theorem JN{P:Program}{r:List (List Char)}(h:behindMainWord (wordsSigns P.initOrder.toList)= "cut".toList::r):P.headLifts= []:=by
  unfold Program.headLifts;rw[h,aGz];rfl
theorem GM{P:Program}{r:List (List Char)}(h:behindMainWord (wordsSigns P.initOrder.toList)= "cut".toList::r):P.liftsFinal=false:=by
  unfold Program.liftsFinal;rw[JN h,h];rfl
theorem aFz{P:Program}{r:List (List Char)}(h:behindMainWord (wordsSigns P.initOrder.toList)= "cut".toList::r):P.make=some .cut:=by
  unfold Program.make;rw[h];rfl
def sg(l:List Nat):List Char:=l.map Char.ofNat
theorem PK(c:Char)(r:List Char)(h:(c==Char.ofNat 32)=false):wordsSigns (c::r)=match wordsSigns r with|w::ws=>(c::w)::ws| []=> [[c]]:=by
  rw[wordsSigns]
  · rfl
  · intro e
    subst e;simp at h
theorem tU:∀(w r:List Char),w.all (λc=> !(c==Char.ofNat 32))=true->wordsSigns (w++Char.ofNat 32::r)=w::wordsSigns r
  | [],r,_=>by rfl
  |c::w,r,h=>by
    simp only[aSd,aSe,aSf]at h;rw[aSg,PK c _ h.1,tU w r h.2]
theorem VD{P:Program}{a b c r:List Char}(hio:P.initOrder=String.ofList (a++Char.ofNat 32::(b++Char.ofNat 32::(c++Char.ofNat 32::r))))(ha:a.all (λc=> !(c==Char.ofNat 32))=true)(hb:b.all (λc=> !(c==Char.ofNat 32))=true)(hc:c.all (λc=> !(c==Char.ofNat 32))=true)(h:((a== "harness".toList||a== "ownmain".toList)&&isSumSigns b)=true)(hc2:c= "cut".toList):behindMainWord (wordsSigns P.initOrder.toList)= "cut".toList::wordsSigns r:=by
  rw[hio,String.toList_ofList,tU _ _ ha,tU _ _ hb,tU _ _ hc];simp only[behindMainWord];rw[if_pos h,hc2]
end Go.Abs
set_option maxRecDepth 100000
namespace Go.Proofs.YtfphoklhgapnpaaGreatDoor.headFacts
open Go.Abs
def rA:List Char:=sg [97,116,32,103,108,111,115,115,97,116,111,114,47,103,108,111,115,115,97,116,111,114,108,97,119,49,46,83,121,109,98,111,108,115,82,101,102,101,114,101,110,99,101,32,103,108,111,115,115,97,116,111,114,47,103,108,111,115,115,97,116,111,114,108,97,119,49,46,69,120,112,111,114,116,115,82,101,102,101,114,101,110,99,101,32,103,108,111,115,115,97,116,111,114,47,103,108,111,115,115,97,116,111,114,108,97,119,49,46,65,115,116,82,101,102,101,114,101,110,99,101]
theorem io:Tryz.prog.initOrder=String.ofList (sg [104,97,114,110,101,115,115]++Char.ofNat 32::(sg [53,56,53,56,54,55,54,55,101,52,55,52,57,57,100,56,97,53,51,101,57,50,57,56,53,49,99,50,48,53,51,99,49,49,99,50,102,49,49,52,101,49,102,57,98,99,50,100,54,53,100,48,102,51,51,101,100,54,100,98,53,52,99,100]++Char.ofNat 32::(sg [99,117,116]++Char.ofNat 32::rA))):=by kernel_rfl
theorem beh:behindMainWord (wordsSigns Tryz.prog.initOrder.toList)= "cut".toList::wordsSigns rA:=VD io (by decide) (by decide) (by decide) (by kernel_rfl) (by kernel_rfl)
theorem later:Tryz.prog.laysLater=false:=by kernel_rfl
theorem refl:Tryz.prog.bearsReflect=false:=by kernel_rfl
theorem aQu:Tryz.prog.doorFits []=true:=by kernel_rfl
theorem mayEnter:Tryz.prog.mayEnter=true:=ML beh later refl aQu
theorem liftsFinal:Tryz.prog.liftsFinal=false:=GM beh
theorem make:Tryz.prog.make=some .cut:=aFz beh
end Go.Proofs.YtfphoklhgapnpaaGreatDoor.headFacts
