/- What ReadBlanksP leans on, part 10. -/
import Derived.Test.YtkbbgjloifmmbaaGreatDoorPc5
import Derived.Test.YtkbbgjloifmmbaaGreatDoorPc6
import Derived.Lib.QuietBelow
import Derived.Deep.RegionHeld3
set_option linter.unusedVariables false
open _root_.Go.Proofs.Tryz
namespace Go.Proofs.YtkbbgjloifmmbaaGreatDoor
open Go.RowKit
attribute [local go_sem high] qd gP
variable{k:Nat}{a:Option Addr}{w:World}
theorem abe{i:ay}(h:bX i=true):fE i=true/\i=nh i/\dy i.d=true/\dy i.a=true/\dy i.b=true:=by
 unfold bX at h;simp only[Bool.and_eq_true,decide_eq_true_eq]at h;exact⟨h.1.1.1.1,h.1.1.1.2,h.1.1.2,h.1.2,h.2⟩
open Go.Sort
theorem yY{P:Program}{f:FuncId}{args:Array Value}{v:Value}(h:Calls P f args w (aJ w v)):Calls P f args w fun e w'=>e= .returned v/\Below w.heap.size w w':=h
theorem agb(h:k<15)(h':k<uM.length):uM[k]=cI k:=by
 unfold cI;rw[List.getD_eq_getElem?_getD,List.getElem?_eq_getElem h'];rfl
structure sG(w:World)(a:Option Addr):Prop where
 lP:bS w a uM
theorem sG.cell(h:sG w a)(hk:k<15):w.cell? ⟨bk a,fo a+k,none⟩=some (.string (tx (cI k))):=by
 rw[h.lP.cell k (show k<uM.length from hk),agb hk]
theorem sG.idx(h:sG w a)(hk:k<15): ∀w',(Instr.indexAt 42 (.slice a 15 15) (.int .i64 k)).run prog w'= .ok (.pointer (some ⟨bk a,fo a+k,none⟩)) w':=h.lP.idx k hk 15
theorem sG.below{w':World}(h:sG w a)(hb:Below w.heap.size w w'):sG w' a:=⟨h.lP.below hb⟩
theorem aiS(w:World):Calls prog 216 #[] w fun e w'=> ∃a,e= .returned (.slice a 15 15)/\sG w' a/\Below w.heap.size w w':=by
 have E:=al w (.cells #[.string ⟨#[69,65,88]⟩,.string ⟨#[69,66,88]⟩,.string ⟨#[69,67,88]⟩,.string ⟨#[69,68,88]⟩,.string ⟨#[69,83,73]⟩,.string ⟨#[69,68,73]⟩,.string ⟨#[69,66,80]⟩,.string ⟨#[82,56,68]⟩,.string ⟨#[82,57,68]⟩,.string ⟨#[82,49,48,68]⟩,.string ⟨#[82,49,49,68]⟩,.string ⟨#[82,49,50,68]⟩,.string ⟨#[82,49,51,68]⟩,.string ⟨#[82,49,52,68]⟩,.string ⟨#[82,49,53,68]⟩] 9);go_in;go_wp2;go_ret;refine⟨_,rfl,⟨⟨⟨fun _=>rfl,fun i hi=>?_⟩,by decide⟩⟩,E⟩;simp only[World.cell?,gv,gX,heap_alloc_new,Nat.zero_add];rw[if_neg (by simp)];exact List.getElem?_toArray
end Go.Proofs.YtkbbgjloifmmbaaGreatDoor
