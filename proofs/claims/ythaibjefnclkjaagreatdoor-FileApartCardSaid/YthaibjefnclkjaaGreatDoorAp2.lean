/- RISC-V instructions and their texts: what is printed is read as what it was; what is read may be. Plain lists; no program, no condition. Texts and instructions as values; equality. Lemmas of this claim's own; no condition. The library's plain functions at one byte, and numerals of up to four digits; no program, no condition. The library's contracts at this program's numbers: layings, written by the shelf's own command. x86 instructions and their texts, as plain functions of lists of bytes; no program, no condition. The library's functions on texts: Itoa, Atoi, Trim, HasSuffix, IndexByte, Split. Conditions: lengths below the form's reach; the library's variables as the program's text lays them, where a contract names them. From what a row lists of the library's variables, and from the world's shape, to what the walks ask; the wrap of a row that lists variables. Lemmas of this claim's own; no condition. From what a row lists of the library's variables to what the walks ask; the wrap of a row that lists variables. Lemmas of this claim's own; no condition. -/
import Derived.Test.YthaibjefnclkjaaGreatDoorAp1
import Derived.Test.YthaibjefnclkjaaGreatDoorRows
import Derived.Laws.StructEq
import Derived.Shelf.SlicesQ.Load
import Derived.Lib.SplitLaws
import Derived.Lib.Strings
import Derived.Lib.ItoaMem
import Derived.Shelf.Strings.SlTrimAscii
import Derived.Shelf.Small.Strs
import Derived.Shelf.Strconv.Itoa3
import Derived.Shelf.LaysM
import Derived.Shelf.Strings.Prefix
import Derived.Test.YthaibjefnclkjaaGreatDoorProg
import Derived.Lib.ItoaLen
import Derived.WalkSmall
import Derived.Laws.Concat
import Derived.Stop.LaidErr
import Derived.Lib.LaidTab
import Derived.Lib.LaidU8
import Derived.Lay
import Derived.MakeChecks
import Derived.ShapedOpen
import Derived.LaidOnce
import Derived.SevenTiedAt
import Derived.ChangeArms
set_option linter.unusedVariables false
namespace Go.Proofs.YthaibjefnclkjaaGreatDoor
theorem blank_cs (c:UInt8):([32,9,10,13]:Tx).contains c=blankC c:=by
 unfold blankC;simp [List.contains,List.elem,Bool.or_assoc]
 cases h1:c==32 <;> cases h2:c==9 <;> cases h3:c==10 <;> cases h4:c==13 <;> simp_all
theorem trimL_eq (l:Tx):Lib.trimLeftS l [32,9,10,13]=l.dropWhile blankC:=by
 unfold Lib.trimLeftS;congr 1;funext c;exact blank_cs c
theorem trimR_eq (l:Tx):Lib.trimRightS l [32,9,10,13]=(l.reverse.dropWhile blankC).reverse:=by
 unfold Lib.trimRightS;congr 2;funext c;exact blank_cs c
theorem trimT_eq (l:Tx):trimT l=((l.reverse.dropWhile blankC).reverse).dropWhile blankC:=by
 unfold trimT Lib.trimS;rw [trimR_eq,trimL_eq]
theorem dropWhile_head {α:Type} {p:α→Bool} : ∀ {l:List α},(∀ c,l.head? = some c→p c=false)→l.dropWhile p=l
 | [],_=>rfl
 | c::r,h=>by rw [List.dropWhile_cons];rw [if_neg (by rw [h c rfl];simp)]
theorem trimT_clean {l:Tx} (h1 : ∀ c,l.head? = some c→blankC c=false) (h2 : ∀ c,l.getLast? = some c→blankC c=false):trimT l=l:=by
 rw [trimT_eq,dropWhile_head (l:=l.reverse) (by intro c hc;rw [List.head?_reverse] at hc;exact h2 c hc),List.reverse_reverse,dropWhile_head h1]
theorem trimT_blank (l:Tx) (b:UInt8) (hb:blankC b=true) (h0:l≠[]) (h1 : ∀ c,l.head? = some c→blankC c=false) (h2 : ∀ c,l.getLast? = some c→blankC c=false):trimT (b::l)=l:=by
 rw [trimT_eq,dropWhile_head (l:=(b::l).reverse),List.reverse_reverse,List.dropWhile_cons,if_pos hb,dropWhile_head h1]
 intro c hc
 rw [List.head?_reverse,List.getLast?_cons] at hc
 obtain ⟨x,hx⟩ : ∃ x,l.getLast? = some x:=⟨l.getLast h0,List.getLast?_eq_some_getLast h0⟩
 rw [hx] at hc
 simp at hc;subst hc
 exact h2 x hx
theorem splitC_none (c:UInt8) : ∀ (l:Tx),c∉l→splitC c l = [l]
 | [],_=>rfl
 | b::r,h=>by
  simp only [List.mem_cons,not_or] at h
  unfold splitC
  rw [splitC_none c r h.2,if_neg (by simpa using Ne.symm h.1)]
theorem splitC_app (c:UInt8) : ∀ (l r:Tx),c∉l→splitC c (l++c::r)=l::splitC c r
 | [],r,_=>by simp [splitC]
 | b::l,r,h=>by
  simp only [List.mem_cons,not_or] at h
  rw [List.cons_append]
  conv=>lhs;unfold splitC
  rw [splitC_app c l r h.2,if_neg (by simpa using Ne.symm h.1)]
theorem regOf_regT_fin : ∀ n:Fin 32,regOf (regT n.val)=some n.val:=by decide +kernel
theorem regOf_regT {n:Nat} (h:n<32):regOf (regT n)=some n:=regOf_regT_fin ⟨n,h⟩
def Cl (x:Tx):Prop:=x≠[]∧∀ c∈x,blankC c=false∧c≠44∧c≠58
instance (x:Tx):Decidable (Cl x):=by unfold Cl;infer_instance
theorem Cl.head {x:Tx} (h:Cl x) : ∀ c,x.head? = some c→blankC c=false:=fun c hc=>(h.2 c (List.mem_of_head? hc)).1
theorem Cl.last {x:Tx} (h:Cl x) : ∀ c,x.getLast? = some c→blankC c=false:=fun c hc=>(h.2 c (List.mem_of_getLast? hc)).1
theorem Cl.comma {x:Tx} (h:Cl x):(44:UInt8)∉x:=fun hm=>(h.2 _ hm).2.1 rfl
theorem Cl.trim {x:Tx} (h:Cl x):trimT x=x:=trimT_clean h.head h.last
theorem Cl.trim1 {x:Tx} (h:Cl x):trimT (32::x)=x:=trimT_blank x 32 (by decide) h.1 h.head h.last
theorem Cl.app {x y:Tx} (h:Cl x) (h':Cl y):Cl (x++y):=⟨by simp [h.1],fun c hc=>by rcases List.mem_append.1 hc with h1|h1;exact h.2 c h1;exact h'.2 c h1⟩
theorem cl_regT_fin : ∀ n:Fin 32,Cl (regT n.val):=by decide +kernel
theorem cl_regT {n:Nat} (h:n<32):Cl (regT n):=cl_regT_fin ⟨n,h⟩
theorem addr_fin : ∀ n:Fin 32,addrT ([48,40]++regT n.val++[41])=some n.val:=by decide +kernel
theorem addr_regT {n:Nat} (h:n<32):addrT ([48,40]++regT n++[41])=some n:=addr_fin ⟨n,h⟩
def valT:Nat→Tx→Nat
 | a,[]=>a
 | a,c::r=>valT (10 * a+(c.toNat-48)) r
def valI:Tx→Int
 | []=>0
 | c::r=>if c=45 then -(valT 0 r:Int) else valT 0 (c::r)
theorem valI_fin : ∀ a:Fin 64,∀ b:Fin 64,valI (decI ((64 * a.val+b.val:Nat)-2048))=(64 * a.val+b.val:Nat)-2048:=by decide +kernel
theorem valI_decI {n:Int} (h1 : -2048≤n) (h2:n≤2047):valI (decI n)=n:=by
 have:=valI_fin ⟨(n+2048).toNat / 64,by omega⟩ ⟨(n+2048).toNat % 64,by omega⟩
 simp only at this
 rwa [show ((64 * ((n+2048).toNat / 64)+(n+2048).toNat % 64:Nat):Int)-2048=n by omega] at this
theorem cl_decI_fin : ∀ a:Fin 64,∀ b:Fin 64,Cl (decI ((64 * a.val+b.val:Nat)-2048)):=by decide +kernel
theorem cl_decI {n:Int} (h1 : -2048≤n) (h2:n≤2047):Cl (decI n):=by
 have:=cl_decI_fin ⟨(n+2048).toNat / 64,by omega⟩ ⟨(n+2048).toNat % 64,by omega⟩
 simp only at this
 rwa [show ((64 * ((n+2048).toNat / 64)+(n+2048).toNat % 64:Nat):Int)-2048=n by omega] at this
theorem numT_some {s:Tx} {v:Int} (h:numT s=some v):s=decI v∧-2048≤v∧v≤2047:=by
 unfold numT at h
 cases hf:(List.range 4096).find? fun (n:Nat)=>decI ((n:Int)-2048)==s with
 | none=>rw [hf] at h;simp at h
 | some k =>
  rw [hf] at h
  have h1:=List.find?_some hf
  have h2:=List.mem_of_find?_eq_some hf
  simp at h h1 h2
  subst h
  exact ⟨h1.symm,by omega,by omega⟩
theorem numT_decI {n:Int} (h1 : -2048≤n) (h2:n≤2047):numT (decI n)=some n:=by
 cases hn:numT (decI n) with
 | none =>
  unfold numT at hn
  simp only [Option.map_eq_none_iff,List.find?_eq_none,List.mem_range,beq_iff_eq] at hn
  have:=hn (n+2048).toNat (by omega)
  rw [show (((n+2048).toNat:Nat):Int)-2048=n by omega] at this
  exact absurd rfl this
 | some v =>
  obtain ⟨e,b1,b2⟩:=numT_some hn
  have:=congrArg valI e
  rw [valI_decI h1 h2,valI_decI b1 b2] at this
  rw [this]
theorem nameB_cl {x:Tx} (h:nameB x=true):Cl x∧x.length≤32:=by
 cases x with
 | nil=>simp [nameB] at h
 | cons c r =>
  simp only [nameB,Bool.and_eq_true,decide_eq_true_eq,List.all_eq_true] at h
  obtain ⟨⟨h1,h2⟩,h3⟩:=h
  have key : ∀ y:UInt8,nameC y=true→blankC y=false∧y≠44∧y≠58:=by
   intro y hy
   unfold nameC letterC digitC at hy
   simp only [Bool.or_eq_true,Bool.and_eq_true,decide_eq_true_eq,beq_iff_eq,UInt8.le_iff_toNat_le] at hy
   unfold blankC
   refine ⟨?_,?_,?_⟩
   ·simp only [Bool.or_eq_false_iff,beq_eq_false_iff_ne]
    refine ⟨⟨⟨?_,?_⟩,?_⟩,?_⟩ <;> rintro rfl <;> revert hy <;> decide
   ·rintro rfl;revert hy;decide
   ·rintro rfl;revert hy;decide
  refine ⟨⟨by simp,fun y hy=>?_⟩,by simp;omega⟩
  rcases List.mem_cons.1 hy with rfl|hy
  ·exact key y (by unfold nameC;rw [h2];rfl)
  ·exact key y (h3 y hy)
theorem regB_nat {n:Int} (h:regB n=true) : ∃ k:Nat,k<32∧n=k:=by
 unfold regB at h
 simp at h
 exact ⟨n.toNat,by omega,by omega⟩
theorem regB_of {k:Nat} (h:k<32):regB (k:Int)=true:=by unfold regB;simp;omega
theorem parse_op (O body:Tx) (hO:O≠[]∧∀ c∈O,blankC c=false) (hb:body≠[]) (hl : ∀ c,body.getLast? = some c→blankC c=false∧c≠58) (hlen:O.length+body.length≤1000) (hf:O++32::body≠[102,101,110,99,101,46,116,115,111]) :
  parseI (O++32::body)=readI O ((splitC 44 (32::body)).map trimT):=by
 obtain ⟨o,O',rfl⟩ : ∃ o O',O=o::O':=by cases O with
  | nil=>exact absurd rfl hO.1
  | cons o O'=>exact ⟨o,O',rfl⟩
 have ho:blankC o=false:=hO.2 o (by simp)
 obtain ⟨z,hz⟩ : ∃ z,body.getLast? = some z:=⟨body.getLast hb,List.getLast?_eq_some_getLast hb⟩
 have hlast:((o::O')++32::body).getLast? = some z:=by
  rw [List.getLast?_append,List.getLast?_cons,hz];rfl
 have ht:trimT ((o::O')++32::body)=(o::O')++32::body:=by
  refine trimT_clean (fun c hc=>?_) (fun c hc=>?_)
  ·simp at hc;subst hc;exact ho
  ·rw [hlast] at hc;cases hc;exact (hl z hz).1
 unfold parseI
 rw [if_neg (by simp at hlen ⊢;omega)]
 simp only [ht]
 rw [if_neg hf,if_neg (by rw [hlast];simpa using (hl z hz).2)]
 have htw:((o::O')++32::body).takeWhile (fun c=>!blankC c)=o::O':=by
  rw [List.takeWhile_append_of_pos (by intro c hc;rw [hO.2 c hc];rfl)]
  simp [show blankC 32=true by decide]
 have hdw:((o::O')++32::body).dropWhile (fun c=>!blankC c)=32::body:=by
  rw [List.dropWhile_append_of_pos (by intro c hc;rw [hO.2 c hc];rfl)]
  simp [show blankC 32=true by decide]
 rw [htw,hdw]
theorem split2 {x y:Tx} (hx:Cl x) (hy:(44:UInt8)∉y):(splitC 44 (32::(x++44::y))).map trimT = [x,trimT y]:=by
 rw [show (32::(x++44::y):Tx)=(32::x)++44::y from rfl,splitC_app 44 (32::x) y (by simp [hx.comma]),splitC_none 44 y hy]
 simp [hx.trim1]
theorem split3 {x y z:Tx} (hx:Cl x) (hy:Cl y) (hz:Cl z):(splitC 44 (32::(x++44::(y++44::z)))).map trimT = [x,y,z]:=by
 rw [show (32::(x++44::(y++44::z)):Tx)=(32::x)++44::(y++44::z) from rfl,splitC_app 44 (32::x) _ (by simp [hx.comma]),splitC_app 44 y z hy.comma,splitC_none 44 z hz.comma]
 simp [hx.trim1,hy.trim,hz.trim]
theorem last_app {x y:Tx} (hy:y≠[]):(x++y).getLast? = y.getLast?:=by
 rw [List.getLast?_append,List.getLast?_eq_some_getLast hy];rfl
theorem regT_len {n:Nat} (h:n<32):(regT n).length≤5:=by unfold regT decN;split <;> (try split) <;> (try split) <;> simp
theorem decI_len (n:Int):(decI n).length≤5:=by unfold decI decN;split <;> split <;> (try split) <;> (try split) <;> simp
theorem Cl.last58 {x:Tx} (h:Cl x) {c:UInt8} (hc:x.getLast? = some c):blankC c=false∧c≠58:=⟨h.last c hc,(h.2 c (List.mem_of_getLast? hc)).2.2⟩
theorem parse3 (O x y z:Tx) (hO:O≠[]∧∀ c∈O,blankC c=false) (hx:Cl x) (hy:Cl y) (hz:Cl z) (hlen:O.length+x.length+y.length+z.length≤900) (hf : ∀ t,O++32::t≠[102,101,110,99,101,46,116,115,111]) :
  parseI (O++32::(x++44::(y++44::z)))=readI O [x,y,z]:=by
 rw [parse_op O _ hO (by simp) (by
  intro c hc
  rw [last_app (by simp),List.getLast?_cons,last_app (by simp),List.getLast?_cons] at hc
  rw [show ((z.getLast?.getD 44)=(some ((z.getLast?.getD 44))).getD 44) from rfl] at hc
  obtain ⟨w,hw⟩ : ∃ w,z.getLast? = some w:=⟨z.getLast hz.1,List.getLast?_eq_some_getLast hz.1⟩
  simp [hw] at hc
  subst hc;exact hz.last58 hw) (by simp;omega) (hf _),split3 hx hy hz]
end Go.Proofs.YthaibjefnclkjaaGreatDoor
namespace Go.Proofs.YthaibjefnclkjaaGreatDoor
open Go.RowKit
def tx (l:Tx):ByteArray:=⟨l.toArray⟩
theorem tx_toList (l:Tx):(tx l).toList=l:=by rw [ByteArray.toList_eq];simp [tx]
theorem tx_data (l:Tx):(tx l).data.toList=l:=by simp [tx]
theorem tx_size (l:Tx):(tx l).size=l.length:=by simp [tx,ByteArray.size]
theorem tx_of (s:ByteArray) : ∃ l,s=tx l:=⟨s.data.toList,by simp [tx]⟩
theorem tx_app (a b:Tx):tx a++tx b=tx (a++b):=by
 apply ByteArray.ext;simp [tx]
theorem tx_inj {a b:Tx} : tx a=tx b↔a=b:=⟨fun h=>by have:=congrArg (fun s:ByteArray=>s.data.toList) h;simpa [tx] using this,fun h=>by rw [h]⟩
theorem tx_beq (a b:Tx):((tx a).toList==(tx b).toList)=(a==b):=by rw [tx_toList,tx_toList]
theorem tx_eq_false {a b:Tx} (h:a≠b):((tx a).toList==(tx b).toList)=false:=by rw [tx_beq];simpa using h
@[reducible] def iC (i:Ins):List Value:=[.int .i64 i.op,.int .i64 i.d,.int .i64 i.a,.int .i64 i.b,.int .i64 i.imm,.string (tx i.loc),.string (tx i.label),.int .i64 i.fence]
@[reducible] def vI (i:Ins):Value:=.agg #[.int .i64 i.op,.int .i64 i.d,.int .i64 i.a,.int .i64 i.b,.int .i64 i.imm,.string (tx i.loc),.string (tx i.label),.int .i64 i.fence]
theorem ins_ext (x y:Ins):(x=y)↔(x.op=y.op∧x.d=y.d∧x.a=y.a∧x.b=y.b∧x.imm=y.imm∧x.loc=y.loc∧x.label=y.label∧x.fence=y.fence):=by
 cases x;cases y;simp
theorem eqI (x y:Ins) (w:World):(binOp .eql 23 (vI x) (vI y)).run Tryz.prog w = .ok (.bool (decide (x=y))) w:=by
 have hS:Tryz.prog.underlying 23=some (.struct (Tryz.prog.fieldsOf 23)):=by kernel_rfl
 have hp:Tryz.prog.stoodInHeld 23=false:=by kernel_rfl
 have a3:=Tryz.isAgg3;have z3:=Tryz.sizeOf3;have u3:=Tryz.underlying3
 have a4:=Tryz.isAgg9;have z4:=Tryz.sizeOf9;have u4:=Tryz.underlying9
 rw [run_eql_struct,show (10000:Nat)=9999+1 from rfl,run_equalIn_agg w 9999 23 _ _ hS hp]
 simp only [Program.fieldsOf,Tryz.underlying23]
 go_simp
 rw [show decide (x=y)=decide (x.op=y.op∧x.d=y.d∧x.a=y.a∧x.b=y.b∧x.imm=y.imm∧x.loc=y.loc∧x.label=y.label∧x.fence=y.fence) from decide_eq_decide.2 (ins_ext x y)]
 simp only [tx_toList]
 by_cases h1:x.op=y.op <;> by_cases h2:x.d=y.d <;> by_cases h3:x.a=y.a <;> by_cases h4:x.b=y.b <;> by_cases h5:x.imm=y.imm <;> by_cases h6:x.loc=y.loc <;> by_cases h7:x.label=y.label <;> by_cases h8:x.fence=y.fence <;> simp [h1,h2,h3,h4,h5,h6,h7,h8]
theorem neqI (x y:Ins) (w:World):(binOp .neq 23 (vI x) (vI y)).run Tryz.prog w = .ok (.bool (!decide (x=y))) w:=by
 have h:=eqI x y w
 rw [run_eql_struct] at h
 rw [run_neq_struct]
 generalize (Op.equalIn 10000 23 (.agg #[.int .i64 x.op,.int .i64 x.d,.int .i64 x.a,.int .i64 x.b,.int .i64 x.imm,.string (tx x.loc),.string (tx x.label),.int .i64 x.fence]) (.agg #[.int .i64 y.op,.int .i64 y.d,.int .i64 y.a,.int .i64 y.b,.int .i64 y.imm,.string (tx y.loc),.string (tx y.label),.int .i64 y.fence])).run Tryz.prog w=r at *
 cases r with
 | ok b w'=>simp [Result.andThen] at h ⊢;obtain ⟨rfl,rfl⟩:=h;exact ⟨rfl,rfl⟩
 | halt x w'=>simp [Result.andThen] at h
def BxI (w:World) (b:Nat) (i:Ins):Prop:=b<w.heap.size∧∀ k,k<8→w.cell? ⟨b,k,none⟩=(iC i)[k]?
abbrev mkI (i:Ins):Obj:=.cells #[.int .i64 i.op,.int .i64 i.d,.int .i64 i.a,.int .i64 i.b,.int .i64 i.imm,.string (tx i.loc),.string (tx i.label),.int .i64 i.fence] 23
theorem BxI.below {w w':World} {b:Nat} {i:Ins} (h:BxI w b i) (hb:Below w.heap.size w w'):BxI w' b i :=
 ⟨Nat.lt_of_lt_of_le h.1 hb.size,fun k hk=>by rw [hb.cell (p:=⟨b,k,none⟩) h.1];exact h.2 k hk⟩
theorem BxI.new (w:World) (i:Ins):BxI (w.alloc (mkI i)) w.heap.size i :=
 ⟨by simp,fun k hk=>by
  have hh:=heap_alloc_new w (mkI i)
  simp only [World.cell?,hh]
  simp [iC]⟩
theorem BxI.cells {w:World} {b:Nat} {i:Ins} (h:BxI w b i):w.cell? ⟨b,0,none⟩=some (.int .i64 i.op)∧w.cell? ⟨b,1,none⟩=some (.int .i64 i.d)∧w.cell? ⟨b,2,none⟩=some (.int .i64 i.a)∧w.cell? ⟨b,3,none⟩=some (.int .i64 i.b)∧w.cell? ⟨b,4,none⟩=some (.int .i64 i.imm)∧w.cell? ⟨b,5,none⟩=some (.string (tx i.loc))∧w.cell? ⟨b,6,none⟩=some (.string (tx i.label))∧w.cell? ⟨b,7,none⟩=some (.int .i64 i.fence) :=
 ⟨h.2 0 (by omega),h.2 1 (by omega),h.2 2 (by omega),h.2 3 (by omega),h.2 4 (by omega),h.2 5 (by omega),h.2 6 (by omega),h.2 7 (by omega)⟩
theorem al (w:World) (o:Obj):Below w.heap.size w (w.alloc o):=(Below.refl _ _).alloc (Nat.le_refl _) _
theorem bel_alloc {w w':World} (h:Below w.heap.size w w') (o:Obj):Below w.heap.size w (w'.alloc o):=h.alloc h.size o
theorem bel_drew {w w':World} (h:Below w.heap.size w w'):Below w.heap.size w w'.drew:=h.trans ((below_drewN w' 1).mono h.size)
theorem bel_set {w w':World} {p:Addr} (h:Below w.heap.size w w') (hp:w.heap.size≤p.block) (v:Value):Below w.heap.size w (w'.setCell p v):=h.setCell hp v
theorem blA {n:Nat} {w w':World} (h:Below n w w':=by repeat (first|with_reducible assumption|with_reducible exact Below.refl _ _|with_reducible refine bel_alloc ?_ _|with_reducible refine bel_drew ?_|with_reducible refine bel_set ?_ (by dsimp only;omega) _)):Below n w w':=h
theorem ret_pair {k k':IntKind} {a b c d:Int} (h:a=c) (h':b=d):Ending.returned (.tuple #[.int k a,.int k' b]) = .returned (.tuple #[.int k c,.int k' d]):=by rw [h,h']
theorem ret_str {a b:ByteArray} (h:a=b):Ending.returned (.string a) = .returned (.string b):=by rw [h]
theorem ret_spair {k':IntKind} {a c:ByteArray} {b d:Int} (h:a=c) (h':b=d):Ending.returned (.tuple #[.string a,.int k' b]) = .returned (.tuple #[.string c,.int k' d]):=by rw [h,h']
end Go.Proofs.YthaibjefnclkjaaGreatDoor
namespace Go.Proofs.YthaibjefnclkjaaGreatDoor
theorem decDigits_decN {n:Nat} (h:n<10000):Lib.decDigits n=decN n:=by
 have step : ∀ n,¬ n<10→Lib.decDigits n=Lib.decDigits (n / 10)++[dgt n]:=fun n hn=>by rw [Lib.decDigits,dif_neg hn];rfl
 have one : ∀ n,n<10→Lib.decDigits n = [dgt n]:=fun n hn=>by rw [Lib.decDigits,dif_pos hn];unfold dgt;rw [Nat.mod_eq_of_lt hn]
 unfold decN
 split
 ·rename_i h1;exact one n h1
 ·rename_i h1
  split
  ·rename_i h2;rw [step n h1,one _ (by omega)];rfl
  ·rename_i h2
   split
   ·rename_i h3;rw [step n h1,step _ (by omega),one _ (by omega),Nat.div_div_eq_div_mul];rfl
   ·rename_i h3;rw [step n h1,step _ (by omega),step _ (by omega),one _ (by omega),Nat.div_div_eq_div_mul n 10 10,Nat.div_div_eq_div_mul];rfl
theorem itoa_decI {n:Int} (h1 : -10000<n) (h2:n<10000):Lib.itoa n=decI n:=by
 unfold Lib.itoa decI
 split
 ·rw [decDigits_decN (by omega)]
 ·rw [decDigits_decN (by omega)]
end Go.Proofs.YthaibjefnclkjaaGreatDoor
namespace Go.Proofs.YthaibjefnclkjaaGreatDoor
open Go.Shelf
def Tryz.l160_ren:Go.Shelf.Ren:=⟨fun|160=>45|232=>79|231=>78|227=>80|234=>82|233=>81|236=>84|235=>83|228=>119|271=>122|151=>121|197=>120|120=>160|152=>159|260=>158|137=>187|119=>188|224=>189|225=>190|217=>201|266=>215|n=>n,fun|9=>9|4=>4|3=>3|5=>5|117=>103|116=>102|0=>0|124=>106|21=>21|105=>131|46=>128|119=>183|139=>186|138=>185|n=>n,fun|3=>2|4=>3|n=>n⟩
theorem Tryz.l160:Go.Proofs.Lays.n160 Tryz.prog Tryz.l160_ren:={
 mixed:=by kernel_rfl
 f119:=Tryz.func188.trans (congrArg some (by kernel_rfl))
 f120:=Tryz.func160.trans (congrArg some (by kernel_rfl))
 f137:=Tryz.func187.trans (congrArg some (by kernel_rfl))
 f151:=Tryz.func121.trans (congrArg some (by kernel_rfl))
 f152:=Tryz.func159.trans (congrArg some (by kernel_rfl))
 f160:=Tryz.func45.trans (congrArg some (by kernel_rfl))
 f197:=Tryz.func120.trans (congrArg some (by kernel_rfl))
 f217:=Tryz.func201.trans (congrArg some (by kernel_rfl))
 f224:=Tryz.func189.trans (congrArg some (by kernel_rfl))
 f225:=Tryz.func190.trans (congrArg some (by kernel_rfl))
 f227:=Tryz.func80.trans (congrArg some (by kernel_rfl))
 f228:=Tryz.func119.trans (congrArg some (by kernel_rfl))
 f231:=Tryz.func78.trans (congrArg some (by kernel_rfl))
 f232:=Tryz.func79.trans (congrArg some (by kernel_rfl))
 f233:=Tryz.func81.trans (congrArg some (by kernel_rfl))
 f234:=Tryz.func82.trans (congrArg some (by kernel_rfl))
 f235:=Tryz.func83.trans (congrArg some (by kernel_rfl))
 f236:=Tryz.func84.trans (congrArg some (by kernel_rfl))
 f260:=Tryz.func158.trans (congrArg some (by kernel_rfl))
 f266:=Tryz.func215.trans (congrArg some (by kernel_rfl))
 f271:=Tryz.func122.trans (congrArg some (by kernel_rfl))
 t0:=Tryz.underlying0
 a0:=Tryz.isAgg0
 z0:=Tryz.sizeOf0
 v0:=Tryz.zeroValue0
 t3:=Tryz.underlying3
 a3:=Tryz.isAgg3
 z3:=Tryz.sizeOf3
 v3:=Tryz.zeroValue3
 t4:=Tryz.underlying4
 a4:=Tryz.isAgg4
 z4:=Tryz.sizeOf4
 v4:=Tryz.zeroValue4
 t5:=Tryz.underlying5
 a5:=Tryz.isAgg5
 z5:=Tryz.sizeOf5
 v5:=Tryz.zeroValue5
 t9:=Tryz.underlying9
 a9:=Tryz.isAgg9
 z9:=Tryz.sizeOf9
 v9:=Tryz.zeroValue9
 t21:=Tryz.underlying21
 a21:=Tryz.isAgg21
 z21:=Tryz.sizeOf21
 v21:=Tryz.zeroValue21
 t46:=Tryz.underlying128
 a46:=Tryz.isAgg128
 z46:=Tryz.sizeOf128
 v46:=Tryz.zeroValue128
 t105:=Tryz.underlying131
 a105:=Tryz.isAgg131
 z105:=Tryz.sizeOf131
 v105:=Tryz.zeroValue131
 t116:=Tryz.underlying102
 a116:=Tryz.isAgg102
 z116:=Tryz.sizeOf102
 t117:=Tryz.underlying103
 a117:=Tryz.isAgg103
 z117:=Tryz.sizeOf103
 v117:=Tryz.zeroValue103
 t119:=Tryz.underlying183
 a119:=Tryz.isAgg183
 z119:=Tryz.sizeOf183
 t124:=Tryz.underlying106
 a124:=Tryz.isAgg106
 z124:=Tryz.sizeOf106
 v124:=Tryz.zeroValue106
 t138:=Tryz.underlying185
 a138:=Tryz.isAgg185
 z138:=Tryz.sizeOf185
 v138:=Tryz.zeroValue185
 t139:=Tryz.underlying186
 a139:=Tryz.isAgg186
 z139:=Tryz.sizeOf186
 v139:=Tryz.zeroValue186
 g3:=by kernel_rfl
 g4:=by kernel_rfl }
def Tryz.l171_ren:Go.Shelf.Ren:=⟨fun|171=>30|243=>67|246=>105|283=>136|284=>137|285=>138|286=>139|129=>156|317=>171|318=>172|319=>173|320=>174|337=>195|338=>196|n=>n,fun|3=>3|9=>9|2=>2|4=>4|171=>143|0=>0|53=>144|37=>54|5=>5|173=>147|212=>171|51=>161|20=>20|213=>172|46=>128|232=>200|233=>201|n=>n,fun|17=>1|18=>5|19=>6|n=>n⟩
theorem Tryz.l171:Go.Proofs.Lays.n171 Tryz.prog Tryz.l171_ren:={
 mixed:=by kernel_rfl
 f129:=Tryz.func156.trans (congrArg some (by kernel_rfl))
 f171:=Tryz.func30.trans (congrArg some (by kernel_rfl))
 f243:=Tryz.func67.trans (congrArg some (by kernel_rfl))
 f246:=Tryz.func105.trans (congrArg some (by kernel_rfl))
 f283:=Tryz.func136.trans (congrArg some (by kernel_rfl))
 f284:=Tryz.func137.trans (congrArg some (by kernel_rfl))
 f285:=Tryz.func138.trans (congrArg some (by kernel_rfl))
 f286:=Tryz.func139.trans (congrArg some (by kernel_rfl))
 f317:=Tryz.func171.trans (congrArg some (by kernel_rfl))
 f318:=Tryz.func172.trans (congrArg some (by kernel_rfl))
 f319:=Tryz.func173.trans (congrArg some (by kernel_rfl))
 f320:=Tryz.func174.trans (congrArg some (by kernel_rfl))
 f337:=Tryz.func195.trans (congrArg some (by kernel_rfl))
 f338:=Tryz.func196.trans (congrArg some (by kernel_rfl))
 t0:=Tryz.underlying0
 a0:=Tryz.isAgg0
 z0:=Tryz.sizeOf0
 v0:=Tryz.zeroValue0
 t2:=Tryz.underlying2
 a2:=Tryz.isAgg2
 z2:=Tryz.sizeOf2
 v2:=Tryz.zeroValue2
 t3:=Tryz.underlying3
 a3:=Tryz.isAgg3
 z3:=Tryz.sizeOf3
 v3:=Tryz.zeroValue3
 t4:=Tryz.underlying4
 a4:=Tryz.isAgg4
 z4:=Tryz.sizeOf4
 v4:=Tryz.zeroValue4
 t5:=Tryz.underlying5
 a5:=Tryz.isAgg5
 z5:=Tryz.sizeOf5
 v5:=Tryz.zeroValue5
 t9:=Tryz.underlying9
 a9:=Tryz.isAgg9
 z9:=Tryz.sizeOf9
 v9:=Tryz.zeroValue9
 t20:=Tryz.underlying20
 a20:=Tryz.isAgg20
 z20:=Tryz.sizeOf20
 v20:=Tryz.zeroValue20
 t37:=Tryz.underlying54
 a37:=Tryz.isAgg54
 z37:=Tryz.sizeOf54
 v37:=Tryz.zeroValue54
 t46:=Tryz.underlying128
 a46:=Tryz.isAgg128
 z46:=Tryz.sizeOf128
 v46:=Tryz.zeroValue128
 t51:=Tryz.underlying161
 a51:=Tryz.isAgg161
 z51:=Tryz.sizeOf161
 v51:=Tryz.zeroValue161
 t53:=Tryz.underlying144
 a53:=Tryz.isAgg144
 z53:=Tryz.sizeOf144
 v53:=Tryz.zeroValue144
 t171:=Tryz.underlying143
 a171:=Tryz.isAgg143
 z171:=Tryz.sizeOf143
 v171:=Tryz.zeroValue143
 t173:=Tryz.underlying147
 a173:=Tryz.isAgg147
 z173:=Tryz.sizeOf147
 v173:=Tryz.zeroValue147
 t212:=Tryz.underlying171
 a212:=Tryz.isAgg171
 z212:=Tryz.sizeOf171
 v212:=Tryz.zeroValue171
 t213:=Tryz.underlying172
 a213:=Tryz.isAgg172
 z213:=Tryz.sizeOf172
 t232:=Tryz.underlying200
 a232:=Tryz.isAgg200
 z232:=Tryz.sizeOf200
 v232:=Tryz.zeroValue200
 t233:=Tryz.underlying201
 a233:=Tryz.isAgg201
 z233:=Tryz.sizeOf201
 v233:=Tryz.zeroValue201
 g17:=by kernel_rfl
 g18:=by kernel_rfl
 g19:=by kernel_rfl }
def Tryz.m171_ren:Go.Shelf.Ren:=⟨fun|171=>30|243=>67|246=>105|283=>136|284=>137|285=>138|286=>139|129=>156|317=>171|318=>172|319=>173|320=>174|337=>195|338=>196|n=>n,fun|3=>3|9=>9|2=>2|4=>4|171=>143|0=>0|53=>144|37=>54|5=>5|173=>147|212=>171|51=>161|20=>20|213=>172|46=>128|232=>200|233=>201|n=>n,fun|17=>1|18=>5|19=>6|n=>n⟩
theorem Tryz.m171:Go.Proofs.LaysM.n171 Tryz.prog Tryz.m171_ren:={
 mixed:=by kernel_rfl
 f129:=Tryz.func156.trans (congrArg some (by kernel_rfl))
 f171:=Tryz.func30.trans (congrArg some (by kernel_rfl))
 f243:=Tryz.func67.trans (congrArg some (by kernel_rfl))
 f246:=Tryz.func105.trans (congrArg some (by kernel_rfl))
 f283:=Tryz.func136.trans (congrArg some (by kernel_rfl))
 f284:=Tryz.func137.trans (congrArg some (by kernel_rfl))
 f285:=Tryz.func138.trans (congrArg some (by kernel_rfl))
 f286:=Tryz.func139.trans (congrArg some (by kernel_rfl))
 f317:=Tryz.func171.trans (congrArg some (by kernel_rfl))
 f318:=Tryz.func172.trans (congrArg some (by kernel_rfl))
 f319:=Tryz.func173.trans (congrArg some (by kernel_rfl))
 f320:=Tryz.func174.trans (congrArg some (by kernel_rfl))
 f337:=Tryz.func195.trans (congrArg some (by kernel_rfl))
 f338:=Tryz.func196.trans (congrArg some (by kernel_rfl))
 t0:=Tryz.underlying0
 a0:=Tryz.isAgg0
 z0:=Tryz.sizeOf0
 v0:=Tryz.zeroValue0
 t2:=Tryz.underlying2
 a2:=Tryz.isAgg2
 z2:=Tryz.sizeOf2
 v2:=Tryz.zeroValue2
 t3:=Tryz.underlying3
 a3:=Tryz.isAgg3
 z3:=Tryz.sizeOf3
 v3:=Tryz.zeroValue3
 t4:=Tryz.underlying4
 a4:=Tryz.isAgg4
 z4:=Tryz.sizeOf4
 v4:=Tryz.zeroValue4
 t5:=Tryz.underlying5
 a5:=Tryz.isAgg5
 z5:=Tryz.sizeOf5
 v5:=Tryz.zeroValue5
 t9:=Tryz.underlying9
 a9:=Tryz.isAgg9
 z9:=Tryz.sizeOf9
 v9:=Tryz.zeroValue9
 t20:=Tryz.underlying20
 a20:=Tryz.isAgg20
 z20:=Tryz.sizeOf20
 v20:=Tryz.zeroValue20
 t37:=Tryz.underlying54
 a37:=Tryz.isAgg54
 z37:=Tryz.sizeOf54
 v37:=Tryz.zeroValue54
 t46:=Tryz.underlying128
 a46:=Tryz.isAgg128
 z46:=Tryz.sizeOf128
 v46:=Tryz.zeroValue128
 t51:=Tryz.underlying161
 a51:=Tryz.isAgg161
 z51:=Tryz.sizeOf161
 v51:=Tryz.zeroValue161
 t53:=Tryz.underlying144
 a53:=Tryz.isAgg144
 z53:=Tryz.sizeOf144
 v53:=Tryz.zeroValue144
 t171:=Tryz.underlying143
 a171:=Tryz.isAgg143
 z171:=Tryz.sizeOf143
 v171:=Tryz.zeroValue143
 t173:=Tryz.underlying147
 a173:=Tryz.isAgg147
 z173:=Tryz.sizeOf147
 v173:=Tryz.zeroValue147
 t212:=Tryz.underlying171
 a212:=Tryz.isAgg171
 z212:=Tryz.sizeOf171
 v212:=Tryz.zeroValue171
 t213:=Tryz.underlying172
 a213:=Tryz.isAgg172
 z213:=Tryz.sizeOf172
 t232:=Tryz.underlying200
 a232:=Tryz.isAgg200
 z232:=Tryz.sizeOf200
 v232:=Tryz.zeroValue200
 t233:=Tryz.underlying201
 a233:=Tryz.isAgg201
 z233:=Tryz.sizeOf201
 v233:=Tryz.zeroValue201
 g17:=by kernel_rfl
 g18:=by kernel_rfl
 g19:=by kernel_rfl
 i0:=by kernel_rfl
 i2:=by kernel_rfl
 i3:=by kernel_rfl
 i4:=by kernel_rfl
 i5:=by kernel_rfl
 i9:=by kernel_rfl
 i20:=by kernel_rfl
 i37:=by kernel_rfl
 i46:=by kernel_rfl
 i51:=by kernel_rfl
 i53:=by kernel_rfl
 i171:=by kernel_rfl
 i173:=by kernel_rfl
 i212:=by kernel_rfl
 i232:=by kernel_rfl
 i233:=by kernel_rfl
 m17:=by kernel_rfl
 m18:=by kernel_rfl
 m19:=by kernel_rfl }
def Tryz.l106_ren:Go.Shelf.Ren:=⟨fun|106=>194|213=>212|265=>219|n=>n,fun|9=>9|3=>3|n=>n,fun|n=>n⟩
theorem Tryz.l106:Go.Proofs.Lays.n106 Tryz.prog Tryz.l106_ren:={
 mixed:=by kernel_rfl
 f106:=Tryz.func194.trans (congrArg some (by kernel_rfl))
 f213:=Tryz.func212.trans (congrArg some (by kernel_rfl))
 f265:=Tryz.func219.trans (congrArg some (by kernel_rfl))
 t3:=Tryz.underlying3
 a3:=Tryz.isAgg3
 z3:=Tryz.sizeOf3
 v3:=Tryz.zeroValue3
 t9:=Tryz.underlying9
 a9:=Tryz.isAgg9
 z9:=Tryz.sizeOf9
 v9:=Tryz.zeroValue9 }
end Go.Proofs.YthaibjefnclkjaaGreatDoor
namespace Go.Proofs.YthaibjefnclkjaaGreatDoor
def namesX:List Tx:=[[69,65,88],[69,66,88],[69,67,88],[69,68,88],[69,83,73],[69,68,73],[69,66,80],[82,56,68],[82,57,68],[82,49,48,68],[82,49,49,68],[82,49,50,68],[82,49,51,68],[82,49,52,68],[82,49,53,68]]
def regX (n:Nat):Tx:=namesX.getD n []
def rX (n:Int):Tx:=regX n.toNat
def regXB (n:Int):Bool:=decide (0≤n)&&decide (n<15)
def n32B (n:Int):Bool:=decide (-2147483648≤n)&&decide (n≤2147483647)
def wantX (i:Ins):Ins :=
 if i.op=1 then ⟨1,0,0,0,i.imm,i.loc,[],0⟩
 else if i.op=2 then ⟨2,0,i.a,0,0,i.loc,[],0⟩
 else if i.op=3 then ⟨3,i.d,0,0,0,i.loc,[],0⟩
 else if i.op=4 then ⟨4,i.d,0,0,i.imm,[],[],0⟩
 else ⟨i.op,0,0,0,0,[],[],0⟩
def okX (i:Ins):Bool :=
 if i.op=1 then nameB i.loc&&n32B i.imm
 else if i.op=2 then nameB i.loc&&regXB i.a
 else if i.op=3 then nameB i.loc&&regXB i.d
 else if i.op=4 then regXB i.d&&n32B i.imm
 else decide (i.op=5)
def checkX (i:Ins):Bool:=okX i&&decide (i=wantX i)
def errX (i:Ins):Int:=if checkX i then 0 else 91
def printX (i:Ins):Tx :=
 if i.op=1 then [77,79,86,32,91]++i.loc++[93,44,36]++Lib.itoa i.imm
 else if i.op=2 then [77,79,86,32,91]++i.loc++[93,44]++rX i.a
 else if i.op=3 then [77,79,86,32]++rX i.d++[44,91]++i.loc++[93]
 else if i.op=4 then [77,79,86,32]++rX i.d++[44,36]++Lib.itoa i.imm
 else [77,70,69,78,67,69]
theorem regXB_nat {n:Int} (h:regXB n=true) : ∃ k:Nat,k<15∧n=k:=by
 unfold regXB at h;simp at h;exact ⟨n.toNat,by omega,by omega⟩
theorem regX_len_fin : ∀ n:Fin 15,(regX n.val).length≤4∧regX n.val≠[]:=by decide +kernel
theorem regX_len {n:Nat} (h:n<15):(regX n).length≤4:=(regX_len_fin ⟨n,h⟩).1
theorem errX_no {i:Ins} (h:checkX i=false):errX i=91:=by unfold errX;rw [h];rfl
theorem errX_yes {i:Ins} (h:checkX i=true):errX i=0:=by unfold errX;rw [h];rfl
end Go.Proofs.YthaibjefnclkjaaGreatDoor
namespace Go.Proofs.YthaibjefnclkjaaGreatDoor
open Go.RowKit Go.Sort
theorem below_grow (w:World) (k:Nat) (os:Array Obj):Below w.heap.size w (grow (w.drewN k) os) :=
 ⟨rfl,rfl,rfl,by simp [grow],fun j hj=>by simp [grow,Array.getElem?_append,hj]⟩
noncomputable def powN:String:=(Tryz.prog.globals.getD 1 default).name
structure Gl (w:World):Prop where
 pow:Lib.TabIs Tryz.prog w powN .u64 Lib.pow10Tab
 regs : ∀ k,k<15→w.cell? ⟨0,k,none⟩=some (.string (tx (regX k)))
theorem var?_lt {P:Program} {w:World} {n:String} {g:Nat} {cs:Array Value} (hg:P.globalNamed n=some g) (h:w.var? P n=some cs):g<w.heap.size:=by
 simp only [World.var?,hg,Option.bind_some] at h
 rcases Nat.lt_or_ge g w.heap.size with h'|h'
 ·exact h'
 ·rw [Array.getElem?_eq_none h'] at h;cases h
theorem Gl.below {w w':World} (h:Gl w) (hb:Below w.heap.size w w'):Gl w' where
 pow:=var?_below hb (by kernel_rfl:Tryz.prog.globalNamed powN=some 1) (var?_lt (by kernel_rfl:Tryz.prog.globalNamed powN=some 1) h.pow) h.pow
 regs:=fun k hk=>by rw [hb.cell (cell?_lt (h.regs k hk))];exact h.regs k hk
theorem itoa_small (n:Nat) (h:n<100) (w:World):Calls Tryz.prog 30 #[.int .i64 n] w fun e w'=>e = .returned (.string (tx (decN n)))∧w=w':=by
 refine (Any.strconv_Itoa_small Tryz.l171 n h w).mono fun e w' hh=>⟨?_,hh.2.symm⟩
 rw [hh.1,decDigits_decN (by omega)];rfl
theorem itoa_any (n:Int) (h0 : -9223372036854775808≤n) (h1:n≤9223372036854775807) (w:World) (g:Gl w):Calls Tryz.prog 30 #[.int .i64 n] w (Ret w (.string (tx (Lib.itoa n)))):=by
 refine (Any.strconv_Itoa Tryz.m171 n h0 h1 w (Eq.mp (congrArg (fun s=>Lib.TabIs Tryz.prog w s .u64 Lib.pow10Tab) (by kernel_rfl)) g.pow)).mono fun e w' hh=>?_
 obtain ⟨he,k,os,rfl⟩:=hh
 exact ⟨he,below_grow w k os⟩
structure Txs (w:World) (a:Option Addr) (l:List Tx):Prop where
 row:Row w a (l.map fun x=>Value.string (tx x))
 len:l.length≤1000000000000000000
theorem Txs.below {w w':World} {a:Option Addr} {l:List Tx} (h:Txs w a l) (hb:Below w.heap.size w w'):Txs w' a l:=⟨h.row.below hb,h.len⟩
theorem Txs.cell {w:World} {a:Option Addr} {l:List Tx} (h:Txs w a l) (k:Nat) (hk:k<l.length):w.cell? ⟨bk a,fo a+k,none⟩=some (.string (tx l[k])):=by
 have:=h.row.cell k (by simpa using hk)
 simpa [hk] using this
theorem txl:ElT Tryz.prog 44 9 (.string ByteArray.empty) 1 16:=⟨Tryz.underlying44,by kernel_rfl,rfl,by decide⟩
theorem Txs.idx {w:World} {a:Option Addr} {l:List Tx} (h:Txs w a l) (k:Nat) (hk:k<l.length) :
  ∀ c w',(Instr.indexAt 44 (.slice a l.length c) (.int .i64 k)).run Tryz.prog w' = .ok (.pointer (some ⟨bk a,fo a+k,none⟩)) w':=by
 intro c
 have:=run_idx (c:=c) (n:=l.length) (m:=1) h.row txl.und txl.cells txl.isSome (by simp) (by omega) k hk .i64
 simpa using this
theorem run_cat (a b:Tx) (h:a.length+b.length≤9223372036854775807) : ∀ w,(Op.stringOp .add (tx a) (tx b)).run Tryz.prog w = .ok (.string (tx (a++b))) w:=fun w=>by
 rw [run_string_add_sum w _ _ (by rw [tx_size,tx_size];exact h),tx_app]
end Go.Proofs.YthaibjefnclkjaaGreatDoor
namespace Go.Proofs.YthaibjefnclkjaaGreatDoor
open Go.RowKit Go.ChangeShapes
theorem wrapS {H : Type} {enc : TypeId × Value → H} {a : Assume} {C : Checked} {os : Os} {f : FuncId} {fn : Func} {s : ChangeSpec} {conds : List PathCond} {apart fresh handsOn again : Bool} {X : World → Array Value → Prop}
    (hX : ∀ (w w' : World) (args : Array Value), w.heap = w'.heap → X w args → X w' args)
    (own : ownKnob C.prog.godebug = none) (started : os.Started) (noInit : C.prog.inits.idxOf? f = none) (hfn : C.prog.funcs[f]? = some fn)
    (witness : ∃ (w : World) (tape : Tape) (i : Input), w.os = os ∧ (w.forCall tape i).Shaped C.prog ∧ i.vars = [] ∧ Input.okWide C.prog (w.forCall tape i) .any w.heap.size f i ∧
      ((s.pre enc C.prog fn conds apart (w.forCall tape i).memory i.args ∧ X (w.forCall tape i).memory i.args) ∧ sizedMet enc C.prog fn (OpenSpec.ofChange s) apart (w.forCall tape i).memory i.args) ∧ a.holds C.prog (lone (Frame.enter C.prog f i.args .normal) [] (w.forCall tape i)))
    (contract : ∀ (W : World) (base : Nat) (args : Array Value) (ds gs : List (DataW H)) (before : List MemPlace),
      (∀ (j : Nat) t v, fn.params[j]? = some t → args[j]? = some v → Value.okWide C.prog W .any base t v) →
      DataW.Whole enc C.prog fn.params.toList s.vars apart W args.toList ds gs before →
      (DataW.weightsEach C.prog (fn.params.toList ++ s.plain.varTypes C.prog) (ds ++ gs)).all (· ≤ reachBytes) = true → X W args → W.ShapedOpen C.prog →
      Calls C.prog f args W fun e W' => ∃ v, e = .returned v ∧ s.post enc C.prog fn apart fresh handsOn again W args v W') :
    ReturnsInHanded a C os f .any (fun w args => (s.pre enc C.prog fn conds apart w args ∧ X w args) ∧ sizedMet enc C.prog fn (OpenSpec.ofChange s) apart w args) (s.post enc C.prog fn apart fresh handsOn again) := by
  refine returnsInHanded_of_calls own started noInit witness ?_
  intro w tape i _ hsh _ hok hpre _
  obtain ⟨_, _, _, fn', hfn', _, _, _, _, hval⟩ := hok
  obtain rfl : fn' = fn := Option.some.inj (hfn'.symm.trans hfn)
  obtain ⟨⟨⟨ds, gs, before, hw, hc⟩, hx⟩, hz⟩ := hpre
  have hw' := DataW.Whole.of_heap (w' := w.forCall tape i) (by rfl) hw
  refine (contract (w.forCall tape i) w.heap.size i.args ds gs before hval hw' (hz.weights hw) (hX _ _ _ (by rfl) hx) hsh).mono fun e W' ⟨v, he, hp⟩ => ?_
  subst he
  exact ChangeSpec.post_blind hp
def regsD:DataW Unit:=.agg (namesX.map fun s=>.lit (.string s))
theorem gl_of_laid13 {W:World} {x0 x1 x3:String × DataW Unit} {r:List (String × DataW Unit)} {npow nregs:String}
  (h1:Tryz.prog.globalNamed npow=some 1) (hn1:npow=powN) (h2:Tryz.prog.globalNamed nregs=some 0)
  (hL:laidMet Tryz.prog (x0::x1::(npow,Lib.tabData .u64 Lib.pow10Tab)::x3::(nregs,regsD)::r) W):Gl W:=by
 subst hn1
 refine ⟨Lib.tabIs_of_head h1 (t:=171) (e:=144) (n:=20) (by kernel_rfl) Tryz.underlying171 Tryz.underlying144 (by kernel_rfl) (by kernel_rfl) hL.tail.tail,fun k hk=>?_⟩
 obtain ⟨g,t,cs,fuel,p,hg,hty,hvar,hd⟩:=Lib.laidMet.reads hL.tail.tail.tail.tail (List.Mem.head _)
 obtain rfl:=Option.some.inj (h2.symm.trans hg)
 obtain rfl:85=t:=Option.some.inj ((show (Tryz.prog.globals[0]?).map (·.type)=some 85 by kernel_rfl).symm.trans hty)
 unfold regsD at hd
 obtain ⟨f',d,q,hdi,he⟩:=Lib.array_elem (n:=15) Tryz.underlying85 hd k hk
 have h1:Tryz.prog.cellsOf 9=1:=by kernel_rfl
 rw [h1,Nat.mul_one] at he
 have hlen:k<cs.toList.length:=by
  rcases Nat.lt_or_ge k cs.toList.length with h|h
  ·exact h
  ·rw [List.drop_eq_nil_of_le h] at he
   cases f' with
   | zero=>simp [DataW.trod] at he
   | succ f'=>simp [DataW.trod,Tryz.underlying9] at he
 rw [List.drop_eq_getElem_cons hlen,List.take_succ_cons,List.take_zero] at he
 obtain ⟨s,hs,h3,-⟩:=DataW.trod_string Tryz.underlying9 he
 have:=World.var?_cell hg hvar k
 rw [this,← Array.getElem?_toList,List.getElem?_eq_getElem hlen]
 simp only [List.cons.injEq,and_true] at hs
 simp only [Prod.mk.injEq] at h3
 rw [hs]
 rw [h3.1,List.getElem?_map] at hdi
 have hn:namesX[k]? = some s.data.toList:=by
  cases h:namesX[k]? with
  | none=>rw [h] at hdi;cases hdi
  | some y=>rw [h] at hdi;simp at hdi;rw [hdi]
 have:regX k=s.data.toList:=by unfold regX;rw [List.getD_eq_getElem?_getD,hn];rfl
 rw [this]
 simp [tx]
end Go.Proofs.YthaibjefnclkjaaGreatDoor
