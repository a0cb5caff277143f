/- What a test's file is: which tests may be, their locations, their table, their text. Plain lists; no program, no condition. Names put into a rising list, one by one. Plain lists; no program, no condition. A test's names, gathered step by step. Plain lists; no program, no condition. Tests in memory: read. Lemmas of this claim's own; no condition. Rows written over in place: several cells at once, clear. Lemmas of this claim's own; no condition. Rows of elements of several cells that are the call's own: written over in place, an end cleared. Lemmas of this claim's own; no condition. -/
import Derived.Test.YthaibjefnclkjaaGreatDoorAp5
import Derived.Laws.IdiomCopy
set_option linter.unusedVariables false
namespace Go.Proofs.YthaibjefnclkjaaGreatDoor
structure Ini where
 thread:Int
 reg:Int
 loc:Tx
 vloc:Tx
 n:Int
deriving DecidableEq
structure Cd where
 a:Option Addr
 c:Nat
 l:List Ins
structure Tst where
 arch:Int
 name:Tx
 cycle:Tx
 ia:Option Addr
 ic:Nat
 init:List Ini
 ca:Option Addr
 cc:Nat
 code:List Cd
 q:Int
 node:Nd
def showC (lo:Nat) (b:UInt8):Bool:=decide (lo≤b.toNat)&&(decide (b.toNat≤126)&&decide (b.toNat≠34))
def showB (lo:Nat) (s:Tx):Bool:=s.all (showC lo)
def titleB (s:Tx):Bool:=decide (1≤s.length)&&(decide (s.length≤1024)&&showB 33 s)
def flushB (s:Tx):Bool:=s.isEmpty || (s.head? != some 32&&s.getLast? != some 32)
def cycleB (s:Tx):Bool:=decide (s.length≤262144)&&(showB 32 s&&flushB s)
theorem showB_step {lo:Nat} {l:Tx} {k:Nat} {c:UInt8} (h:l[k]? = some c) (hn:showC lo c=false):showB lo l=false:=by
 unfold showB
 rw [Bool.eq_false_iff]
 intro h2
 rw [List.all_eq_true] at h2
 rw [h2 c (List.mem_of_getElem? h)] at hn
 cases hn
theorem showB_done {lo:Nat} {l:Tx} (h : ∀ (i:Nat) (x:UInt8),l[i]? = some x→showC lo x=true):showB lo l=true:=by
 unfold showB
 rw [List.all_eq_true]
 intro x hx
 obtain ⟨i,hi⟩:=List.mem_iff_getElem?.1 hx
 exact h i x hi
def cellI (arch:Int) (i:Ins):Tx × Int :=
 if arch=1 then (if checkX i then (printX i,0) else ([],91)) else if arch=2 then (if checkI i then (printI i,0) else ([],91)) else ([],5)
def insA (arch:Int) (i:Ins):Bool:=if arch=1 then checkX i else checkI i
def rowE (arch:Int) (l:List Ins):Int:=if l.all (insA arch) then (if arch=2 then (linksV l).2.1 else 0) else 91
def rowsE (arch:Int):List Cd→Int
 | []=>0
 | x::r=>if rowE arch x.l=0 then rowsE arch r else rowE arch x.l
def codedE (t:Tst):Int :=
 if t.code.length<1∨16<t.code.length then 2 else if t.code.any fun x=>decide (256<x.l.length) then 2 else rowsE t.arch t.code
def firstB (arch:Int) (n:Nat) (x:Ini):Bool :=
 if x.thread = -1 then nameB x.loc&&(decide (x.reg=0)&&(decide (x.vloc = [])&&n32B x.n))
 else if x.thread<0∨(n:Int)≤x.thread∨x.loc≠[] then false
 else if (if arch=2 then x.reg<1∨31<x.reg else x.reg<0∨14<x.reg) then false
 else if x.vloc≠[] then nameB x.vloc&&decide (x.n=0) else n32B x.n
def keyI (x:Ini):Th:=⟨x.thread,x.reg,x.loc⟩
def begunE (t:Tst):Int :=
 if 1024<t.init.length then 2 else if t.init.all (firstB t.arch t.code.length)&&decide ((t.init.map keyI).Nodup) then 0 else 130
def askT (t:Tst):List Th:=thingsC t.q t.node
def insX (s:Tx):List Tx→List Tx
 | []=>[s]
 | y::r=>if ltX s y then s::y::r else y::insX s r
def putX (l:List Tx) (s:Tx):List Tx:=if s = [] then l else if s∈l then l else insX s l
def rawT (t:Tst):List Tx:=(t.init.flatMap fun x=>[x.loc,x.vloc])++((t.code.flatMap fun x=>x.l.map (·.loc))++(askT t).map (·.loc))
def namesT (t:Tst):List Tx:=(rawT t).foldl putX []
def tstE (t:Tst):Int :=
 if archB t.arch=false then 5
 else if titleB t.name=false∨cycleB t.cycle=false then 130
 else if codedE t≠0 then codedE t
 else if begunE t≠0 then begunE t
 else if condE t.arch t.q t.node≠0 then condE t.arch t.q t.node
 else if (askT t).any fun x=>decide ((t.code.length:Int)≤x.thread) then 80
 else if 64<(namesT t).length then 2 else 0
def colT (arch:Int) (k:Nat) (l:List Ins):List Tx:=([80]++decN k)::l.map fun i=>(cellI arch i).1
def wideL (l:List Tx):Nat:=l.foldl (fun n s=>max n s.length) 0
def colsT (t:Tst):List (List Tx):=t.code.mapIdx fun k x=>colT t.arch k x.l
def wideT (t:Tst):List Nat:=(colsT t).map wideL
def highT (t:Tst):Nat:=t.code.foldl (fun n x=>max n x.l.length) 0
def padT (n:Nat) (s:Tx):Tx:=s++List.replicate (n-s.length) 32
def lineT (i:Nat) (t:Tst):Tx:=[32]++([32,124,32].intercalate ((colsT t).map fun c=>padT (wideL c) (c.getD i [])))++[32,59]
def tableT (t:Tst):List Tx:=(List.range (highT t+1)).map fun i=>lineT i t
def regT' (arch:Int) (n:Int):Tx:=if arch=2 then rT n else rX n
def initT (arch:Int) (x:Ini):Tx :=
 (if x.thread = -1 then x.loc else Lib.itoa x.thread++[58]++regT' arch x.reg)++[61]++(if x.vloc = [] then Lib.itoa x.n else x.vloc)++[59,10]
def headT (t:Tst):Tx:=(if t.arch=2 then [82,73,83,67,86,32] else [88,56,54,32])++t.name++[10]
def cycT (t:Tst):Tx:=if t.cycle = [] then [] else [34]++t.cycle++[34,10]
def fileT (t:Tst):Tx:=headT t++cycT t++[123,10]++(t.init.flatMap (initT t.arch))++[125,10]++((tableT t).flatMap fun l=>l++[10])++textC t.arch t.q t.node++[10]
def printE (t:Tst):Tx × Int:=if tstE t≠0 then ([],tstE t) else if 262144<(fileT t).length then ([],3) else (fileT t,0)
theorem insX_snoc (t y:Tx) : ∀ l:List Tx,insX t (l++[y])=if l.any (ltX t) then insX t l++[y] else if ltX t y then l++[t,y] else l++[y,t]
 | []=>by simp [insX]
 | z::r=>by
  rw [List.cons_append,insX,insX_snoc t y r]
  cases h:ltX t z
  ·simp only [List.any_cons,h,Bool.false_or,insX,if_false,Bool.false_eq_true]
   by_cases h2:r.any (ltX t)=true
   ·simp [h2]
   ·by_cases h3:ltX t y=true
    ·simp [h2,h3]
    ·simp [h2,h3]
  ·simp [h,insX]
def outX (t:Tx) (l:List Tx):List Tx:=if l.any (ltX t) then insX t l else l
theorem insX_no {t:Tx} : ∀ {l:List Tx},¬ l.any (ltX t)=true→insX t l=l++[t]
 | [],_=>rfl
 | z::r,h=>by
  simp only [List.any_cons,Bool.or_eq_true,not_or] at h
  rw [insX,if_neg h.1,insX_no h.2];rfl
theorem insX_end (t:Tx) (l:List Tx):insX t l=if l.any (ltX t) then outX t l else outX t l++[t]:=by
 unfold outX
 by_cases h:l.any (ltX t)=true
 ·rw [if_pos h,if_pos h]
 ·rw [if_neg h,if_neg h];exact insX_no h
theorem outX_yes {t y:Tx} {l:List Tx} (h:l.any (ltX t)=true):outX t (l++[y])=outX t l++[y]:=by
 unfold outX
 rw [if_pos (by simp [h]),if_pos h,insX_snoc,if_pos h]
theorem outX_put {t y:Tx} {l:List Tx} (h:l.any (ltX t)=false) (h2:ltX t y=true):outX t (l++[y])=outX t l++[t]++[y]:=by
 unfold outX
 rw [if_pos (by simp [h2]),if_neg (by simp [h]),insX_snoc,if_neg (by simp [h]),if_pos h2];simp
theorem outX_no {t y:Tx} {l:List Tx} (h:l.any (ltX t)=false) (h2:ltX t y=false):outX t (l++[y])=outX t l++[y]:=by
 unfold outX
 rw [if_neg (by simp [h,h2]),if_neg (by simp [h])]
theorem insX_len (t:Tx) (l:List Tx):(insX t l).length=l.length+1:=by
 induction l with
 | nil=>simp [insX]
 | cons z r ih=>unfold insX;split <;> simp only [List.length_cons] <;> omega
theorem outX_len (t:Tx) (l:List Tx):(outX t l).length≤l.length+1:=by
 unfold outX;split
 ·rw [insX_len];exact Nat.le_refl _
 ·omega
theorem putX_len (l:List Tx) (t:Tx):(putX l t).length≤l.length+1:=by
 unfold putX;split
 ·omega
 ·split
  ·omega
  ·rw [insX_len];exact Nat.le_refl _
def foldX (acc:List Tx) (l:List Tx):List Tx:=l.foldl putX acc
theorem foldX_app (acc l r:List Tx):foldX acc (l++r)=foldX (foldX acc l) r:=List.foldl_append
def rawI (l:List Ini):List Tx:=l.flatMap fun x=>[x.loc,x.vloc]
def rawC (l:List Cd):List Tx:=l.flatMap fun x=>x.l.map (·.loc)
theorem take_snoc {α:Type} {l:List α} {k:Nat} {x:α} (h:l[k]? = some x):l.take (k+1)=l.take k++[x]:=by
 obtain ⟨hlt,rfl⟩:=List.getElem?_eq_some_iff.1 h
 exact List.take_succ_eq_append_getElem hlt
theorem rawI_step {l:List Ini} {k:Nat} {x:Ini} (h:l[k]? = some x) (acc:List Tx):foldX acc (rawI (l.take (k+1)))=putX (putX (foldX acc (rawI (l.take k))) x.loc) x.vloc:=by
 rw [take_snoc h]
 unfold rawI
 rw [List.flatMap_append,foldX_app];rfl
theorem rawC_step {l:List Cd} {k:Nat} {x:Cd} (h:l[k]? = some x) (acc:List Tx):foldX acc (rawC (l.take (k+1)))=foldX (foldX acc (rawC (l.take k))) (x.l.map (·.loc)):=by
 rw [take_snoc h]
 unfold rawC
 rw [List.flatMap_append,foldX_app];simp
theorem mapL_step {α:Type} (f:α→Tx) {l:List α} {k:Nat} {x:α} (h:l[k]? = some x) (acc:List Tx):foldX acc ((l.take (k+1)).map f)=putX (foldX acc ((l.take k).map f)) (f x):=by
 rw [take_snoc h,List.map_append,foldX_app];rfl
theorem namesT_eq (t:Tst):namesT t=foldX (foldX (foldX [] (rawI t.init)) (rawC t.code)) ((askT t).map (·.loc)):=by
 unfold namesT rawT
 rw [show ∀ l,List.foldl putX [] l=foldX [] l from fun _=>rfl,foldX_app,foldX_app];rfl
end Go.Proofs.YthaibjefnclkjaaGreatDoor
namespace Go.Proofs.YthaibjefnclkjaaGreatDoor
open Go.RowKit
@[reducible] def cIni (x:Ini):List Value:=[.int .i64 x.thread,.int .i64 x.reg,.string (tx x.loc),.string (tx x.vloc),.int .i64 x.n]
@[reducible] def vIni (x:Ini):Value:=.agg #[.int .i64 x.thread,.int .i64 x.reg,.string (tx x.loc),.string (tx x.vloc),.int .i64 x.n]
abbrev mkIni (x:Ini):Obj:=.cells #[.int .i64 x.thread,.int .i64 x.reg,.string (tx x.loc),.string (tx x.vloc),.int .i64 x.n] 64
theorem cIni_len (x:Ini):(cIni x).length=5:=rfl
theorem inil:ElT Tryz.prog 29 64 (.agg #[.int .i64 0,.int .i64 0,.string ByteArray.empty,.string ByteArray.empty,.int .i64 0]) 5 56:=⟨Tryz.underlying29,by kernel_rfl,rfl,by decide⟩
theorem Els.ini {w:World} {a:Option Addr} {l:List Ini} (h:Els cIni w a l) {k:Nat} {x:Ini} (hk:l[k]? = some x) :
  w.cell? ⟨bk a,fo a+k * 5,none⟩=some (.int .i64 x.thread)∧w.cell? ⟨bk a,fo a+k * 5+1,none⟩=some (.int .i64 x.reg)∧w.cell? ⟨bk a,fo a+k * 5+2,none⟩=some (.string (tx x.loc))∧w.cell? ⟨bk a,fo a+k * 5+3,none⟩=some (.string (tx x.vloc))∧w.cell? ⟨bk a,fo a+k * 5+4,none⟩=some (.int .i64 x.n) :=
 ⟨h.cell0 cIni_len hk (by omega),h.cell cIni_len hk 1 (by omega),h.cell cIni_len hk 2 (by omega),h.cell cIni_len hk 3 (by omega),h.cell cIni_len hk 4 (by omega)⟩
@[reducible] def cCd (x:Cd):List Value:=[.slice x.a x.l.length x.c]
theorem cCd_len (x:Cd):(cCd x).length=1:=rfl
theorem cdl:ElT Tryz.prog 30 49 (.slice none 0 0) 1 24:=⟨Tryz.underlying30,by kernel_rfl,rfl,by decide⟩
theorem Els.cd {w:World} {a:Option Addr} {l:List Cd} (h:Els cCd w a l) {k:Nat} {x:Cd} (hk:l[k]? = some x) :
  w.cell? ⟨bk a,fo a+k,none⟩=some (.slice x.a x.l.length x.c):=by
 have:=h.cell0 cCd_len hk (by omega)
 rwa [Nat.mul_one] at this
theorem Els.cdx {w:World} {a:Option Addr} {l:List Cd} (h:Els cCd w a l) (k:Nat) (hk:k<l.length) (c:Nat) :
  ∀ w',(Instr.indexAt 30 (.slice a l.length c) (.int .i64 k)).run Tryz.prog w' = .ok (.pointer (some ⟨bk a,fo a+k,none⟩)) w':=by
 have:=h.idx cdl cCd_len k hk c
 rwa [Nat.mul_one] at this
@[reducible] def cT (t:Tst):List Value:=[.int .i64 t.arch,.string (tx t.name),.string (tx t.cycle),.slice t.ia t.init.length t.ic,.slice t.ca t.code.length t.cc,.int .i64 t.q,.int .i64 t.node.kind,.int .i64 t.node.th.thread,.int .i64 t.node.th.reg,.string (tx t.node.th.loc),.int .i64 t.node.val,.slice t.node.a t.node.kids.length t.node.c]
@[reducible] def vT (t:Tst):Value:=.agg #[.int .i64 t.arch,.string (tx t.name),.string (tx t.cycle),.slice t.ia t.init.length t.ic,.slice t.ca t.code.length t.cc,.int .i64 t.q,.int .i64 t.node.kind,.int .i64 t.node.th.thread,.int .i64 t.node.th.reg,.string (tx t.node.th.loc),.int .i64 t.node.val,.slice t.node.a t.node.kids.length t.node.c]
abbrev mkT (t:Tst):Obj:=.cells #[.int .i64 t.arch,.string (tx t.name),.string (tx t.cycle),.slice t.ia t.init.length t.ic,.slice t.ca t.code.length t.cc,.int .i64 t.q,.int .i64 t.node.kind,.int .i64 t.node.th.thread,.int .i64 t.node.th.reg,.string (tx t.node.th.loc),.int .i64 t.node.val,.slice t.node.a t.node.kids.length t.node.c] 39
structure BxT (w:World) (b:Nat) (t:Tst):Prop where
 lt:b<w.heap.size
 cl : ∀ k,k<12→w.cell? ⟨b,k,none⟩=(cT t)[k]?
theorem BxT.new (w:World) (t:Tst):BxT (w.alloc (mkT t)) w.heap.size t :=
 ⟨(BxL.new w #[.int .i64 t.arch,.string (tx t.name),.string (tx t.cycle),.slice t.ia t.init.length t.ic,.slice t.ca t.code.length t.cc,.int .i64 t.q,.int .i64 t.node.kind,.int .i64 t.node.th.thread,.int .i64 t.node.th.reg,.string (tx t.node.th.loc),.int .i64 t.node.val,.slice t.node.a t.node.kids.length t.node.c] 39).1,fun k hk=>(BxL.new w _ _).2 k (by simpa using hk)⟩
theorem BxT.below {w w':World} {b:Nat} {t:Tst} (h:BxT w b t) (hb:Below w.heap.size w w'):BxT w' b t :=
 ⟨Nat.lt_of_lt_of_le h.lt hb.size,fun k hk=>by rw [hb.cell h.lt];exact h.cl k hk⟩
theorem BxT.cells {w:World} {b:Nat} {t:Tst} (h:BxT w b t):w.cell? ⟨b,0,none⟩=some (.int .i64 t.arch)∧w.cell? ⟨b,1,none⟩=some (.string (tx t.name))∧w.cell? ⟨b,2,none⟩=some (.string (tx t.cycle))∧w.cell? ⟨b,3,none⟩=some (.slice t.ia t.init.length t.ic)∧w.cell? ⟨b,4,none⟩=some (.slice t.ca t.code.length t.cc)∧w.cell? ⟨b,5,none⟩=some (.int .i64 t.q)∧w.cell? ⟨b,6,none⟩=some (.int .i64 t.node.kind)∧w.cell? ⟨b,7,none⟩=some (.int .i64 t.node.th.thread)∧w.cell? ⟨b,8,none⟩=some (.int .i64 t.node.th.reg)∧w.cell? ⟨b,9,none⟩=some (.string (tx t.node.th.loc))∧w.cell? ⟨b,10,none⟩=some (.int .i64 t.node.val)∧w.cell? ⟨b,11,none⟩=some (.slice t.node.a t.node.kids.length t.node.c) :=
 ⟨h.cl 0 (by omega),h.cl 1 (by omega),h.cl 2 (by omega),h.cl 3 (by omega),h.cl 4 (by omega),h.cl 5 (by omega),h.cl 6 (by omega),h.cl 7 (by omega),h.cl 8 (by omega),h.cl 9 (by omega),h.cl 10 (by omega),h.cl 11 (by omega)⟩
structure CdIn (w:World) (x:Cd):Prop where
 is:Is w x.a x.l
 cap:x.l.length≤x.c
 locs : ∀ i∈x.l,i.loc.length≤9223372036854775807∧i.label.length≤9223372036854775807
def I64 (n:Int):Prop:=-9223372036854775808≤n∧n≤9223372036854775807
structure TsIn (w:World) (t:Tst):Prop where
 name:t.name.length≤9223372036854775807
 cycle:t.cycle.length≤9223372036854775807
 init:Els cIni w t.ia t.init
 icap:t.init.length≤t.ic
 locs : ∀ x∈t.init,x.loc.length≤9223372036854775807∧x.vloc.length≤9223372036854775807
 wide : ∀ x∈t.init,I64 x.thread∧I64 x.reg
 code:Els cCd w t.ca t.code
 ccap:t.code.length≤t.cc
 rows : ∀ x∈t.code,CdIn w x
 node:NdIn w t.node
theorem CdIn.keep {w w':World} {x:Cd} (h:CdIn w x) (hb:Below w.heap.size w w'):CdIn w' x:=⟨h.is.below hb,h.cap,h.locs⟩
theorem TsIn.keep {w w':World} {t:Tst} (h:TsIn w t) (hb:Below w.heap.size w w'):TsIn w' t :=
 ⟨h.name,h.cycle,h.init.below hb,h.icap,h.locs,h.wide,h.code.below hb,h.ccap,fun x hx=>(h.rows x hx).keep hb,h.node.keep hb⟩
theorem wpList_app1n {P:Program} {w:World} {ops:Array Oper} {rest:List Oper} {o:Oper} {a:Act} {Q:Exit→Act→World→Prop} {t e:TypeId} {z:Value} {size bytes:Nat} (T:ElT P t e z size bytes) (s x:Operand) (hgd:o.guard=none) (ho:o.op = .call { callee:=.builtin .append,args:=#[s,x],argTypes:=#[t,t] })
  {B n c N:Nat} {sa:Option Addr} {xs:List Value} (hN:w.heap.size=N) (hs:a.eval s = .slice sa n c) (hown:Own w B e size sa n c xs)
  {us:Array Value} (hx:a.eval x = .slice (some ⟨N,0,none⟩) 1 1) (hl:us.size=size) (h1c : ∀ u∈us.toList,u.oneCell'=true)
  {w0:World} (hB:Below B w0 w) (hB0:B≤w.heap.size) (hbytes:(n+1) * bytes≤140737488355328) (hm:n+1≤maxLen)
  (h : ∀ a' c' w',Own w' B e size a' (n+1) c' (xs++us.toList)→Grew w w' sa c a' c'→Below B w0 w'→wpList P ops Q rest (a.put o.dst (.slice a' (n+1) c')) w'):wpList P ops Q (o::rest) a (w.alloc (.cells us e)):=by
 subst hN
 exact wpList_app1 T s x hgd ho hs hown hx hl h1c hB hB0 hbytes hm h
def layL (xs:List Value) (j:Nat) (vs:List Value):List Value:=xs.take j++vs++xs.drop (j+vs.length)
theorem layL_nil (xs:List Value) (j:Nat):layL xs j []=xs:=by simp [layL]
theorem layL_cons (xs:List Value) (j:Nat) (v:Value) (vs:List Value) (h:j<xs.length):layL xs j (v::vs)=layL (xs.set j v) (j+1) vs:=by
 have h1:xs.set j v=(xs.take j++[v])++xs.drop (j+1):=by rw [List.set_eq_take_append_cons_drop,if_pos h];simp
 have hl:(xs.take j++[v]).length=j+1:=by simp;omega
 unfold layL
 rw [h1,List.take_left' hl,List.drop_append,List.drop_of_length_le (by omega:(xs.take j++[v]).length≤j+1+vs.length),List.nil_append,List.drop_drop,hl]
 simp only [List.append_assoc,List.cons_append,List.nil_append,List.length_cons]
 congr 3
 congr 1
 omega
theorem Own.sets {B E size n c:Nat} {a:Option Addr} (ha:a≠none) : ∀ (vs:List Value) (j:Nat) (w:World) (xs:List Value),Own w B E size a n c xs→j+vs.length≤xs.length →
  Own (w.setCells (bk a) (fo a+j) vs) B E size a n c (layL xs j vs)∧Step w (w.setCells (bk a) (fo a+j) vs) a a
 | [],j,w,xs,h,_=>by rw [layL_nil];exact ⟨h,⟨World.grownBy.refl _ _,.inl rfl⟩⟩
 | v::vs,j,w,xs,h,hj=>by
  simp only [List.length_cons] at hj
  obtain ⟨h1,s1⟩:=Own.set h ha j v
  obtain ⟨h2,s2⟩:=Own.sets ha vs (j+1) (w.setCell ⟨bk a,fo a+j,none⟩ v) (xs.set j v) h1 (by simp;omega)
  rw [layL_cons _ _ _ _ (by omega)]
  refine ⟨h2,⟨grownBy_trans s1.grown s2.grown,.inl rfl⟩⟩
theorem zeroCells_toList (z:Value) (n:Nat):(Builtin.zeroCells z.cells n).toList.length=n * z.cells.size:=by simp [Builtin.zeroCells]
theorem run_clear_end {P:Program} {w:World} {t e:TypeId} {z:Value} {size bytes:Nat} (T:ElT P t e z size bytes) (hv : ∀ w,(zeroValue e).run P w = .ok z w) (h1c : ∀ u∈z.cells.toList,u.oneCell'=true)
  {B n c:Nat} {a:Option Addr} {xs:List Value} (h:Own w B e size a n c xs) (k:Nat) (hk:k<n) :
  ∃ w',(∀ ty,(Builtin.clear_ #[t] ty #[.slice (cutA a (c=k) (k * size)) (n-k) (c-k)]).run P w = .ok (.tuple #[]) w')∧Own w' B e size a n c (layL xs (k * size) (Builtin.zeroCells z.cells (n-k)).toList)∧Step w w' a a:=by
 have hcap:=h.cap
 have ha:=Own.some h (by omega)
 have hne:xs≠[]:=by
  intro e0
  have hp:0<n * size:=Nat.mul_pos (by omega) T.pos
  rw [e0] at hcap;simp at hcap;omega
 have hhd:=h.row.head hne
 have hck : ¬ c=k:=by omega
 have hcut:cutA a (c=k) (k * size)=some ⟨bk a,fo a+k * size,none⟩:=by
  unfold cutA;rw [if_neg hck]
  conv=>lhs;rw [hhd]
  by_cases h0:k * size=0
  ·simp [h0,Addr.add]
  ·simp [h0,Addr.add]
 rw [hcut]
 have hzl:=zeroCells_toList z (n-k)
 rw [T.zs] at hzl
 have hlen:k * size+(n-k) * size=xs.length:=by rw [hcap.2.2,← Nat.add_mul];congr 1;omega
 obtain ⟨h2,s2⟩:=Own.sets ha (Builtin.zeroCells z.cells (n-k)).toList (k * size) w xs h (by rw [hzl];omega)
 refine ⟨_,fun ty=>?_,h2,s2⟩
 have hst:=run_storeCells_cells (P:=P) (bk a) (fo a+k * size) (Builtin.zeroCells z.cells (n-k)).toList 0 w
  (by
   intro j hj
   rw [hzl] at hj
   have hjl:k * size+j<xs.length:=by omega
   have:=h.row.cell (k * size+j) hjl
   rw [Nat.add_zero,Nat.add_assoc,this,List.getElem?_eq_getElem hjl];rfl)
  (by intro j hj;rw [Nat.add_zero,Nat.add_assoc];exact Own.frozen h ha _)
  (by
   intro v hv'
   simp [Builtin.zeroCells] at hv'
   obtain ⟨i,hi,rfl⟩:=hv'
   have hzs:=T.zs
   have hpos:=T.pos
   have hm:i % z.cells.size<z.cells.size:=Nat.mod_lt _ (by omega)
   rw [getElem!_pos z.cells _ hm]
   exact h1c _ (by simp))
 obtain ⟨m,hm⟩ : ∃ m,n-k=m+1:=⟨n-k-1,by omega⟩
 rw [hm] at hst ⊢
 simp only [Nat.add_zero] at hst
 simp [Builtin.clear_,run_underlying T.und,hv,hst]
set_option linter.unusedSectionVars false
section
variable {α:Type} {enc:α→List Value} {m:Nat} (hm : ∀ x,(enc x).length=m)
include hm
theorem flat_lay (l:List α) (k:Nat) (e:α) (h:k<l.length):layL (flat enc l) (k * m) (enc e)=flat enc (l.set k e):=by
 have h1:l.set k e=l.take k++e::l.drop (k+1):=by rw [List.set_eq_take_append_cons_drop,if_pos h]
 rw [h1,flat_app,flat_cons,← flat_take hm,← flat_drop hm]
 unfold layL
 rw [List.append_assoc,hm,show (k+1) * m=k * m+m from Nat.succ_mul k m]
theorem Own.storeE {w:World} {B E n c:Nat} {a:Option Addr} {l:List α} (h:Own w B E m a n c (flat enc l)) (hpos:0<m) (k:Nat) (hk:k<l.length) (e:α) :
  Own (w.setCells (bk a) (fo a+k * m) (enc e)) B E m a n c (flat enc (l.set k e))∧Step w (w.setCells (bk a) (fo a+k * m) (enc e)) a a:=by
 have h1:=h.cap.2.2
 rw [flat_length hm] at h1
 have hn:n=l.length:=Nat.eq_of_mul_eq_mul_right hpos h1.symm
 have hle:k * m+m≤l.length * m:=by rw [← Nat.succ_mul];exact Nat.mul_le_mul_right _ hk
 have:=Own.sets (Own.some h (by omega)) (enc e) (k * m) w (flat enc l) h (by rw [flat_length hm,hm];exact hle)
 rwa [flat_lay hm l k e hk] at this
theorem Own.frontE {w:World} {B E n c k:Nat} {a:Option Addr} {L:List α} {vs:List Value} (h:Own w B E m a n c (layL (flat enc L) (k * m) vs)) (hn:n=L.length) (hk:k≤n):Own w B E m a k c (flat enc (L.take k)):=by
 unfold layL at h
 rw [List.append_assoc,flat_take hm] at h
 obtain ⟨m',rfl⟩ : ∃ m',n=k+m':=⟨n-k,by omega⟩
 exact Own.front h (by rw [flat_length hm,List.length_take];congr 1;omega)
theorem Own.frontL {w:World} {B E n c k:Nat} {a:Option Addr} {L:List α} (h:Own w B E m a n c (flat enc L)) (hn:n=L.length) (hk:k≤n):Own w B E m a k c (flat enc (L.take k)):=by
 have:=h.cap
 obtain ⟨m',rfl⟩ : ∃ m',n=k+m':=⟨n-k,by omega⟩
 have h1:flat enc L=flat enc (L.take k)++flat enc (L.drop k):=by rw [← flat_app,List.take_append_drop]
 rw [h1] at h
 exact Own.front h (by rw [flat_length hm,List.length_take];congr 1;omega)
end
end Go.Proofs.YthaibjefnclkjaaGreatDoor
