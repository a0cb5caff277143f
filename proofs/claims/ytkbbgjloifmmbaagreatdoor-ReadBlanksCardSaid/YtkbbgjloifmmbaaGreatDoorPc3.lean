/- What ReadBlanksP leans on, part 3. -/
import Derived.Shelf.Strings.SlTrimAscii
import Derived.Shelf.Small.Strs
import Derived.Shelf.Strconv.Itoa3
import Derived.Shelf.LaysM
import Derived.Shelf.Strconv.AtoiAll
import Derived.Shelf.Strconv.ErrVarAll
import Derived.Shelf.LaysC
import Derived.Shelf.Strings.Prefix
import Derived.Shelf.Strings.SplitShaped
import Derived.Shelf.Strings.Count
import Derived.Shelf.Strings.Cut
import Derived.Shelf.Strings.Runes
import Derived.Shelf.Strings.FieldsFuncAny
import Derived.Test.YtkbbgjloifmmbaaGreatDoorProg
set_option linter.unusedVariables false
set_option maxRecDepth 100000
open _root_.Go.Proofs.Tryz
open _root_.Go.Shelf renaming Ren->aqj
namespace Go.Proofs.YtkbbgjloifmmbaaGreatDoor
open Go.Shelf
def Tryz.aeW:aqj:=⟨fun|160=>68|232=>134|231=>133|227=>135|234=>137|233=>136|236=>139|235=>138|228=>220|271=>222|151=>95|197=>221|120=>276|152=>173|260=>275|137=>78|119=>246|224=>247|225=>248|217=>152|266=>232|n=>n,fun|9=>9|4=>4|3=>3|5=>5|117=>161|116=>160|0=>0|124=>164|21=>21|105=>216|46=>45|119=>283|139=>286|138=>285|n=>n,fun|3=>5|4=>6|n=>n⟩
theorem Tryz.VC:Go.Proofs.Lays.n160 prog Tryz.aeW:=by repeat' first|kernel_rfl|(intro _;kernel_rfl)|constructor
def Tryz.aeP:aqj:=⟨fun|137=>78|217=>152|266=>232|n=>n,fun|9=>9|5=>5|3=>3|n=>n,fun|n=>n⟩
theorem Tryz.VB:Go.Proofs.Lays.n137 prog Tryz.aeP:=by repeat' first|kernel_rfl|(intro _;kernel_rfl)|constructor
def Tryz.ae2:aqj:=⟨fun|171=>57|243=>121|246=>206|283=>264|284=>265|285=>266|286=>267|129=>295|317=>314|318=>315|319=>316|320=>317|337=>337|338=>338|n=>n,fun|3=>3|9=>9|2=>2|4=>4|171=>243|0=>0|53=>244|37=>94|5=>5|173=>247|212=>278|51=>265|20=>20|213=>279|46=>45|232=>309|233=>310|n=>n,fun|17=>4|18=>7|19=>8|n=>n⟩
theorem Tryz.ae1:Go.Proofs.Lays.n171 prog Tryz.ae2:=by repeat' first|kernel_rfl|(intro _;kernel_rfl)|constructor
def Tryz.afD:aqj:=⟨fun|171=>57|243=>121|246=>206|283=>264|284=>265|285=>266|286=>267|129=>295|317=>314|318=>315|319=>316|320=>317|337=>337|338=>338|n=>n,fun|3=>3|9=>9|2=>2|4=>4|171=>243|0=>0|53=>244|37=>94|5=>5|173=>247|212=>278|51=>265|20=>20|213=>279|46=>45|232=>309|233=>310|n=>n,fun|17=>4|18=>7|19=>8|n=>n⟩
theorem Tryz.afC:Go.Proofs.LaysM.n171 prog Tryz.afD:=by repeat' first|kernel_rfl|(intro _;kernel_rfl)|constructor
def Tryz.aa7:aqj:=⟨fun|172=>113|244=>198|245=>199|247=>259|279=>260|280=>261|281=>262|282=>263|287=>311|316=>312|171=>57|205=>313|321=>335|322=>336|243=>121|246=>206|283=>264|284=>265|285=>266|286=>267|129=>295|317=>314|318=>315|319=>316|320=>317|337=>337|338=>338|n=>n,fun|9=>9|3=>3|75=>98|76=>99|4=>4|5=>5|167=>237|37=>94|0=>0|85=>238|2=>2|168=>240|53=>244|175=>272|46=>45|210=>275|127=>154|145=>298|143=>296|21=>21|171=>243|173=>247|212=>278|51=>265|20=>20|213=>279|232=>309|233=>310|80=>106|n=>n,fun|15=>2|16=>3|17=>4|18=>7|19=>8|n=>n⟩
theorem Tryz.Jz:Go.Proofs.LaysC.n172 prog Tryz.aa7:=by repeat' first|kernel_rfl|(intro _;kernel_rfl)|constructor
def Tryz.aeM:aqj:=⟨fun|100=>99|207=>171|n=>n,fun|9=>9|4=>4|3=>3|n=>n,fun|n=>n⟩
theorem Tryz.aeL:Go.Proofs.Lays.n100 prog Tryz.aeM:=by repeat' first|kernel_rfl|(intro _;kernel_rfl)|constructor
def Tryz.ae7:aqj:=⟨fun|99=>94|206=>172|n=>n,fun|9=>9|4=>4|3=>3|n=>n,fun|n=>n⟩
theorem Tryz.l99:Go.Proofs.Lays.n99 prog Tryz.ae7:=by repeat' first|kernel_rfl|(intro _;kernel_rfl)|constructor
def Tryz.Gu:aqj:=⟨fun|146=>79|221=>153|268=>233|138=>77|143=>151|195=>149|197=>221|218=>150|219=>196|260=>275|217=>152|225=>248|224=>247|267=>258|266=>232|314=>310|n=>n,fun|9=>9|31=>42|3=>3|4=>4|0=>0|105=>216|21=>21|5=>5|46=>45|119=>283|139=>286|138=>285|146=>270|51=>265|n=>n,fun|1=>1|3=>5|4=>6|n=>n⟩
theorem Tryz.Cr:Go.Proofs.LaysM.n146 prog Tryz.Gu:=by
 constructor
 case s1_3=>exact fun w h=>Go.Proofs.cell_of_shapedOpen_int (zero:=#[.int .i64 0]) (t:=3) h (of_decide_eq_true (by kernel_rfl)) (by kernel_rfl) rfl (by kernel_rfl) (by kernel_rfl) underlying3
 all_goals repeat' first|kernel_rfl|(intro _;kernel_rfl)|constructor
def Tryz.aeO:aqj:=⟨fun|106=>325|213=>348|265=>355|n=>n,fun|9=>9|3=>3|n=>n,fun|n=>n⟩
theorem Tryz.aeN:Go.Proofs.Lays.n106 prog Tryz.aeO:=by repeat' first|kernel_rfl|(intro _;kernel_rfl)|constructor
def Tryz.aeY:aqj:=⟨fun|161=>154|231=>133|227=>135|233=>136|235=>138|228=>220|197=>221|151=>95|260=>275|152=>173|137=>78|119=>246|224=>247|225=>248|217=>152|266=>232|n=>n,fun|9=>9|4=>4|3=>3|5=>5|117=>161|116=>160|0=>0|124=>164|105=>216|21=>21|119=>283|46=>45|139=>286|138=>285|n=>n,fun|3=>5|4=>6|n=>n⟩
theorem Tryz.aeX:Go.Proofs.Lays.n161 prog Tryz.aeY:=by repeat' first|kernel_rfl|(intro _;kernel_rfl)|constructor
def Tryz.ae0:aqj:=⟨fun|162=>155|232=>134|227=>135|234=>137|236=>139|228=>220|271=>222|151=>95|120=>276|197=>221|152=>173|260=>275|137=>78|119=>246|224=>247|225=>248|217=>152|266=>232|n=>n,fun|9=>9|4=>4|3=>3|5=>5|117=>161|116=>160|0=>0|124=>164|21=>21|105=>216|46=>45|119=>283|139=>286|138=>285|n=>n,fun|3=>5|4=>6|n=>n⟩
theorem Tryz.aeZ:Go.Proofs.Lays.n162 prog Tryz.ae0:=by repeat' first|kernel_rfl|(intro _;kernel_rfl)|constructor
def Tryz.aeR:aqj:=⟨fun|138=>77|195=>149|218=>150|143=>151|219=>196|217=>152|225=>248|224=>247|267=>258|266=>232|314=>310|n=>n,fun|9=>9|3=>3|4=>4|5=>5|0=>0|46=>45|146=>270|51=>265|n=>n,fun|1=>1|n=>n⟩
theorem Tryz.aeQ:Go.Proofs.Lays.n138 prog Tryz.aeR:=by repeat' first|kernel_rfl|(intro _;kernel_rfl)|constructor
def Tryz.aeT:aqj:=⟨fun|145=>48|220=>111|219=>196|217=>152|225=>248|224=>247|267=>258|266=>232|314=>310|n=>n,fun|9=>9|4=>4|59=>80|3=>3|5=>5|46=>45|146=>270|51=>265|n=>n,fun|1=>1|n=>n⟩
theorem Tryz.aeS:Go.Proofs.Lays.n145 prog Tryz.aeT:=by repeat' first|kernel_rfl|(intro _;kernel_rfl)|constructor
def Tryz.aeV:aqj:=⟨fun|151=>95|152=>173|137=>78|119=>246|224=>247|225=>248|217=>152|266=>232|n=>n,fun|9=>9|21=>21|4=>4|3=>3|5=>5|0=>0|46=>45|n=>n,fun|n=>n⟩
theorem Tryz.aeU:Go.Proofs.Lays.n151 prog Tryz.aeV:=by repeat' first|kernel_rfl|(intro _;kernel_rfl)|constructor
def Tryz.ae6:aqj:=⟨fun|229=>147|n=>n,fun|9=>9|40=>177|31=>42|152=>227|3=>3|0=>0|4=>4|21=>21|154=>229|n=>n,fun|n=>n⟩
theorem Tryz.ae5:Go.Proofs.Lays.n229 prog Tryz.ae6:=by repeat' first|kernel_rfl|(intro _;kernel_rfl)|constructor
end Go.Proofs.YtkbbgjloifmmbaaGreatDoor
