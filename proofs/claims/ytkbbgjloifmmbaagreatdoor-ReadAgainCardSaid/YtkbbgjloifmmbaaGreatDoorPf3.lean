/- What ReadAgainP leans on, part 3. -/
import Derived.Test.YtkbbgjloifmmbaaGreatDoorPf0
import Derived.Shelf.Strings.SlTrimAscii
import Derived.Shelf.Small.Strs
import Derived.Shelf.Strconv.Itoa3
import Derived.Shelf.LaysM
import Derived.Shelf.Strconv.AtoiAll
import Derived.Shelf.Strconv.ErrVarAll
import Derived.Shelf.LaysC
import Derived.Shelf.Strings.Prefix
import Derived.Shelf.Strings.SplitShaped
import Derived.Shelf.Strings.Count
import Derived.Shelf.Strings.Cut
import Derived.Shelf.Strings.Runes
import Derived.Shelf.Strings.FieldsFuncAny
import Derived.Test.YtkbbgjloifmmbaaGreatDoorProg
set_option linter.unusedVariables false
set_option maxRecDepth 100000
open _root_.Go.Proofs.Tryz
open _root_.Go.Shelf renaming Ren->aBj
namespace Go.Proofs.YtkbbgjloifmmbaaGreatDoor
open Go.Shelf
def Tryz.aqD:aBj:=⟨fun|160=>68|232=>134|231=>133|227=>135|234=>137|233=>136|236=>139|235=>138|228=>220|271=>222|151=>95|197=>221|120=>276|152=>173|260=>275|137=>78|119=>246|224=>247|225=>248|217=>152|266=>232|n=>n,fun|9=>9|4=>4|3=>3|5=>5|117=>161|116=>160|0=>0|124=>164|21=>21|105=>216|46=>45|119=>283|139=>286|138=>285|n=>n,fun|3=>5|4=>6|n=>n⟩
theorem Tryz.agk:Go.Proofs.Lays.n160 prog Tryz.aqD:=by repeat' first|kernel_rfl|(intro _;kernel_rfl)|constructor
def Tryz.aqw:aBj:=⟨fun|137=>78|217=>152|266=>232|n=>n,fun|9=>9|5=>5|3=>3|n=>n,fun|n=>n⟩
theorem Tryz.agj:Go.Proofs.Lays.n137 prog Tryz.aqw:=by repeat' first|kernel_rfl|(intro _;kernel_rfl)|constructor
def Tryz.aqJ:aBj:=⟨fun|171=>57|243=>121|246=>206|283=>264|284=>265|285=>266|286=>267|129=>295|317=>314|318=>315|319=>316|320=>317|337=>337|338=>338|n=>n,fun|3=>3|9=>9|2=>2|4=>4|171=>243|0=>0|53=>244|37=>94|5=>5|173=>247|212=>278|51=>265|20=>20|213=>279|46=>45|232=>309|233=>310|n=>n,fun|17=>4|18=>7|19=>8|n=>n⟩
theorem Tryz.aqI:Go.Proofs.Lays.n171 prog Tryz.aqJ:=by repeat' first|kernel_rfl|(intro _;kernel_rfl)|constructor
def Tryz.arw:aBj:=⟨fun|171=>57|243=>121|246=>206|283=>264|284=>265|285=>266|286=>267|129=>295|317=>314|318=>315|319=>316|320=>317|337=>337|338=>338|n=>n,fun|3=>3|9=>9|2=>2|4=>4|171=>243|0=>0|53=>244|37=>94|5=>5|173=>247|212=>278|51=>265|20=>20|213=>279|46=>45|232=>309|233=>310|n=>n,fun|17=>4|18=>7|19=>8|n=>n⟩
theorem Tryz.arv:Go.Proofs.LaysM.n171 prog Tryz.arw:=by repeat' first|kernel_rfl|(intro _;kernel_rfl)|constructor
def Tryz.alK:aBj:=⟨fun|172=>113|244=>198|245=>199|247=>259|279=>260|280=>261|281=>262|282=>263|287=>311|316=>312|171=>57|205=>313|321=>335|322=>336|243=>121|246=>206|283=>264|284=>265|285=>266|286=>267|129=>295|317=>314|318=>315|319=>316|320=>317|337=>337|338=>338|n=>n,fun|9=>9|3=>3|75=>98|76=>99|4=>4|5=>5|167=>237|37=>94|0=>0|85=>238|2=>2|168=>240|53=>244|175=>272|46=>45|210=>275|127=>154|145=>298|143=>296|21=>21|171=>243|173=>247|212=>278|51=>265|20=>20|213=>279|232=>309|233=>310|80=>106|n=>n,fun|15=>2|16=>3|17=>4|18=>7|19=>8|n=>n⟩
theorem Tryz.Uc:Go.Proofs.LaysC.n172 prog Tryz.alK:=by repeat' first|kernel_rfl|(intro _;kernel_rfl)|constructor
def Tryz.aqs:aBj:=⟨fun|100=>99|207=>171|n=>n,fun|9=>9|4=>4|3=>3|n=>n,fun|n=>n⟩
theorem Tryz.aqr:Go.Proofs.Lays.n100 prog Tryz.aqs:=by repeat' first|kernel_rfl|(intro _;kernel_rfl)|constructor
def Tryz.aqO:aBj:=⟨fun|99=>94|206=>172|n=>n,fun|9=>9|4=>4|3=>3|n=>n,fun|n=>n⟩
theorem Tryz.l99:Go.Proofs.Lays.n99 prog Tryz.aqO:=by repeat' first|kernel_rfl|(intro _;kernel_rfl)|constructor
def Tryz.PI:aBj:=⟨fun|146=>79|221=>153|268=>233|138=>77|143=>151|195=>149|197=>221|218=>150|219=>196|260=>275|217=>152|225=>248|224=>247|267=>258|266=>232|314=>310|n=>n,fun|9=>9|31=>42|3=>3|4=>4|0=>0|105=>216|21=>21|5=>5|46=>45|119=>283|139=>286|138=>285|146=>270|51=>265|n=>n,fun|1=>1|3=>5|4=>6|n=>n⟩
theorem Tryz.KI:Go.Proofs.LaysM.n146 prog Tryz.PI:=by
 constructor
 case s1_3=>exact fun w h=>Go.Proofs.cell_of_shapedOpen_int (zero:=#[.int .i64 0]) (t:=3) h (wB (by kernel_rfl)) (by kernel_rfl) rfl (by kernel_rfl) (by kernel_rfl) underlying3
 all_goals repeat' first|kernel_rfl|(intro _;kernel_rfl)|constructor
def Tryz.aqv:aBj:=⟨fun|106=>325|213=>348|265=>355|n=>n,fun|9=>9|3=>3|n=>n,fun|n=>n⟩
theorem Tryz.aqu:Go.Proofs.Lays.n106 prog Tryz.aqv:=by repeat' first|kernel_rfl|(intro _;kernel_rfl)|constructor
def Tryz.aqF:aBj:=⟨fun|161=>154|231=>133|227=>135|233=>136|235=>138|228=>220|197=>221|151=>95|260=>275|152=>173|137=>78|119=>246|224=>247|225=>248|217=>152|266=>232|n=>n,fun|9=>9|4=>4|3=>3|5=>5|117=>161|116=>160|0=>0|124=>164|105=>216|21=>21|119=>283|46=>45|139=>286|138=>285|n=>n,fun|3=>5|4=>6|n=>n⟩
theorem Tryz.aqE:Go.Proofs.Lays.n161 prog Tryz.aqF:=by repeat' first|kernel_rfl|(intro _;kernel_rfl)|constructor
def Tryz.aqH:aBj:=⟨fun|162=>155|232=>134|227=>135|234=>137|236=>139|228=>220|271=>222|151=>95|120=>276|197=>221|152=>173|260=>275|137=>78|119=>246|224=>247|225=>248|217=>152|266=>232|n=>n,fun|9=>9|4=>4|3=>3|5=>5|117=>161|116=>160|0=>0|124=>164|21=>21|105=>216|46=>45|119=>283|139=>286|138=>285|n=>n,fun|3=>5|4=>6|n=>n⟩
theorem Tryz.aqG:Go.Proofs.Lays.n162 prog Tryz.aqH:=by repeat' first|kernel_rfl|(intro _;kernel_rfl)|constructor
def Tryz.aqy:aBj:=⟨fun|138=>77|195=>149|218=>150|143=>151|219=>196|217=>152|225=>248|224=>247|267=>258|266=>232|314=>310|n=>n,fun|9=>9|3=>3|4=>4|5=>5|0=>0|46=>45|146=>270|51=>265|n=>n,fun|1=>1|n=>n⟩
theorem Tryz.aqx:Go.Proofs.Lays.n138 prog Tryz.aqy:=by repeat' first|kernel_rfl|(intro _;kernel_rfl)|constructor
def Tryz.aqA:aBj:=⟨fun|145=>48|220=>111|219=>196|217=>152|225=>248|224=>247|267=>258|266=>232|314=>310|n=>n,fun|9=>9|4=>4|59=>80|3=>3|5=>5|46=>45|146=>270|51=>265|n=>n,fun|1=>1|n=>n⟩
theorem Tryz.aqz:Go.Proofs.Lays.n145 prog Tryz.aqA:=by repeat' first|kernel_rfl|(intro _;kernel_rfl)|constructor
def Tryz.aqC:aBj:=⟨fun|151=>95|152=>173|137=>78|119=>246|224=>247|225=>248|217=>152|266=>232|n=>n,fun|9=>9|21=>21|4=>4|3=>3|5=>5|0=>0|46=>45|n=>n,fun|n=>n⟩
theorem Tryz.aqB:Go.Proofs.Lays.n151 prog Tryz.aqC:=by repeat' first|kernel_rfl|(intro _;kernel_rfl)|constructor
def Tryz.aqN:aBj:=⟨fun|229=>147|n=>n,fun|9=>9|40=>177|31=>42|152=>227|3=>3|0=>0|4=>4|21=>21|154=>229|n=>n,fun|n=>n⟩
theorem Tryz.aqM:Go.Proofs.Lays.n229 prog Tryz.aqN:=by repeat' first|kernel_rfl|(intro _;kernel_rfl)|constructor
end Go.Proofs.YtkbbgjloifmmbaaGreatDoor
