/- Lemmas for it. -/
import Derived.Shelf.Strings.OnBuilder
import Derived.Shelf.Small.Strs
import Derived.Shelf.Small.Wraps
import Derived.Shelf.Utf8.RuneCount
import Derived.Shelf.Strconv.Itoa3
import Derived.Shelf.Strconv.AtoiErr
import Derived.Shelf.Strconv.ErrVarAll
import Derived.Shelf.Strconv.ParseInt10At64
import Derived.Shelf.Strconv.ParseInt10At32
import Derived.Shelf.Strconv.ParseInt10At16
import Derived.Shelf.Strconv.ParseInt10At8
import Derived.Shelf.Strings.Shaped
import Derived.Shelf.Sort.Plain
import Derived.Shelf.Strings.SplitShaped
import Derived.Shelf.Strings.Explode
import Derived.Shelf.Bits.Mul64
import Derived.Shelf.Strings.FieldsFuncGrows
import Derived.Shelf.Strings.BuilderCap
import Derived.Shelf.Slices.Turned
import Derived.Shelf.Slices.Clone
import Derived.Shelf.Slices.In.SortNone
import Derived.Shelf.Slices.Empties2
import Derived.Shelf.SlicesE.Clone
import Derived.Test.YtpgmcijdcnnjpaaGreatDoorProg
set_option linter.all false
namespace Go.Proofs
open Go.Shelf
variable {p:Prop}
def Hd(p:Prop):Prop:=p
theorem Hd.ou (h:Hd p):p:=h
theorem aj (h:p):Hd p:=h
abbrev bq:=@Array.getElem?_eq_some_iff
abbrev aq:=@Nat.le_refl
abbrev aJ:=@Nat.le_trans
abbrev bZ:=@Nat.lt_of_lt_of_le
abbrev bB:=@Option.some.inj
abbrev ax:=@List.setIfInBounds_toArray
abbrev bh:=@decide_eq_true_eq
abbrev aA:=@decide_eq_false_iff_not
abbrev bY:=@beq_iff_eq
abbrev bl:=@beq_eq_false_iff_ne
abbrev ab:=@if_pos
abbrev aa:=@if_neg
abbrev dI:=@Bool.false_ne_true
abbrev dm:=@Nat.lt_or_ge
abbrev dx:=@Array.getElem?_eq_none
abbrev aE:=@List.mem_cons_of_mem
abbrev aY:=@List.mem_cons
abbrev ic:=@Array.any_eq_true'
abbrev aI:=@Bool.and_eq_true
abbrev dJ:=@List.contains_iff_mem
abbrev an:=@List.length_cons
abbrev bJ:=@List.all_eq_true
abbrev cd:=@Bool.or_eq_true
abbrev dS:=@List.mem_range
abbrev fL:=@Nat.add_comm
abbrev bM:=@List.eq_nil_of_length_eq_zero
abbrev da:=@Int.not_lt
abbrev cZ:=@Int.not_le
abbrev fT:=@Bool.not_eq_true
abbrev gy:=@Bool.not_eq_false
abbrev dM:=@Bool.or_eq_false_iff
abbrev eD:=@Bool.and_eq_false_iff
abbrev fS:=@Bool.not_eq_eq_eq_not
abbrev eF:=@Bool.not_true
abbrev eS:=@Bool.not_false
abbrev aF:=@List.getElem?_eq_getElem
abbrev aU:=@List.take_add_one
abbrev ay:=@List.take_of_length_le
abbrev bN:=@List.flatMap_cons
abbrev bG:=@List.getElem?_append_left
abbrev kp:=@Nat.mod_eq_of_lt
abbrev dG:=@List.getElem?_append_right
abbrev aQ:=@List.getElem?_cons_succ
abbrev af:=@List.length_append
abbrev ey:=@Nat.succ_mul
abbrev aw:=@List.getElem?_eq_some_iff
abbrev fy:=@Nat.mul_le_mul_right
abbrev bX:=@Nat.zero_add
abbrev fK:=@Nat.add_zero
abbrev au:=@Nat.zero_le
abbrev fY:=@Nat.eq_zero_or_pos
abbrev kb:=@Nat.mul_le_mul
abbrev fi:=@List.map_toArray
abbrev du:=@List.map_cons
abbrev eG:=@List.map_nil
abbrev j5:=@List.take_zero
abbrev cW:=@List.nil_append
abbrev eE:=@List.size_toArray
abbrev be:=@List.length_drop
abbrev gX:=@List.take_left
abbrev ah:=@List.mem_of_getElem?
abbrev iJ:=@Bool.and_false
abbrev cB:=@List.drop_eq_getElem_cons
abbrev gi:=@List.getElem?_of_mem
abbrev fR:=@List.cons_lt_cons_iff
abbrev eu:=@Bool.eq_iff_iff
abbrev dR:=@List.drop_eq_nil_of_le
abbrev cL:=@List.pairwise_iff_getElem
abbrev jz:=@List.takeWhile_cons
abbrev aG:=@decide_eq_false
abbrev aM:=@decide_eq_true
abbrev dp:=@List.pairwise_cons
abbrev eI:=@List.find?_eq_none
abbrev aS:=@List.set_cons_zero
abbrev dC:=@List.filter_cons
abbrev cV:=@Bool.false_eq_true
abbrev jm:=@List.drop_zero
abbrev fF:=@List.mem_filter
abbrev bO:=@List.mem_cons_self
abbrev dK:=@List.length_filter_le
abbrev cg:=@List.getElem?_eq_none
abbrev ju:=@List.drop_length
abbrev cw:=@List.mem_map
abbrev gO:=@List.take_succ_cons
abbrev iK:=@List.drop_succ_cons
abbrev dX:=@List.take_append_drop
abbrev aH:=@List.length_take
abbrev aT:=@List.append_assoc
abbrev gh:=@List.take_append_of_le_length
abbrev gH:=@Nat.min_eq_left
abbrev fJ:=@List.take_left'
abbrev cX:=@List.drop_drop
abbrev fB:=@List.drop_left
abbrev bF:=@List.flatMap_append
abbrev cG:=@List.mem_flatMap
abbrev az:=@List.mem_append
abbrev bH:=@List.length_map
abbrev aL:=@List.getD_eq_getElem?_getD
abbrev bP:=@List.getElem?_map
abbrev aR:=@List.set_cons_succ
abbrev dV:=@List.cons_append
abbrev bI:=@List.length_nil
abbrev bE:=@List.length_singleton
abbrev iZ:=@Nat.lt_of_le_of_lt
abbrev cv:=@List.append_nil
abbrev dL:=@List.mem_of_find?_eq_some
abbrev iq:=@Nat.le_succ_of_le
abbrev cU:=@List.map_append
abbrev iP:=@List.map_congr_left
abbrev cQ:=@List.getElem?_drop
abbrev aB:=@List.getElem?_toArray
abbrev iN:=@Nat.min_def
abbrev cP:=@List.getElem?_take_of_lt
abbrev bT:=@List.length_set
abbrev eJ:=@List.set_append_left
abbrev aX:=@List.getElem?_cons_zero
abbrev aC:=@List.mem_singleton
abbrev jT:=@List.range_succ
abbrev jh:=@List.getElem_take
abbrev kM:=@List.find?_cons
abbrev fq:=@Array.replicate_succ
abbrev fx:=@Array.replicate_zero
abbrev gr:=@List.push_toArray
abbrev fH:=@List.append_toArray
abbrev im:=@UInt8.toNat_inj
abbrev iL:=@List.getElem_of_mem
abbrev cr:=@List.drop_of_length_le
abbrev iV:=@List.length_pos_of_mem
abbrev fO:=@Int.le_refl
abbrev aW:=@decide_eq_true_iff
abbrev eC:=@Bool.not_eq_true'
abbrev jb:=@List.find?_some
abbrev cN:=@List.mem_append_right
abbrev dz:=@Option.isSome_iff_exists
abbrev cC:=@List.mem_map_of_mem
abbrev cE:=@List.mem_append_left
abbrev eN:=@List.pairwise_append
abbrev jM:=@List.pairwise_singleton
abbrev iR:=@List.any_eq_true
abbrev jC:=@List.headD_eq_head?_getD
abbrev ij:=@Nat.le_of_eq
abbrev cK:=@List.findIdx?_eq_some_iff_getElem
abbrev jo:=@List.mem_take_iff_getElem
abbrev fM:=@List.findIdx?_eq_none_iff
abbrev fN:=@Nat.le_succ
abbrev gG:=@List.nodup_cons
abbrev ew:=@Array.getElem?_eq_getElem
abbrev iU:=@Array.getElem?_setIfInBounds
abbrev fD:=@List.length_range
abbrev gS:=@Option.map_eq_some_iff
abbrev jO:=@Option.bind_eq_some_iff
abbrev jg:=@Nat.lt_trichotomy
abbrev kT:=@bne_iff_ne
abbrev dh:=@Int.toNat_natCast
abbrev gj:=@List.mem_of_mem_take
abbrev jf:=@List.filterMap_append
abbrev fX:=@List.mem_filterMap
abbrev kK:=@Nat.not_lt_zero
abbrev ie:=@List.length_replicate
abbrev jP:=@List.getElem?_replicate
abbrev gI:=@Nat.sub_self
abbrev iF:=@List.eq_nil_iff_forall_not_mem
abbrev eW:=@List.foldl_append
abbrev jX:=@Option.toList_some
abbrev jD:=@List.filterMap_cons
abbrev iA:=@List.length_filterMap_le
abbrev gu:=@List.nodup_append
abbrev ib:=@List.filter_append
abbrev iz:=@Bool.false_or
abbrev iu:=@List.mem_erase_of_ne
abbrev iC:=@List.length_erase_of_mem
abbrev ez:=@List.getElem_mem
abbrev dr:=@Array.getD_eq_getD_getElem?
abbrev iX:=@Array.all_eq_true'
abbrev cR:=@List.getElem?_set_self
abbrev ga:=@List.eq_of_mem_replicate
abbrev df:=@List.getElem?_set_ne
abbrev iw:=@List.ext_getElem?
abbrev fU:=@Nat.le_add_right
abbrev jE:=@List.flatten_append
abbrev fQ:=@Array.mem_of_getElem?
theorem kH{P:Prop}(h:P:=by repeat' first|kernel_rfl|decide|(intro _;kernel_rfl)|constructor):P:=h
def Tryz.xH:Go.Shelf.Ren:=⟨fun|169=>204|n=>n,fun|70=>265|9=>9|0=>0|72=>267|37=>233|127=>289|3=>3|5=>5|n=>n,fun|n=>n⟩
theorem Tryz.Rg:Go.Proofs.Lays.n169 Tryz.prog Tryz.xH:=kH
theorem Tryz.vv:Builder.Extra Tryz.prog Tryz.xH:=kH
def Tryz.xB:Go.Shelf.Ren:=⟨fun|165=>201|240=>228|241=>229|276=>250|277=>251|n=>n,fun|70=>265|3=>3|0=>0|4=>4|9=>9|20=>20|72=>267|37=>233|164=>309|5=>5|n=>n,fun|n=>n⟩
theorem Tryz.Q8:Go.Proofs.Lays.n165 Tryz.prog Tryz.xB:=kH
theorem Tryz.vZ:Builder.Extra Tryz.prog Tryz.xB:=kH
open Go.RowKit in
theorem Tryz.Builder_Grow_fresh(B b n:Nat)(w:World)(hB:B≤b)(hbk:w.heap[b]?=some (.cells #[.pointer none,.slice none 0 0] 267 (0,0)))(hBw:B≤w.heap.size)(hn:n≤281474976710656) :
 Calls Tryz.prog 201 #[.pointer (some ⟨b,0,none⟩),.int .i64 n] w fun e w'=>e=.returned (.tuple #[])∧(Lib.BuilderAt 267 5 B b (.pointer (some ⟨b,0,none⟩)) [] w'∧Below B w w'):=Any.Builder_Grow_fresh Tryz.Q8 Tryz.vZ B b n w hB hbk hBw hn
def Tryz.EE:Go.Shelf.Ren:=⟨fun|106=>80|213=>132|265=>190|n=>n,fun|9=>9|3=>3|n=>n,fun|n=>n⟩
theorem Tryz.Rk:Go.Proofs.Lays.n106 Tryz.prog Tryz.EE:=kH
open Go.RowKit in
theorem Tryz.strings_Compare(a b:ByteArray)(w:World) :
 Calls Tryz.prog 80 #[.string a,.string b] w fun e w'=>e=.returned (.int .i64 (Lib.compareBytes a.data.toList b.data.toList))∧w'=w:=Any.strings_Compare Tryz.Rk a b w
def Tryz.Gp:Go.Shelf.Ren:=⟨fun|103=>113|210=>170|206=>212|n=>n,fun|9=>9|4=>4|24=>59|3=>3|n=>n,fun|n=>n⟩
theorem Tryz.Pz:Go.Proofs.Lays.n103 Tryz.prog Tryz.Gp:=kH
open Go.RowKit in
theorem Tryz.strings_CutPrefix(s p:ByteArray)(w:World) :
 Calls Tryz.prog 113 #[.string s,.string p] w fun e w'=>e=.returned (.tuple #[.string ⟨(Lib.trimPrefix s.data.toList p.data.toList).toArray⟩,.bool (Lib.hasPrefix s.data.toList p.data.toList)])∧w'=w:=Any.strings_CutPrefix Tryz.Pz s p w
open Go.RowKit in
theorem Tryz.Builder_String_any_k(B b:Nat)(l:List UInt8)(w:World)(h:Lib.IsBuilderF 267 5 B b (Lib.byteCells l) w)(hBw:B≤w.heap.size) :
 Calls Tryz.prog 204 #[.pointer (some ⟨b,0,none⟩)] w fun e w'=>e=.returned (.string ⟨l.toArray⟩)∧(Lib.IsBuilderF 267 5 B b (Lib.byteCells l) w'∧Below B w w'∧Lib.OthersKept 5 (some b) w w'):=Any.Builder_String_any_k Tryz.Rg Tryz.vv B b l w h hBw
def Tryz.DX:Go.Shelf.Ren:=⟨fun|171=>126|243=>184|246=>222|283=>240|284=>241|285=>242|286=>243|129=>155|317=>257|318=>258|319=>259|320=>260|337=>268|338=>269|n=>n,fun|3=>3|9=>9|2=>2|4=>4|171=>298|0=>0|53=>72|37=>233|5=>5|173=>300|212=>337|51=>230|20=>20|213=>338|46=>169|232=>365|233=>366|n=>n,fun|17=>3|18=>6|19=>7|n=>n⟩
theorem Tryz.NC:Go.Proofs.LaysM.n171 Tryz.prog Tryz.DX:=kH
open Go.RowKit Go.Sort Go.Lib in
theorem Tryz.strconv_Itoa(n:Int)(h0:-9223372036854775808≤n)(h1:n≤9223372036854775807)(w:World)(htab:Lib.TabIs Tryz.prog w "internal/strconv.uint64pow10" .u64 Lib.pow10Tab) :
 Calls Tryz.prog 126 #[.int .i64 n] w fun e w'=>e=.returned (.string ⟨(Lib.itoa n).toArray⟩)∧∃k os,w'=grow (w.drewN k) os:=Any.strconv_Itoa Tryz.NC n h0 h1 w htab
def Tryz.Ei:Go.Shelf.Ren:=⟨fun|172=>193|244=>225|245=>226|247=>245|279=>246|280=>247|281=>248|282=>249|287=>261|316=>262|171=>126|205=>263|321=>270|322=>271|243=>184|246=>222|283=>240|284=>241|285=>242|286=>243|129=>155|317=>257|318=>258|319=>259|320=>260|337=>268|338=>269|n=>n,fun|9=>9|3=>3|75=>31|76=>256|4=>4|5=>5|167=>303|37=>233|0=>0|85=>304|2=>2|168=>306|53=>72|175=>340|46=>169|210=>343|127=>289|145=>350|143=>348|21=>21|171=>298|173=>300|212=>337|51=>230|20=>20|213=>338|232=>365|233=>366|80=>182|n=>n,fun|15=>4|16=>5|17=>3|18=>6|19=>7|n=>n⟩
theorem Tryz.z7:Go.Proofs.LaysC.n172 Tryz.prog Tryz.Ei:=kH
open Go.RowKit in
theorem Tryz.strconv_Atoi_ok(s:ByteArray)(hmax:s.size≤9223372036854775806)(v:Int)(h:Lib.atoiAll s.data.toList=.ok v)(w:World) :
 Calls Tryz.prog 193 #[.string s] w fun e w'=>e=.returned (.tuple #[.int .i64 v,.nilIface])∧(w'=w∨∃t,w'=Lib.bytesWorld w 5 t):=Any.strconv_Atoi_ok Tryz.z7 s hmax v h w
open Go.RowKit in
theorem Tryz.strconv_Atoi_syntax(s:ByteArray)(hlim:s.size≤281474976710656)(h:Lib.atoiAll s.data.toList=Lib.atoiAll [])(ev:Value)(w:World)(hv:w.cell? ⟨4,0,none⟩=some ev)(hev:ev=.nilIface∨∃te pe,ev=.iface te pe) :
 Calls Tryz.prog 193 #[.string s] w fun e w'=>∃N,e=.returned (.tuple #[.int .i64 (0),.iface 306 (.pointer (some ⟨N,0,none⟩))])∧w.heap.size≤N∧w'.heap[N]?=some (.cells #[.string ⟨#[65,116,111,105]⟩,.string s,ev] 343 (0,0))∧Below w.heap.size w w':=Any.strconv_Atoi_syntax Tryz.z7 s hlim h ev w hv hev
open Go.RowKit in
theorem Tryz.strconv_Atoi_range(s:ByteArray)(hlim:s.size≤281474976710656)(h:Lib.atoiAll s.data.toList=.range)(ev:Value)(w:World)(hv:w.cell? ⟨5,0,none⟩=some ev)(hev:ev=.nilIface∨∃te pe,ev=.iface te pe) :
 Calls Tryz.prog 193 #[.string s] w fun e w'=>∃N,e=.returned (.tuple #[.int .i64 (Lib.atoiSat s.data.toList),.iface 306 (.pointer (some ⟨N,0,none⟩))])∧w.heap.size≤N∧w'.heap[N]?=some (.cells #[.string ⟨#[65,116,111,105]⟩,.string s,ev] 343 (0,0))∧Below w.heap.size w w':=Any.strconv_Atoi_range Tryz.z7 s hlim h ev w hv hev
def Tryz.Gl:Go.Shelf.Ren:=⟨fun|144=>216|143=>168|219=>210|217=>231|225=>232|224=>233|267=>234|266=>252|314=>253|n=>n,fun|9=>9|4=>4|3=>3|5=>5|46=>169|146=>270|51=>230|n=>n,fun|1=>0|n=>n⟩
theorem Tryz.Qw:Go.Proofs.Lays.n144 Tryz.prog Tryz.Gl:=kH
open Go.RowKit Go.Lib in
theorem Tryz.strings_Contains_one(s:ByteArray)(c:UInt8)(w:World) :
 Calls Tryz.prog 216 #[.string s,.string ⟨#[c]⟩] w fun e w'=>e=.returned (.bool (decide (0≤Lib.indexByte s.data.toList c)))∧w'=w:=Any.strings_Contains_one Tryz.Qw s c w
def Tryz.GS:Go.Shelf.Ren:=⟨fun|145=>115|220=>172|219=>210|217=>231|225=>232|224=>233|267=>234|266=>252|314=>253|n=>n,fun|9=>9|4=>4|59=>185|3=>3|5=>5|46=>169|146=>270|51=>230|n=>n,fun|1=>0|n=>n⟩
theorem Tryz.QT:Go.Proofs.Lays.n145 Tryz.prog Tryz.GS:=kH
open Go.RowKit Go.Lib in
theorem Tryz.strings_Cut(s sep:ByteArray)(m:Int)(w:World)(hs:s.size<4294967281)(hm:w.cell? ⟨0,0,none⟩=some (.int .i64 m)) :
 Calls Tryz.prog 115 #[.string s,.string sep] w fun e w'=>e=.returned (.tuple #[.string ⟨(Lib.cut s.data.toList sep.data.toList).1.toArray⟩,.string ⟨(Lib.cut s.data.toList sep.data.toList).2.1.toArray⟩,.bool (Lib.cut s.data.toList sep.data.toList).2.2])∧∃n,w'=w.drewN n:=Any.strings_Cut Tryz.QT s sep m w hs hm
def Tryz.Ft:Go.Shelf.Ren:=⟨fun|146=>66|221=>111|268=>166|138=>167|143=>168|195=>208|197=>203|218=>209|219=>210|260=>230|217=>231|225=>232|224=>233|267=>234|266=>252|314=>253|n=>n,fun|9=>9|31=>44|3=>3|4=>4|0=>0|105=>268|21=>21|5=>5|46=>169|119=>312|139=>315|138=>314|146=>270|51=>230|n=>n,fun|1=>0|3=>1|4=>2|n=>n⟩
theorem Tryz.Q7:Go.Proofs.Lays.n146 Tryz.prog Tryz.Ft:=kH
open Go.RowKit Go.Lib in
theorem Tryz.strings_Split(s sep:ByteArray)(m:Int)(w:World)(hs:s.size<4294967281)(hm:w.cell? ⟨0,0,none⟩=some (.int .i64 m))(h1:1≤sep.size) :
 Calls Tryz.prog 66 #[.string s,.string sep] w fun e w'=>
  e=.returned (.slice (some ⟨w.heap.size,0,none⟩) (Lib.countB s sep+1) (Lib.countB s sep+1))∧w'=w.alloc (.cells ((Lib.splitB sep 0 (Lib.countB s sep) s).map Value.string).toArray 9):=Any.strings_Split Tryz.Q7 (by kernel_rfl) s sep m w hs hm h1
def Tryz.FZ:Go.Shelf.Ren:=⟨fun|147=>97|221=>111|268=>166|138=>167|143=>168|195=>208|197=>203|218=>209|219=>210|260=>230|217=>231|225=>232|224=>233|267=>234|266=>252|314=>253|n=>n,fun|9=>9|3=>3|31=>44|4=>4|0=>0|105=>268|21=>21|5=>5|46=>169|119=>312|139=>315|138=>314|146=>270|51=>230|n=>n,fun|1=>0|3=>1|4=>2|n=>n⟩
theorem Tryz.Rj:Go.Proofs.Lays.n147 Tryz.prog Tryz.FZ:=kH
open Go.RowKit Go.Lib in
theorem Tryz.strings_SplitN(s sep:ByteArray)(n:Nat)(m:Int)(w:World)(hs:s.size<4294967281)(hm:w.cell? ⟨0,0,none⟩=some (.int .i64 m))(h1:1≤sep.size)(hn:1≤n)(hn63:n≤9223372036854775807) :
 Calls Tryz.prog 97 #[.string s,.string sep,.int .i64 n] w fun e w'=>
  e=.returned (.slice (some ⟨w.heap.size,0,none⟩) (Lib.splitB sep 0 (min n (s.size+1)-1) s).length (min n (s.size+1)))∧w'=w.alloc (.cells (Lib.cellsOf (Lib.splitB sep 0 (min n (s.size+1)-1) s) (min n (s.size+1))) 9):=Any.strings_SplitN Tryz.Rj (by kernel_rfl) s sep n m w hs hm h1 hn hn63
def Tryz.xK:Go.Shelf.Ren:=⟨fun|154=>159|138=>167|165=>201|143=>168|166=>202|197=>203|169=>204|195=>208|218=>209|240=>228|241=>229|219=>210|260=>230|276=>250|277=>251|217=>231|225=>232|224=>233|267=>234|266=>252|314=>253|n=>n,fun|9=>9|3=>3|4=>4|72=>267|0=>0|76=>256|105=>268|21=>21|5=>5|70=>265|20=>20|37=>233|75=>31|127=>289|164=>309|46=>169|119=>312|139=>315|138=>314|146=>270|51=>230|80=>182|n=>n,fun|1=>0|3=>1|4=>2|n=>n⟩
theorem Tryz.JF:Go.Proofs.Lays.n154 Tryz.prog Tryz.xK:=kH
theorem Tryz.vo:Builder.Extra Tryz.prog Tryz.xK:=kH
open Go.RowKit Go.Lib in
theorem Tryz.strings_Replace_none(s Bu new:ByteArray)(n:Int)(w:World)(h:Bu=new∨n=0) :
 Calls Tryz.prog 159 #[.string s,.string Bu,.string new,.int .i64 n] w fun e w'=>e=.returned (.string s)∧w'=w:=Any.strings_Replace_none Tryz.JF s Bu new n w h
open Go.RowKit Go.Lib in
theorem Tryz.strings_Replace(s Bu new:ByteArray)(n:Int)(m:Int)(w:World)(hs:s.size<4294967281)(hm:w.cell? ⟨0,0,none⟩=some (.int .i64 m))(h1:1≤Bu.size)(hlen:s.size+Lib.countB s Bu*new.size≤140737488355328) :
 Calls Tryz.prog 159 #[.string s,.string Bu,.string new,.int .i64 n] w fun e w'=>
  e=.returned (.string ⟨(Lib.replace s.data.toList Bu.data.toList new.data.toList n).toArray⟩)∧Below w.heap.size w w':=Any.strings_Replace Tryz.JF Tryz.vo s Bu new n m w hs hm h1 hlen
def Tryz.xM:Go.Shelf.Ren:=⟨fun|155=>102|154=>159|138=>167|165=>201|143=>168|166=>202|197=>203|169=>204|195=>208|218=>209|240=>228|241=>229|219=>210|260=>230|276=>250|277=>251|217=>231|225=>232|224=>233|267=>234|266=>252|314=>253|n=>n,fun|9=>9|3=>3|4=>4|72=>267|0=>0|76=>256|105=>268|21=>21|5=>5|70=>265|20=>20|37=>233|75=>31|127=>289|164=>309|46=>169|119=>312|139=>315|138=>314|146=>270|51=>230|80=>182|n=>n,fun|1=>0|3=>1|4=>2|n=>n⟩
theorem Tryz.PO:Go.Proofs.Lays.n155 Tryz.prog Tryz.xM:=kH
theorem Tryz.vz:Builder.Extra Tryz.prog Tryz.xM:=kH
open Go.RowKit Go.Lib in
theorem Tryz.strings_ReplaceAll(s Bu new:ByteArray)(m:Int)(w:World)(hs:s.size<4294967281)(hm:w.cell? ⟨0,0,none⟩=some (.int .i64 m))(h1:1≤Bu.size)(hlen:s.size+Lib.countB s Bu*new.size≤140737488355328) :
 Calls Tryz.prog 102 #[.string s,.string Bu,.string new] w fun e w'=>
  e=.returned (.string ⟨(Lib.replaceAll s.data.toList Bu.data.toList new.data.toList).toArray⟩)∧Below w.heap.size w w':=Any.strings_ReplaceAll Tryz.PO Tryz.vz s Bu new m w hs hm h1 hlen
def Tryz.Gx:Go.Shelf.Ren:=⟨fun|212=>160|263=>205|264=>206|n=>n,fun|46=>169|51=>230|146=>270|53=>72|148=>272|n=>n,fun|n=>n⟩
theorem Tryz.PW:Go.Proofs.Lays.n212 Tryz.prog Tryz.Gx:=kH
open Go.RowKit Go.Lib in
theorem Tryz.bits_Mul(x y:Nat)(hx:x<18446744073709551616)(hy:y<18446744073709551616)(w:World) :
 Calls Tryz.prog 160 #[.int .u64 x,.int .u64 y] w fun e w'=>e=.returned (.tuple #[.int .u64 ((x*y/18446744073709551616:Nat):Int),.int .u64 ((x*y%18446744073709551616:Nat):Int)])∧w'=w:=Any.bits_Mul Tryz.PW x y hx hy w
def Tryz.EJ:Go.Shelf.Ren:=⟨fun|229=>213|n=>n,fun|9=>9|40=>278|31=>44|152=>292|3=>3|0=>0|4=>4|21=>21|154=>294|n=>n,fun|n=>n⟩
theorem Tryz.Qb:Go.Proofs.Lays.n229 Tryz.prog Tryz.EJ:=kH
open Go.RowKit Go.Lib in
theorem Tryz.strings_FieldsFunc(g:Nat)(lb:Array Value)(eg:∀args w,(callFunc g args).run Tryz.prog w=.ok (.enter g args) w)(p:Nat→Bool)(s:ByteArray)(w:World)(hs:s.size≤4294967296)(hp:PredAt Tryz.prog g lb encR p w) :
 Calls Tryz.prog 213 #[.string s,.func (.func g) #[] lb] w fun e w'=>∃A,e=.returned (.slice (some ⟨A,0,none⟩) (Lib.goFieldsP p s).length (Lib.goFieldsP p s).length)∧w.heap.size≤A ∧
  w'.ownsRow w.heap.size 9 1 (.slice (some ⟨A,0,none⟩) (Lib.goFieldsP p s).length (Lib.goFieldsP p s).length) (Lib.goFieldsP p s).length ((Lib.goFieldsP p s).map Value.string)∧Below w.heap.size w w':=Any.strings_FieldsFunc Tryz.Qb g lb eg p s w hs hp (by kernel_rfl) (by kernel_rfl)
def Tryz.Gb:Go.Shelf.Ren:=⟨fun|110=>114|109=>171|n=>n,fun|31=>44|9=>9|4=>4|3=>3|0=>0|n=>n,fun|n=>n⟩
theorem Tryz.JC:Go.Proofs.Lays.n110 Tryz.prog Tryz.Gb:=kH
open Go.Lib in
theorem Tryz.slices_Contains_string(b off n c:Nat)(zs:List ByteArray)(x:ByteArray)(w:World)(hz:n≤zs.length)(hbig:n≤9223372036854775807)(hc:∀j,j<zs.length→w.cell? ⟨b,off+j,none⟩=some (.string (zs.getD j ByteArray.empty))) :
 Calls Tryz.prog 114 #[.slice (some ⟨b,off,none⟩) n c,.string x] w fun e w'=>e=.returned (.bool (Lib.containsS (zs.take n) x))∧w'=w:=Any.slices_Contains_string Tryz.JC b off n c zs x w hz hbig hc
open Go.Lib in
theorem Tryz.slices_Contains_string_empty(a:Option Addr)(c:Nat)(x:ByteArray)(w:World) :
 Calls Tryz.prog 114 #[.slice a 0 c,.string x] w fun e w'=>e=.returned (.bool false)∧w'=w:=Any.slices_Contains_string_empty Tryz.JC a c x w
end Go.Proofs
