/- Parts of the proof of TopReaches. -/
import Derived.Lib.ItoaNum
import Derived.Lib.Split
import Derived.KernelRfl
import Derived.Shelf.Strings.Builder1
import Derived.Shelf.Strings.OnBuilder
import Derived.Shelf.Small.Wraps
import Derived.Shelf.Strconv.Itoa3
import Derived.Shelf.Strconv.Itoa4
import Derived.Shelf.LaysM
import Derived.Shelf.Strings.Cut
import Derived.Shelf.Strings.Split
import Derived.Test.YtgadhchejmlfjaaGreatDoorA1
set_option linter.unusedVariables false
set_option maxRecDepth 20000
section
namespace Go.Proofs.YtgadhchejmlfjaaGreatDoor.Txt
open Go
theorem index_mid (c:UInt8) (b:List UInt8):∀ a:List UInt8,c ∉ a → Lib.index (a ++ c :: b) [c] = a.length
 | [],_=>by simp [Lib.index,List.isPrefixOf]
 | x :: a,h=>by
  have hx:(c == x) = false:=by simp;intro e;exact h (by simp [e])
  have ih:=index_mid c b a (fun e=>h (List.mem_cons_of_mem _ e))
  rw [List.cons_append,Lib.index]
  rw [show ([c].isPrefixOf (x :: (a ++ c :: b))) = false by simp [List.isPrefixOf,hx],ih]
  rw [if_neg (by decide),if_neg (by simp)]
  simp
theorem index_none (c:UInt8):∀ a:List UInt8,c ∉ a → Lib.index a [c] = -1
 | [],_=>by simp [Lib.index]
 | x :: a,h=>by
  have hx:(c == x) = false:=by simp;intro e;exact h (by simp [e])
  have ih:=index_none c a (fun e=>h (List.mem_cons_of_mem _ e))
  rw [Lib.index,show ([c].isPrefixOf (x :: a)) = false by simp [List.isPrefixOf,hx],ih]
  rw [if_neg (by decide),if_pos (by decide)]
theorem cut_mid (c:UInt8) (a b:List UInt8) (h:c ∉ a):Lib.cut (a ++ c :: b) [c] = (a,b,true):=by
 unfold Lib.cut
 rw [index_mid c b a h,if_pos (by omega)]
 simp
theorem count_none (c:UInt8) (a:List UInt8) (h:c ∉ a) (f:Nat):Lib.countFrom [c] f a = 0:=by
 cases f with
 | zero=>rfl
 | succ f=>rw [Lib.countFrom,index_none c a h,if_pos (by decide)]
theorem count_mid (c:UInt8) (a b:List UInt8) (h:c ∉ a) (f:Nat):Lib.countFrom [c] (f + 1) (a ++ c :: b) = 1 + Lib.countFrom [c] f b:=by
 rw [Lib.countFrom,index_mid c b a h,if_neg (by simp)]
 congr 2
 simp
theorem splitK_mid (c:UInt8) (a b:List UInt8) (h:c ∉ a) (k:Nat):Lib.splitK [c] 0 (k + 1) (a ++ c :: b) = a :: Lib.splitK [c] 0 k b:=by
 rw [Lib.splitK,index_mid c b a h,if_neg (by simp)]
 simp
def joinC (c:UInt8):List (List UInt8) → List UInt8
 | []=>[]
 | [a]=>a
 | a :: b :: l=>a ++ c :: joinC c (b :: l)
theorem joinC_le (c:UInt8):∀ l:List (List UInt8),l.length ≤ (joinC c l).length + 1
 | []=>by simp
 | [a]=>by simp
 | a :: b :: l=>by
  have:=joinC_le c (b :: l)
  simp only [joinC,List.length_append,List.length_cons] at *
  omega
theorem count_join (c:UInt8):∀ (l:List (List UInt8)) (f:Nat),l ≠ [] → (∀ a ∈ l,c ∉ a) → l.length ≤ f + 1 → Lib.countFrom [c] f (joinC c l) = l.length - 1
 | [],_,h,_,_=>absurd rfl h
 | [a],f,_,h,_=>by rw [joinC,count_none c a (h a (by simp)) f];rfl
 | a :: b :: l,f,_,h,hf=>by
  obtain ⟨f,rfl⟩:∃ g,f = g + 1:=⟨f - 1,by simp at hf;omega⟩
  rw [joinC,count_mid c a _ (h a (by simp)) f,count_join c (b :: l) f (by simp) (fun x hx=>h x (List.mem_cons_of_mem _ hx)) (by simp at hf ⊢;omega)]
  simp;omega
theorem splitK_join (c:UInt8):∀ (l:List (List UInt8)),l ≠ [] → (∀ a ∈ l,c ∉ a) → Lib.splitK [c] 0 (l.length - 1) (joinC c l) = l
 | [],h,_=>absurd rfl h
 | [a],_,h=>rfl
 | a :: b :: l,_,h=>by
  have ih:=splitK_join c (b :: l) (by simp) (fun x hx=>h x (List.mem_cons_of_mem _ hx))
  rw [show (a :: b :: l).length - 1 = ((b :: l).length - 1) + 1 by simp,joinC,splitK_mid c a _ (h a (by simp)),ih]
theorem bytes_ext (x:ByteArray):x = ⟨x.data.toList.toArray⟩:=by cases x;simp
theorem splitB_join (c:UInt8) (l:List (List UInt8)) (h0:l ≠ []) (h:∀ a ∈ l,c ∉ a) :
  Lib.countB ⟨(joinC c l).toArray⟩ ⟨#[c]⟩ = l.length - 1 ∧ Lib.splitB ⟨#[c]⟩ 0 (l.length - 1) ⟨(joinC c l).toArray⟩ = l.map fun a=>⟨a.toArray⟩:=by
 constructor
 ·show Lib.count _ _ = _
  unfold Lib.count
  exact count_join c l _ h0 h (by have:=joinC_le c l;simp at this ⊢;omega)
 ·have e:=Lib.splitB_data ⟨#[c]⟩ 0 (l.length - 1) ⟨(joinC c l).toArray⟩
  rw [show (⟨#[c]⟩:ByteArray).data.toList = [c] from rfl,show (⟨(joinC c l).toArray⟩:ByteArray).data.toList = joinC c l from by simp,splitK_join c l h0 h] at e
  have e2:=congrArg (List.map fun a:List UInt8=>(⟨a.toArray⟩:ByteArray)) e
  rw [List.map_map] at e2
  rw [← e2]
  exact (List.map_id' _).symm.trans (List.map_congr_left fun x _=>bytes_ext x)
def digs:Nat → Nat → List UInt8
 | 0,_=>[]
 | f + 1,u=>if u < 10 then [UInt8.ofNat (48 + u)] else digs f (u / 10) ++ [UInt8.ofNat (48 + u % 10)]
theorem digs_eq:∀ (f u:Nat),u < 10 ^ (f + 1) → Lib.decDigits u = digs (f + 1) u
 | 0,u,h=>by
  rw [Lib.decDigits,dif_pos (by simpa using h),digs,if_pos (by simpa using h)]
 | f + 1,u,h=>by
  rw [Lib.decDigits,digs]
  by_cases h1:u < 10
  ·rw [dif_pos h1,if_pos h1]
  ·rw [dif_neg h1,if_neg h1,digs_eq f (u / 10) (by rw [Nat.pow_succ] at h;omega)]
theorem itoa_nat (n:Nat) (h:n < 1000000):Lib.itoa n = digs 6 n:=by
 unfold Lib.itoa
 rw [if_neg (by omega),Int.toNat_natCast]
 exact digs_eq 5 n (by simpa using h)
def numB (l:List UInt8):Nat:=l.foldl (fun a c=>a * 10 + (c.toNat - 48)) 0
def numOk (l:List UInt8):Bool:=!l.isEmpty && decide (l.length ≤ 15) && l.all (fun c=>decide (48 ≤ c.toNat ∧ c.toNat ≤ 57)) && (l == [48] || l.head? != some 48)
theorem numB_take (l:List UInt8) (k:Nat) (h:k < l.length):numB (l.take (k + 1)) = numB (l.take k) * 10 + (l[k].toNat - 48):=by
 unfold numB
 rw [List.take_add_one,List.foldl_append,List.getElem?_eq_getElem h]
 rfl
theorem numB_lt (l:List UInt8) (hd:∀ c ∈ l,48 ≤ c.toNat ∧ c.toNat ≤ 57):∀ k,k ≤ l.length → numB (l.take k) < 10 ^ k
 | 0,_=>by simp [numB]
 | k + 1,h=>by
  have ih:=numB_lt l hd k (by omega)
  rw [numB_take l k (by omega),Nat.pow_succ]
  have:=hd l[k] (List.getElem_mem (by omega))
  omega
def rightN (n:Nat):Bool:=numOk (digs 6 n) && numB (digs 6 n) == n && (digs 6 n).all (fun c=>c != 32 && c != 10)
theorem right_all:(List.range 1500).all rightN = true:=by kernel_rfl
theorem right_at (n:Nat) (h:n < 1500):numOk (Lib.itoa n) = true ∧ numB (Lib.itoa n) = n ∧ 32 ∉ Lib.itoa n ∧ 10 ∉ Lib.itoa n ∧ (Lib.itoa n).length ≤ 15:=by
 rw [itoa_nat n (by omega)]
 have h1:=List.all_eq_true.1 right_all n (List.mem_range.2 h)
 unfold rightN at h1
 simp only [Bool.and_eq_true,beq_iff_eq,List.all_eq_true,bne_iff_ne,ne_eq] at h1
 refine ⟨h1.1.1,h1.1.2,fun e=>(h1.2 32 e).1 rfl,fun e=>(h1.2 10 e).2 rfl,?_⟩
 have h2:=h1.1.1
 unfold numOk at h2
 simp only [Bool.and_eq_true,decide_eq_true_eq] at h2
 exact h2.1.1.2
def lineB (x:Int × Int × Int):List UInt8:=joinC 32 [Lib.itoa x.1,Lib.itoa x.2.1,Lib.itoa x.2.2]
def printB (l:List (Int × Int × Int)):List UInt8:=l.flatMap fun x=>lineB x ++ [10]
theorem printB_cons (x:Int × Int × Int) (l:List (Int × Int × Int)):printB (x :: l) = lineB x ++ 10 :: printB l:=by simp [printB]
theorem printB_snoc (l:List (Int × Int × Int)) (x:Int × Int × Int):printB (l ++ [x]) = printB l ++ (lineB x ++ [10]):=by simp [printB]
def Few (x:Int × Int × Int):Prop:=(0 ≤ x.1 ∧ x.1 < 1500) ∧ (0 ≤ x.2.1 ∧ x.2.1 < 1500) ∧ (0 ≤ x.2.2 ∧ x.2.2 < 1500)
theorem right_int (a:Int) (h:0 ≤ a ∧ a < 1500):numOk (Lib.itoa a) = true ∧ (numB (Lib.itoa a):Int) = a ∧ 32 ∉ Lib.itoa a ∧ 10 ∉ Lib.itoa a ∧ (Lib.itoa a).length ≤ 15:=by
 obtain ⟨n,rfl⟩:∃ n:Nat,a = n:=⟨a.toNat,by omega⟩
 have:=right_at n (by omega)
 exact ⟨this.1,by rw [this.2.1],this.2.2⟩
theorem line_no10 (x:Int × Int × Int) (h:Few x):(10:UInt8) ∉ lineB x:=by
 have h1:=(right_int _ h.1).2.2.2.1
 have h2:=(right_int _ h.2.1).2.2.2.1
 have h3:=(right_int _ h.2.2).2.2.2.1
 simp only [lineB,joinC,List.mem_append,List.mem_cons,not_or]
 exact ⟨h1,by decide,h2,by decide,h3⟩
theorem line_len (x:Int × Int × Int) (h:Few x):(lineB x).length ≤ 47:=by
 have h1:=(right_int _ h.1).2.2.2.2
 have h2:=(right_int _ h.2.1).2.2.2.2
 have h3:=(right_int _ h.2.2).2.2.2.2
 simp only [lineB,joinC,List.length_append,List.length_cons]
 omega
theorem print_len (l:List (Int × Int × Int)) (h:∀ x ∈ l,Few x):(printB l).length ≤ l.length * 48:=by
 induction l with
 | nil=>simp [printB]
 | cons x l ih=>
  have h1:=line_len x (h x (by simp))
  have h2:=ih (fun y hy=>h y (List.mem_cons_of_mem _ hy))
  rw [printB_cons]
  simp only [List.length_append,List.length_cons]
  omega
theorem cut_print (x:Int × Int × Int) (l:List (Int × Int × Int)) (h:Few x):Lib.cut (printB (x :: l)) [10] = (lineB x,printB l,true):=by
 rw [printB_cons];exact cut_mid 10 _ _ (line_no10 x h)
theorem print_ne (x:Int × Int × Int) (l:List (Int × Int × Int)):printB (x :: l) ≠ []:=by rw [printB_cons];simp
end Go.Proofs.YtgadhchejmlfjaaGreatDoor.Txt
end
section
namespace Go.Proofs.YtgadhchejmlfjaaGreatDoor.Shf
open Go.Shelf Go.Proofs Go.RowKit Go.Esc
def lays156_ren:Go.Shelf.Ren:=⟨fun | 156=>80 | 165=>141 | 166=>70 | 169=>72 | 240=>129 | 241=>213 | 276=>203 | 277=>278 | n=>n,fun | 31=>170 | 9=>9 | 3=>3 | 4=>4 | 0=>0 | 20=>20 | 72=>152 | 76=>155 | 70=>149 | 37=>150 | 75=>154 | 127=>239 | 164=>288 | 5=>5 | 80=>158 | n=>n,fun | n=>n⟩
theorem lays156:Go.Proofs.Lays.n156 Tryz.prog lays156_ren:={
 mixed:=by kernel_rfl,f156:=Tryz.func80.trans (congrArg some (by kernel_rfl)),f165:=Tryz.func141.trans (congrArg some (by kernel_rfl)),f166:=Tryz.func70.trans (congrArg some (by kernel_rfl)),f169:=Tryz.func72.trans (congrArg some (by kernel_rfl)),f240:=Tryz.func129.trans (congrArg some (by kernel_rfl)),f241:=Tryz.func213.trans (congrArg some (by kernel_rfl)),f276:=Tryz.func203.trans (congrArg some (by kernel_rfl)),f277:=Tryz.func278.trans (congrArg some (by kernel_rfl)),t0:=Tryz.underlying0,a0:=Tryz.isAgg0,z0:=Tryz.sizeOf0,v0:=Tryz.zeroValue0,t3:=Tryz.underlying3,a3:=Tryz.isAgg3,z3:=Tryz.sizeOf3,v3:=Tryz.zeroValue3,t4:=Tryz.underlying4,a4:=Tryz.isAgg4,z4:=Tryz.sizeOf4,v4:=Tryz.zeroValue4,t9:=Tryz.underlying9,a9:=Tryz.isAgg9,z9:=Tryz.sizeOf9,v9:=Tryz.zeroValue9,t20:=Tryz.underlying20,a20:=Tryz.isAgg20,z20:=Tryz.sizeOf20,v20:=Tryz.zeroValue20,t31:=Tryz.underlying170,a31:=Tryz.isAgg170,z31:=Tryz.sizeOf170,v31:=Tryz.zeroValue170,t37:=Tryz.underlying150,a37:=Tryz.isAgg150,z37:=Tryz.sizeOf150,v37:=Tryz.zeroValue150,t70:=Tryz.underlying149,a70:=Tryz.isAgg149,z70:=Tryz.sizeOf149,v70:=Tryz.zeroValue149,t72:=Tryz.underlying152,a72:=Tryz.isAgg152,z72:=Tryz.sizeOf152,v72:=Tryz.zeroValue152,t75:=Tryz.underlying154,a75:=Tryz.isAgg154,z75:=Tryz.sizeOf154,v75:=Tryz.zeroValue154,t76:=Tryz.underlying155,a76:=Tryz.isAgg155,z76:=Tryz.sizeOf155,v76:=Tryz.zeroValue155,t127:=Tryz.underlying239,a127:=Tryz.isAgg239,z127:=Tryz.sizeOf239,v127:=Tryz.zeroValue239,t164:=Tryz.underlying288,a164:=Tryz.isAgg288,z164:=Tryz.sizeOf288,v164:=Tryz.zeroValue288 }
theorem Builder_Extra_156:Builder.Extra Tryz.prog lays156_ren:={
 sizeBuilder:=by kernel_rfl,liesBuilder:=by kernel_rfl,t5:=Tryz.underlying5,a5:=Tryz.isAgg5,z5:=Tryz.sizeOf5,v5:=Tryz.zeroValue5,infoByte:=by kernel_rfl,cellsByte:=by kernel_rfl,sizeByte:=by kernel_rfl,neB5:=by decide }
def lays103_ren:Go.Shelf.Ren:=⟨fun | 103=>355 | 210=>370 | 206=>376 | n=>n,fun | 9=>9 | 4=>4 | 24=>421 | 3=>3 | n=>n,fun | n=>n⟩
theorem lays103:Go.Proofs.Lays.n103 Tryz.prog lays103_ren:={
 mixed:=by kernel_rfl,f103:=Tryz.func355.trans (congrArg some (by kernel_rfl)),f206:=Tryz.func376.trans (congrArg some (by kernel_rfl)),f210:=Tryz.func370.trans (congrArg some (by kernel_rfl)),t3:=Tryz.underlying3,a3:=Tryz.isAgg3,z3:=Tryz.sizeOf3,v3:=Tryz.zeroValue3,t4:=Tryz.underlying4,a4:=Tryz.isAgg4,z4:=Tryz.sizeOf4,v4:=Tryz.zeroValue4,t9:=Tryz.underlying9,a9:=Tryz.isAgg9,z9:=Tryz.sizeOf9,v9:=Tryz.zeroValue9,t24:=Tryz.underlying421,a24:=Tryz.isAgg421,z24:=Tryz.sizeOf421,v24:=Tryz.zeroValue421 }
def laysM171_ren:Go.Shelf.Ren:=⟨fun | 171=>134 | 243=>204 | 246=>206 | 283=>267 | 284=>268 | 285=>269 | 286=>270 | 129=>317 | 317=>316 | 318=>318 | 319=>319 | 320=>320 | 337=>351 | 338=>352 | n=>n,fun | 3=>3 | 9=>9 | 2=>2 | 4=>4 | 171=>327 | 0=>0 | 53=>328 | 37=>150 | 5=>5 | 173=>331 | 212=>384 | 51=>217 | 20=>20 | 213=>385 | 46=>386 | 232=>425 | 233=>426 | n=>n,fun | 17=>2 | 18=>4 | 19=>5 | n=>n⟩
theorem laysM171:Go.Proofs.LaysM.n171 Tryz.prog laysM171_ren:={
 mixed:=by kernel_rfl,f129:=Tryz.func317.trans (congrArg some (by kernel_rfl)),f171:=Tryz.func134.trans (congrArg some (by kernel_rfl)),f243:=Tryz.func204.trans (congrArg some (by kernel_rfl)),f246:=Tryz.func206.trans (congrArg some (by kernel_rfl)),f283:=Tryz.func267.trans (congrArg some (by kernel_rfl)),f284:=Tryz.func268.trans (congrArg some (by kernel_rfl)),f285:=Tryz.func269.trans (congrArg some (by kernel_rfl)),f286:=Tryz.func270.trans (congrArg some (by kernel_rfl)),f317:=Tryz.func316.trans (congrArg some (by kernel_rfl)),f318:=Tryz.func318.trans (congrArg some (by kernel_rfl)),f319:=Tryz.func319.trans (congrArg some (by kernel_rfl)),f320:=Tryz.func320.trans (congrArg some (by kernel_rfl)),f337:=Tryz.func351.trans (congrArg some (by kernel_rfl)),f338:=Tryz.func352.trans (congrArg some (by kernel_rfl)),t0:=Tryz.underlying0,a0:=Tryz.isAgg0,z0:=Tryz.sizeOf0,v0:=Tryz.zeroValue0,t2:=Tryz.underlying2,a2:=Tryz.isAgg2,z2:=Tryz.sizeOf2,v2:=Tryz.zeroValue2,t3:=Tryz.underlying3,a3:=Tryz.isAgg3,z3:=Tryz.sizeOf3,v3:=Tryz.zeroValue3,t4:=Tryz.underlying4,a4:=Tryz.isAgg4,z4:=Tryz.sizeOf4,v4:=Tryz.zeroValue4,t5:=Tryz.underlying5,a5:=Tryz.isAgg5,z5:=Tryz.sizeOf5,v5:=Tryz.zeroValue5,t9:=Tryz.underlying9,a9:=Tryz.isAgg9,z9:=Tryz.sizeOf9,v9:=Tryz.zeroValue9,t20:=Tryz.underlying20,a20:=Tryz.isAgg20,z20:=Tryz.sizeOf20,v20:=Tryz.zeroValue20,t37:=Tryz.underlying150,a37:=Tryz.isAgg150,z37:=Tryz.sizeOf150,v37:=Tryz.zeroValue150,t46:=Tryz.underlying386,a46:=Tryz.isAgg386,z46:=Tryz.sizeOf386,v46:=Tryz.zeroValue386,t51:=Tryz.underlying217,a51:=Tryz.isAgg217,z51:=Tryz.sizeOf217,v51:=Tryz.zeroValue217,t53:=Tryz.underlying328,a53:=Tryz.isAgg328,z53:=Tryz.sizeOf328,v53:=Tryz.zeroValue328,t171:=Tryz.underlying327,a171:=Tryz.isAgg327,z171:=Tryz.sizeOf327,v171:=Tryz.zeroValue327,t173:=Tryz.underlying331,a173:=Tryz.isAgg331,z173:=Tryz.sizeOf331,v173:=Tryz.zeroValue331,t212:=Tryz.underlying384,a212:=Tryz.isAgg384,z212:=Tryz.sizeOf384,v212:=Tryz.zeroValue384,t213:=Tryz.underlying385,a213:=Tryz.isAgg385,z213:=Tryz.sizeOf385,t232:=Tryz.underlying425,a232:=Tryz.isAgg425,z232:=Tryz.sizeOf425,v232:=Tryz.zeroValue425,t233:=Tryz.underlying426,a233:=Tryz.isAgg426,z233:=Tryz.sizeOf426,v233:=Tryz.zeroValue426,g17:=by kernel_rfl,g18:=by kernel_rfl,g19:=by kernel_rfl,i0:=by kernel_rfl,i2:=by kernel_rfl,i3:=by kernel_rfl,i4:=by kernel_rfl,i5:=by kernel_rfl,i9:=by kernel_rfl,i20:=by kernel_rfl,i37:=by kernel_rfl,i46:=by kernel_rfl,i51:=by kernel_rfl,i53:=by kernel_rfl,i171:=by kernel_rfl,i173:=by kernel_rfl,i212:=by kernel_rfl,i232:=by kernel_rfl,i233:=by kernel_rfl,m17:=by kernel_rfl,m18:=by kernel_rfl,m19:=by kernel_rfl }
def lays173_ren:Go.Shelf.Ren:=⟨fun | 173=>136 | 246=>206 | 283=>267 | 284=>268 | 285=>269 | 286=>270 | 129=>317 | 317=>316 | 318=>318 | 319=>319 | 320=>320 | 337=>351 | 338=>352 | n=>n,fun | 2=>2 | 3=>3 | 9=>9 | 4=>4 | 171=>327 | 0=>0 | 53=>328 | 37=>150 | 5=>5 | 173=>331 | 212=>384 | 51=>217 | 20=>20 | 213=>385 | 46=>386 | 232=>425 | 233=>426 | n=>n,fun | 17=>2 | 18=>4 | 19=>5 | n=>n⟩
theorem lays173:Go.Proofs.Lays.n173 Tryz.prog lays173_ren:={
 mixed:=by kernel_rfl,f129:=Tryz.func317.trans (congrArg some (by kernel_rfl)),f173:=Tryz.func136.trans (congrArg some (by kernel_rfl)),f246:=Tryz.func206.trans (congrArg some (by kernel_rfl)),f283:=Tryz.func267.trans (congrArg some (by kernel_rfl)),f284:=Tryz.func268.trans (congrArg some (by kernel_rfl)),f285:=Tryz.func269.trans (congrArg some (by kernel_rfl)),f286:=Tryz.func270.trans (congrArg some (by kernel_rfl)),f317:=Tryz.func316.trans (congrArg some (by kernel_rfl)),f318:=Tryz.func318.trans (congrArg some (by kernel_rfl)),f319:=Tryz.func319.trans (congrArg some (by kernel_rfl)),f320:=Tryz.func320.trans (congrArg some (by kernel_rfl)),f337:=Tryz.func351.trans (congrArg some (by kernel_rfl)),f338:=Tryz.func352.trans (congrArg some (by kernel_rfl)),t0:=Tryz.underlying0,a0:=Tryz.isAgg0,z0:=Tryz.sizeOf0,v0:=Tryz.zeroValue0,t2:=Tryz.underlying2,a2:=Tryz.isAgg2,z2:=Tryz.sizeOf2,v2:=Tryz.zeroValue2,t3:=Tryz.underlying3,a3:=Tryz.isAgg3,z3:=Tryz.sizeOf3,v3:=Tryz.zeroValue3,t4:=Tryz.underlying4,a4:=Tryz.isAgg4,z4:=Tryz.sizeOf4,v4:=Tryz.zeroValue4,t5:=Tryz.underlying5,a5:=Tryz.isAgg5,z5:=Tryz.sizeOf5,v5:=Tryz.zeroValue5,t9:=Tryz.underlying9,a9:=Tryz.isAgg9,z9:=Tryz.sizeOf9,v9:=Tryz.zeroValue9,t20:=Tryz.underlying20,a20:=Tryz.isAgg20,z20:=Tryz.sizeOf20,v20:=Tryz.zeroValue20,t37:=Tryz.underlying150,a37:=Tryz.isAgg150,z37:=Tryz.sizeOf150,v37:=Tryz.zeroValue150,t46:=Tryz.underlying386,a46:=Tryz.isAgg386,z46:=Tryz.sizeOf386,v46:=Tryz.zeroValue386,t51:=Tryz.underlying217,a51:=Tryz.isAgg217,z51:=Tryz.sizeOf217,v51:=Tryz.zeroValue217,t53:=Tryz.underlying328,a53:=Tryz.isAgg328,z53:=Tryz.sizeOf328,v53:=Tryz.zeroValue328,t171:=Tryz.underlying327,a171:=Tryz.isAgg327,z171:=Tryz.sizeOf327,v171:=Tryz.zeroValue327,t173:=Tryz.underlying331,a173:=Tryz.isAgg331,z173:=Tryz.sizeOf331,v173:=Tryz.zeroValue331,t212:=Tryz.underlying384,a212:=Tryz.isAgg384,z212:=Tryz.sizeOf384,v212:=Tryz.zeroValue384,t213:=Tryz.underlying385,a213:=Tryz.isAgg385,z213:=Tryz.sizeOf385,t232:=Tryz.underlying425,a232:=Tryz.isAgg425,z232:=Tryz.sizeOf425,v232:=Tryz.zeroValue425,t233:=Tryz.underlying426,a233:=Tryz.isAgg426,z233:=Tryz.sizeOf426,v233:=Tryz.zeroValue426,g17:=by kernel_rfl,g18:=by kernel_rfl,g19:=by kernel_rfl }
def lays145_ren:Go.Shelf.Ren:=⟨fun | 145=>271 | 220=>321 | 219=>353 | 217=>363 | 225=>364 | 224=>365 | 267=>366 | 266=>371 | 314=>372 | n=>n,fun | 9=>9 | 4=>4 | 59=>333 | 3=>3 | 5=>5 | 46=>386 | 146=>429 | 51=>217 | n=>n,fun | 1=>3 | n=>n⟩
theorem lays145:Go.Proofs.Lays.n145 Tryz.prog lays145_ren:={
 mixed:=by kernel_rfl,f145:=Tryz.func271.trans (congrArg some (by kernel_rfl)),f217:=Tryz.func363.trans (congrArg some (by kernel_rfl)),f219:=Tryz.func353.trans (congrArg some (by kernel_rfl)),f220:=Tryz.func321.trans (congrArg some (by kernel_rfl)),f224:=Tryz.func365.trans (congrArg some (by kernel_rfl)),f225:=Tryz.func364.trans (congrArg some (by kernel_rfl)),f266:=Tryz.func371.trans (congrArg some (by kernel_rfl)),f267:=Tryz.func366.trans (congrArg some (by kernel_rfl)),f314:=Tryz.func372.trans (congrArg some (by kernel_rfl)),t3:=Tryz.underlying3,a3:=Tryz.isAgg3,z3:=Tryz.sizeOf3,v3:=Tryz.zeroValue3,t4:=Tryz.underlying4,a4:=Tryz.isAgg4,z4:=Tryz.sizeOf4,v4:=Tryz.zeroValue4,t5:=Tryz.underlying5,a5:=Tryz.isAgg5,z5:=Tryz.sizeOf5,v5:=Tryz.zeroValue5,t9:=Tryz.underlying9,a9:=Tryz.isAgg9,z9:=Tryz.sizeOf9,v9:=Tryz.zeroValue9,t46:=Tryz.underlying386,a46:=Tryz.isAgg386,z46:=Tryz.sizeOf386,v46:=Tryz.zeroValue386,t51:=Tryz.underlying217,a51:=Tryz.isAgg217,z51:=Tryz.sizeOf217,v51:=Tryz.zeroValue217,t59:=Tryz.underlying333,a59:=Tryz.isAgg333,z59:=Tryz.sizeOf333,v59:=Tryz.zeroValue333,t146:=Tryz.underlying429,a146:=Tryz.isAgg429,z146:=Tryz.sizeOf429,v146:=Tryz.zeroValue429,g1:=by kernel_rfl }
def lays146_ren:Go.Shelf.Ren:=⟨fun | 146=>322 | 221=>354 | 268=>367 | 138=>368 | 143=>369 | 195=>373 | 197=>374 | 218=>375 | 219=>353 | 260=>377 | 217=>363 | 225=>364 | 224=>365 | 267=>366 | 266=>371 | 314=>372 | n=>n,fun | 9=>9 | 31=>170 | 3=>3 | 4=>4 | 0=>0 | 105=>432 | 21=>21 | 5=>5 | 46=>386 | 119=>435 | 139=>438 | 138=>437 | 146=>429 | 51=>217 | n=>n,fun | 1=>3 | 3=>6 | 4=>7 | n=>n⟩
theorem lays146:Go.Proofs.Lays.n146 Tryz.prog lays146_ren:={
 mixed:=by kernel_rfl,f138:=Tryz.func368.trans (congrArg some (by kernel_rfl)),f143:=Tryz.func369.trans (congrArg some (by kernel_rfl)),f146:=Tryz.func322.trans (congrArg some (by kernel_rfl)),f195:=Tryz.func373.trans (congrArg some (by kernel_rfl)),f197:=Tryz.func374.trans (congrArg some (by kernel_rfl)),f217:=Tryz.func363.trans (congrArg some (by kernel_rfl)),f218:=Tryz.func375.trans (congrArg some (by kernel_rfl)),f219:=Tryz.func353.trans (congrArg some (by kernel_rfl)),f221:=Tryz.func354.trans (congrArg some (by kernel_rfl)),f224:=Tryz.func365.trans (congrArg some (by kernel_rfl)),f225:=Tryz.func364.trans (congrArg some (by kernel_rfl)),f260:=Tryz.func377.trans (congrArg some (by kernel_rfl)),f266:=Tryz.func371.trans (congrArg some (by kernel_rfl)),f267:=Tryz.func366.trans (congrArg some (by kernel_rfl)),f268:=Tryz.func367.trans (congrArg some (by kernel_rfl)),f314:=Tryz.func372.trans (congrArg some (by kernel_rfl)),t0:=Tryz.underlying0,a0:=Tryz.isAgg0,z0:=Tryz.sizeOf0,v0:=Tryz.zeroValue0,t3:=Tryz.underlying3,a3:=Tryz.isAgg3,z3:=Tryz.sizeOf3,v3:=Tryz.zeroValue3,t4:=Tryz.underlying4,a4:=Tryz.isAgg4,z4:=Tryz.sizeOf4,v4:=Tryz.zeroValue4,t5:=Tryz.underlying5,a5:=Tryz.isAgg5,z5:=Tryz.sizeOf5,v5:=Tryz.zeroValue5,t9:=Tryz.underlying9,a9:=Tryz.isAgg9,z9:=Tryz.sizeOf9,v9:=Tryz.zeroValue9,t21:=Tryz.underlying21,a21:=Tryz.isAgg21,z21:=Tryz.sizeOf21,v21:=Tryz.zeroValue21,t31:=Tryz.underlying170,a31:=Tryz.isAgg170,z31:=Tryz.sizeOf170,v31:=Tryz.zeroValue170,t46:=Tryz.underlying386,a46:=Tryz.isAgg386,z46:=Tryz.sizeOf386,v46:=Tryz.zeroValue386,t51:=Tryz.underlying217,a51:=Tryz.isAgg217,z51:=Tryz.sizeOf217,v51:=Tryz.zeroValue217,t105:=Tryz.underlying432,a105:=Tryz.isAgg432,z105:=Tryz.sizeOf432,v105:=Tryz.zeroValue432,t119:=Tryz.underlying435,a119:=Tryz.isAgg435,z119:=Tryz.sizeOf435,t138:=Tryz.underlying437,a138:=Tryz.isAgg437,z138:=Tryz.sizeOf437,v138:=Tryz.zeroValue437,t139:=Tryz.underlying438,a139:=Tryz.isAgg438,z139:=Tryz.sizeOf438,v139:=Tryz.zeroValue438,t146:=Tryz.underlying429,a146:=Tryz.isAgg429,z146:=Tryz.sizeOf429,v146:=Tryz.zeroValue429,g1:=by kernel_rfl,g3:=by kernel_rfl,g4:=by kernel_rfl }
theorem wstr (B b:Nat) (bs:List Value) (s:ByteArray) (w:World) (h:Lib.IsBuilder 152 5 B b bs w) (hlen:bs.length + s.size ≤ 140737488355328) (hBw:B ≤ w.heap.size) :
  Calls Tryz.prog 70 #[.pointer (some ⟨b,0,none⟩),.string s] w fun e w'=>e = .returned (.tuple #[.int .i64 s.size,.nilIface]) ∧ (Lib.BuilderAt 152 5 B b (.pointer (some ⟨b,0,none⟩)) (bs ++ Lib.strCells s) w' ∧ Below B w w'):=
 Any.Builder_WriteString { lays156 with } Builder_Extra_156 B b bs s w h hlen hBw
theorem bstr (B b:Nat) (l:List UInt8) (w:World) (h:Lib.IsBuilder 152 5 B b (Lib.byteCells l) w) (hBw:B ≤ w.heap.size) :
  Calls Tryz.prog 72 #[.pointer (some ⟨b,0,none⟩)] w fun e w'=>e = .returned (.string ⟨l.toArray⟩) ∧ Below B w w':=
 Any.Builder_String_any { lays156 with } Builder_Extra_156 B b l w h hBw
theorem join (bk o c:Nat) (xs:List ByteArray) (sep:ByteArray) (w:World) (hcells:∀ (j:Nat) x,xs[j]? = some x → w.cell? ⟨bk,o + j,none⟩ = some (.string x)) (hbk:bk < w.heap.size) (hN:xs.length ≤ 140737488355328) (hcap:xs.length ≤ c)
  (hlen:(Lib.join (xs.map (·.data.toList)) sep.data.toList).length ≤ 140737488355328) :
  Calls Tryz.prog 80 #[.slice (some ⟨bk,o,none⟩) xs.length c,.string sep] w fun e w'=>e = .returned (.string ⟨(Lib.join (xs.map (·.data.toList)) sep.data.toList).toArray⟩) ∧ Below w.heap.size w w':=
 Any.strings_Join lays156 Builder_Extra_156 bk o c xs sep w hcells hbk hN hcap hlen
theorem cutp (s p:ByteArray) (w:World):Calls Tryz.prog 355 #[.string s,.string p] w fun e w'=>e = .returned (.tuple #[.string ⟨(Lib.trimPrefix s.data.toList p.data.toList).toArray⟩,.bool (Lib.hasPrefix s.data.toList p.data.toList)]) ∧ w' = w:=
 Any.strings_CutPrefix lays103 s p w
theorem below_gr (w:World) (k:Nat) (os:Array Obj):Below w.heap.size w (Go.Sort.grow (w.drewN k) os):=
 ⟨rfl,rfl,rfl,by simp [Go.Sort.grow,World.drewN],fun j hj=>by show (w.heap ++ os)[j]? = _;rw [Array.getElem?_append,if_pos hj]⟩
def Pow (w : World) : Prop := Lib.TabIs Tryz.prog w "internal/strconv.uint64pow10" .u64 Lib.pow10Tab
theorem itoa (n:Int) (h0 : -9223372036854775808 ≤ n) (h1:n ≤ 9223372036854775807) (w:World) (h:Pow w):Calls Tryz.prog 134 #[.int .i64 n] w fun e w'=>e = .returned (.string ⟨(Lib.itoa n).toArray⟩) ∧ Below w.heap.size w w':=by
 refine (Any.strconv_Itoa laysM171 n h0 h1 w h).mono ?_
 rintro e w' ⟨rfl,k,os,rfl⟩
 exact ⟨rfl,below_gr w k os⟩
theorem fint (i:Nat) (hi:i < 100) (w:World):Calls Tryz.prog 136 #[.int .i64 i,.int .i64 10] w fun e w'=>e = .returned (.string ⟨(Lib.decDigits i).toArray⟩) ∧ w' = w:=
 Any.strconv_FormatInt_10_small lays173 i hi w
theorem cut (s sep:ByteArray) (m:Int) (w:World) (hs:s.size < 4294967281) (hm:w.cell? ⟨lays145_ren.g 1,0,none⟩ = some (.int .i64 m)) :
  Calls Tryz.prog 271 #[.string s,.string sep] w fun e w'=>e = .returned (.tuple #[.string ⟨(Lib.cut s.data.toList sep.data.toList).1.toArray⟩,.string ⟨(Lib.cut s.data.toList sep.data.toList).2.1.toArray⟩,.bool (Lib.cut s.data.toList sep.data.toList).2.2]) ∧ ∃ n,w' = w.drewN n:=
 Any.strings_Cut lays145 s sep m w hs hm
theorem split (s sep:ByteArray) (m:Int) (w:World) (hs:s.size < 4294967281) (hm:w.cell? ⟨lays146_ren.g 1,0,none⟩ = some (.int .i64 m)) (h1:1 ≤ sep.size) :
  Calls Tryz.prog 322 #[.string s,.string sep] w fun e w'=>e = .returned (.slice (some ⟨w.heap.size,0,none⟩) (Lib.countB s sep + 1) (Lib.countB s sep + 1)) ∧ w' = w.alloc (.cells ((Lib.splitB sep 0 (Lib.countB s sep) s).map Value.string).toArray 9):=
 Any.strings_Split lays146 (by kernel_rfl) s sep m w hs hm h1
end Go.Proofs.YtgadhchejmlfjaaGreatDoor.Shf
end
