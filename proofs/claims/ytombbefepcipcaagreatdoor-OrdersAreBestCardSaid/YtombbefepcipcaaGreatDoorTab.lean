/- The program's tables,by program. -/
import Derived.Test.YtombbefepcipcaaGreatDoorTw
import Derived.Test.YtombbefepcipcaaGreatDoorArena
import Derived.Test.YtombbefepcipcaaGreatDoorProg
namespace Go.Proofs.YtombbefepcipcaaGreatDoor
open Go
def An.enc (x : An) : List Value:=[sV x.Key,iV x.Heats,iV x.Long,iV x.Gap,iV x.Break]
theorem An.enc_ok : Enc 5 An.enc:=⟨fun _=>rfl,fun _ u h=>by simp [An.enc] at h; rcases h with rfl | rfl | rfl | rfl | rfl <;> rfl⟩
def Eh.enc (x : Eh) : List Value:=[sV x.Who,sV x.Item,iV x.Heat]
theorem Eh.enc_ok : Enc 3 Eh.enc:=⟨fun _=>rfl,fun _ u h=>by simp [Eh.enc] at h; rcases h with rfl | rfl | rfl <;> rfl⟩
def Gt.enc (x : Gt) : List Value:=[iV x.From,iV x.To]
theorem Gt.enc_ok : Enc 2 Gt.enc:=⟨fun _=>rfl,fun _ u h=>by simp [Gt.enc] at h; rcases h with rfl | rfl <;> rfl⟩
def Dx.enc (x : Dx) : List Value:=[sV x.Item,iV x.Heat,iV x.Time.From,iV x.Time.To]
theorem Dx.enc_ok : Enc 4 Dx.enc:=⟨fun _=>rfl,fun _ u h=>by simp [Dx.enc] at h; rcases h with rfl | rfl | rfl | rfl <;> rfl⟩
def Dw.enc (x : Dw) : List Value:=[iV x.first_,iV x.last_]
theorem Dw.enc_ok : Enc 2 Dw.enc:=⟨fun _=>rfl,fun _ u h=>by simp [Dw.enc] at h; rcases h with rfl | rfl <;> rfl⟩
def Eu.enc (x : Eu) : List Value:=[sV x.Who,sV x.From.Item,iV x.From.Heat,iV x.From.Time.From,iV x.From.Time.To,sV x.To.Item,iV x.To.Heat,iV x.To.Time.From,iV x.To.Time.To,iV x.Long]
theorem Eu.enc_ok : Enc 10 Eu.enc:=⟨fun _=>rfl,fun _ u h=>by simp [Eu.enc] at h; rcases h with rfl | rfl | rfl | rfl | rfl | rfl | rfl | rfl | rfl | rfl <;> rfl⟩
def Ed.enc (x : Ed) : List Value:=[sV x.item_,iV x.heat_]
theorem Ed.enc_ok : Enc 2 Ed.enc:=⟨fun _=>rfl,fun _ u h=>by simp [Ed.enc] at h; rcases h with rfl | rfl <;> rfl⟩
def Jj.enc (x : Jj) : List Value:=[iV x.Year,iV x.Month,iV x.Day]
theorem Jj.enc_ok : Enc 3 Jj.enc:=⟨fun _=>rfl,fun _ u h=>by simp [Jj.enc] at h; rcases h with rfl | rfl | rfl <;> rfl⟩
def Mq.enc (x : Mq) : List Value:=[sV x.Race,iV x.Time]
theorem Mq.enc_ok : Enc 2 Mq.enc:=⟨fun _=>rfl,fun _ u h=>by simp [Mq.enc] at h; rcases h with rfl | rfl <;> rfl⟩
def Hz.enc (x : Hz) : List Value:=[iV x.At,iV x.Kind,sV x.Id,sV x.Who,sV x.Club,sV x.Race,iV x.Age,iV x.Time]
theorem Hz.enc_ok : Enc 8 Hz.enc:=⟨fun _=>rfl,fun _ u h=>by simp [Hz.enc] at h; rcases h with rfl | rfl | rfl | rfl | rfl | rfl | rfl | rfl <;> rfl⟩
def Rh (φ : View) (x : (List Dw)) (r : RS) : Prop:=Slc φ 2 r.val (x.map Dw.enc)
theorem CJ {φ ψ : View} (l : View.le φ ψ) (x : (List Dw)) (r : RS) (h : Rh φ x r) : Rh ψ x r:=Slc.mono h l
theorem Oi {φ ψ : View} (l : View.le φ ψ) {xs : List (List Dw)} {rs : List RS} (h : Ii (Rh φ) xs rs) : Ii (Rh ψ) xs rs:=h.chg (CJ l)
def Qn (φ : View) (x : (List Int)) (r : RS) : Prop:=Slc φ 1 r.val (x.map eInt)
theorem DX {φ ψ : View} (l : View.le φ ψ) (x : (List Int)) (r : RS) (h : Qn φ x r) : Qn ψ x r:=Slc.mono h l
theorem Ry {φ ψ : View} (l : View.le φ ψ) {xs : List (List Int)} {rs : List RS} (h : Ii (Qn φ) xs rs) : Ii (Qn ψ) xs rs:=h.chg (DX l)
structure R91 where
  mk ::
  (Key : ByteArray)
  (Race : ByteArray)
  (Clubs : RS)
  (Young : Int)
  (Old : Int)
def R91.enc (x : R91) : List Value:=[sV x.Key,sV x.Race,x.Clubs.val,iV x.Young,iV x.Old]
theorem R91.enc_ok : Enc 5 R91.enc:=⟨fun _=>rfl,fun x u h=>by
    simp only [R91.enc,List.mem_cons,List.not_mem_nil,or_false] at h
    rcases h with rfl | rfl | rfl | rfl | rfl
    · exact rfl
    · exact rfl
    · exact x.Clubs.property
    · exact rfl
    · exact rfl⟩
def Tz (φ : View) (x : Pc) (r : R91) : Prop:=∃ u1 : RS,r = ⟨x.Key,x.Race,u1,x.Young,x.Old⟩ ∧ Slc φ 1 u1.val (x.Clubs.map Qi)
theorem DY {φ ψ : View} (l : View.le φ ψ) (x : Pc) (r : R91) (h : Tz φ x r) : Tz ψ x r:=by
  obtain ⟨u1,e,h1⟩:=h
  exact ⟨u1,e,h1.mono l⟩
theorem GD {φ ψ : View} (l : View.le φ ψ) {xs : List Pc} {rs : List R91} (h : Ii (Tz φ) xs rs) : Ii (Tz ψ) xs rs:=h.chg (DY l)
theorem Tryz.mixed : Tryz.prog.follows .mixedOrders = true:=by kernel_rfl
theorem Js : SlT Tryz.prog 22 3 1 8:=Qz (z:=(iV 0)) Tryz.underlying22 Tryz.sizeOf3 (by kernel_rfl) rfl
theorem Jr : SlT Tryz.prog 26 43 5 48:=Qz (z:=(.agg #[sV Eo,iV 0,iV 0,iV 0,iV 0])) Tryz.underlying26 Tryz.sizeOf43 (by kernel_rfl) rfl
theorem Si : SlT Tryz.prog 28 52 3 40:=Qz (z:=(.agg #[sV Eo,sV Eo,iV 0])) Tryz.underlying28 Tryz.sizeOf52 (by kernel_rfl) rfl
theorem Pn : SlT Tryz.prog 31 9 1 16:=Qz (z:=(sV Eo)) Tryz.underlying31 Tryz.sizeOf9 (by kernel_rfl) rfl
theorem Ua : SlT Tryz.prog 38 77 10 104:=Qz (z:=(.agg #[sV Eo,sV Eo,iV 0,iV 0,iV 0,sV Eo,iV 0,iV 0,iV 0,iV 0])) Tryz.underlying38 Tryz.sizeOf77 (by kernel_rfl) rfl
theorem Py : SlT Tryz.prog 57 75 4 40:=Qz (z:=(.agg #[sV Eo,iV 0,iV 0,iV 0])) Tryz.underlying57 Tryz.sizeOf75 (by kernel_rfl) rfl
theorem DZ : SlT Tryz.prog 63 100 1 24:=Qz (z:=(.slice none 0 0)) Tryz.underlying63 Tryz.sizeOf100 (by kernel_rfl) rfl
theorem sl_69 : SlT Tryz.prog 69 32 1 8:=Qz (z:=(iV 0)) Tryz.underlying69 Tryz.sizeOf32 (by kernel_rfl) rfl
theorem AX : SlT Tryz.prog 87 86 2 24:=Qz (z:=(.agg #[sV Eo,iV 0])) Tryz.underlying87 Tryz.sizeOf86 (by kernel_rfl) rfl
theorem AY : SlT Tryz.prog 92 91 5 72:=Qz (z:=(.agg #[sV Eo,sV Eo,.slice none 0 0,iV 0,iV 0])) Tryz.underlying92 Tryz.sizeOf91 (by kernel_rfl) rfl
theorem Zi : SlT Tryz.prog 100 103 2 16:=Qz (z:=(.agg #[iV 0,iV 0])) Tryz.underlying100 Tryz.sizeOf103 (by kernel_rfl) rfl
theorem CK : SlT Tryz.prog 133 22 1 24:=Qz (z:=(.slice none 0 0)) Tryz.underlying133 Tryz.sizeOf22 (by kernel_rfl) rfl
theorem Yk : Ma Tryz.prog 25 0 0:=⟨_,_,_,Tryz.underlying25,rfl,Tryz.sizeOf22,rfl,rfl⟩
theorem Wi : Ma Tryz.prog 25 1 1:=⟨_,_,_,Tryz.underlying25,rfl,Tryz.sizeOf3,rfl,rfl⟩
theorem Ph : Ma Tryz.prog 43 0 0:=⟨_,_,_,Tryz.underlying43,rfl,Tryz.sizeOf9,rfl,rfl⟩
theorem Td : Ma Tryz.prog 43 1 1:=⟨_,_,_,Tryz.underlying43,rfl,Tryz.sizeOf3,rfl,rfl⟩
theorem Te : Ma Tryz.prog 43 2 2:=⟨_,_,_,Tryz.underlying43,rfl,Tryz.sizeOf3,rfl,rfl⟩
theorem Yl : Ma Tryz.prog 43 3 3:=⟨_,_,_,Tryz.underlying43,rfl,Tryz.sizeOf3,rfl,rfl⟩
theorem CL : Ma Tryz.prog 43 4 4:=⟨_,_,_,Tryz.underlying43,rfl,Tryz.sizeOf3,rfl,rfl⟩
theorem Qq : Ma Tryz.prog 52 0 0:=⟨_,_,_,Tryz.underlying52,rfl,Tryz.sizeOf9,rfl,rfl⟩
theorem Wj : Ma Tryz.prog 52 1 1:=⟨_,_,_,Tryz.underlying52,rfl,Tryz.sizeOf9,rfl,rfl⟩
theorem Rz : Ma Tryz.prog 52 2 2:=⟨_,_,_,Tryz.underlying52,rfl,Tryz.sizeOf3,rfl,rfl⟩
theorem Wk : Ma Tryz.prog 65 0 0:=⟨_,_,_,Tryz.underlying65,rfl,Tryz.sizeOf26,rfl,rfl⟩
theorem CM : Ma Tryz.prog 65 1 1:=⟨_,_,_,Tryz.underlying65,rfl,Tryz.sizeOf3,rfl,rfl⟩
theorem Wl : Ma Tryz.prog 65 2 2:=⟨_,_,_,Tryz.underlying65,rfl,Tryz.sizeOf63,rfl,rfl⟩
theorem fa_65_3 : Ma Tryz.prog 65 3 3:=⟨_,_,_,Tryz.underlying65,rfl,Tryz.sizeOf3,rfl,rfl⟩
theorem GE : Ma Tryz.prog 65 4 4:=⟨_,_,_,Tryz.underlying65,rfl,Tryz.sizeOf22,rfl,rfl⟩
theorem CN : Ma Tryz.prog 65 5 5:=⟨_,_,_,Tryz.underlying65,rfl,Tryz.sizeOf3,rfl,rfl⟩
theorem GF : Ma Tryz.prog 65 6 6:=⟨_,_,_,Tryz.underlying65,rfl,Tryz.sizeOf3,rfl,rfl⟩
theorem CO : Ma Tryz.prog 65 7 7:=⟨_,_,_,Tryz.underlying65,rfl,Tryz.sizeOf4,rfl,rfl⟩
theorem CP : Ma Tryz.prog 73 0 0:=⟨_,_,_,Tryz.underlying73,rfl,Tryz.sizeOf3,rfl,rfl⟩
theorem GG : Ma Tryz.prog 73 1 1:=⟨_,_,_,Tryz.underlying73,rfl,Tryz.sizeOf3,rfl,rfl⟩
theorem fa_75_0 : Ma Tryz.prog 75 0 0:=⟨_,_,_,Tryz.underlying75,rfl,Tryz.sizeOf9,rfl,rfl⟩
theorem fa_75_1 : Ma Tryz.prog 75 1 1:=⟨_,_,_,Tryz.underlying75,rfl,Tryz.sizeOf3,rfl,rfl⟩
theorem Wm : Ma Tryz.prog 75 2 2:=⟨_,_,_,Tryz.underlying75,rfl,Tryz.sizeOf73,rfl,rfl⟩
theorem fa_77_3 : Ma Tryz.prog 77 3 9:=⟨_,_,_,Tryz.underlying77,rfl,Tryz.sizeOf3,rfl,rfl⟩
theorem Ri : Ma Tryz.prog 82 0 0:=⟨_,_,_,Tryz.underlying82,rfl,Tryz.sizeOf3,rfl,rfl⟩
theorem Wn : Ma Tryz.prog 82 1 1:=⟨_,_,_,Tryz.underlying82,rfl,Tryz.sizeOf3,rfl,rfl⟩
theorem CQ : Ma Tryz.prog 82 2 2:=⟨_,_,_,Tryz.underlying82,rfl,Tryz.sizeOf3,rfl,rfl⟩
theorem Ym : Ma Tryz.prog 86 0 0:=⟨_,_,_,Tryz.underlying86,rfl,Tryz.sizeOf9,rfl,rfl⟩
theorem GH : Ma Tryz.prog 86 1 1:=⟨_,_,_,Tryz.underlying86,rfl,Tryz.sizeOf3,rfl,rfl⟩
theorem Yn : Ma Tryz.prog 91 0 0:=⟨_,_,_,Tryz.underlying91,rfl,Tryz.sizeOf9,rfl,rfl⟩
theorem GI : Ma Tryz.prog 91 1 1:=⟨_,_,_,Tryz.underlying91,rfl,Tryz.sizeOf9,rfl,rfl⟩
theorem Wo : Ma Tryz.prog 91 2 2:=⟨_,_,_,Tryz.underlying91,rfl,Tryz.sizeOf31,rfl,rfl⟩
theorem CR : Ma Tryz.prog 91 3 3:=⟨_,_,_,Tryz.underlying91,rfl,Tryz.sizeOf3,rfl,rfl⟩
theorem CS : Ma Tryz.prog 91 4 4:=⟨_,_,_,Tryz.underlying91,rfl,Tryz.sizeOf3,rfl,rfl⟩
theorem GJ : Ma Tryz.prog 94 0 0:=⟨_,_,_,Tryz.underlying94,rfl,Tryz.sizeOf3,rfl,rfl⟩
theorem Yo : Ma Tryz.prog 94 1 1:=⟨_,_,_,Tryz.underlying94,rfl,Tryz.sizeOf3,rfl,rfl⟩
theorem GK : Ma Tryz.prog 94 2 2:=⟨_,_,_,Tryz.underlying94,rfl,Tryz.sizeOf9,rfl,rfl⟩
theorem fa_94_3 : Ma Tryz.prog 94 3 3:=⟨_,_,_,Tryz.underlying94,rfl,Tryz.sizeOf9,rfl,rfl⟩
theorem CT : Ma Tryz.prog 94 4 4:=⟨_,_,_,Tryz.underlying94,rfl,Tryz.sizeOf9,rfl,rfl⟩
theorem GL : Ma Tryz.prog 94 5 5:=⟨_,_,_,Tryz.underlying94,rfl,Tryz.sizeOf9,rfl,rfl⟩
theorem GM : Ma Tryz.prog 94 6 6:=⟨_,_,_,Tryz.underlying94,rfl,Tryz.sizeOf3,rfl,rfl⟩
theorem fa_94_7 : Ma Tryz.prog 94 7 7:=⟨_,_,_,Tryz.underlying94,rfl,Tryz.sizeOf3,rfl,rfl⟩
theorem EA : Ma Tryz.prog 103 0 0:=⟨_,_,_,Tryz.underlying103,rfl,Tryz.sizeOf3,rfl,rfl⟩
theorem Sj : Ma Tryz.prog 103 1 1:=⟨_,_,_,Tryz.underlying103,rfl,Tryz.sizeOf3,rfl,rfl⟩
theorem eq_94 (dd : Nat) (x y : Hz) (w : World) : (Op.equalIn (dd + 2) 94 (.agg (Hz.enc x).toArray) (.agg (Hz.enc y).toArray)).run Tryz.prog w = .ok (decide (x = y)) w:=by
  refine Wf (dd:=dd + 1) (fs:=(Tryz.prog.fieldsOf 94).toList) (by kernel_rfl) rfl (by kernel_rfl) (?_ : _ = Result.ok (decide (x.At = y.At) && (decide (x.Kind = y.Kind) && (decide (x.Id = y.Id) && (decide (x.Who = y.Who) && (decide (x.Club = y.Club) && (decide (x.Race = y.Race) && (decide (x.Age = y.Age) && (decide (x.Time = y.Time) && true)))))))) w) (by cases x; cases y; simp [Bool.decide_and])
  simp only [Program.fieldsOf,Tryz.underlying94]
  exact (Oz (by decide) (Iu Tryz.isAgg3 rfl) (Iu Tryz.isAgg3 rfl) (Qu Tryz.underlying3) (Oz (by decide) (Iu Tryz.isAgg3 rfl) (Iu Tryz.isAgg3 rfl) (Qu Tryz.underlying3) (Oz (by decide) (Iu Tryz.isAgg9 rfl) (Iu Tryz.isAgg9 rfl) (Qv Tryz.underlying9) (Oz (by decide) (Iu Tryz.isAgg9 rfl) (Iu Tryz.isAgg9 rfl) (Qv Tryz.underlying9) (Oz (by decide) (Iu Tryz.isAgg9 rfl) (Iu Tryz.isAgg9 rfl) (Qv Tryz.underlying9) (Oz (by decide) (Iu Tryz.isAgg9 rfl) (Iu Tryz.isAgg9 rfl) (Qv Tryz.underlying9) (Oz (by decide) (Iu Tryz.isAgg3 rfl) (Iu Tryz.isAgg3 rfl) (Qu Tryz.underlying3) (Oz (by decide) (Iu Tryz.isAgg3 rfl) (Iu Tryz.isAgg3 rfl) (Qu Tryz.underlying3) FZ))))))))
theorem rn_eql_94 {a : Act} {w : World} {x y : Operand} {u ty : TypeId} {m n : Hz} (hx : a.eval x = .agg (Hz.enc m).toArray) (hy : a.eval y = .agg (Hz.enc n).toArray) : Rn Tryz.prog a w (.binOp .eql 94 x y u) ty (.bool (decide (m = n))) :=
  GA 2 (by kernel_rfl) (fun w=>eq_94 _ m n w) rfl hx hy
theorem HU {a : Act} {w : World} {x y : Operand} {u ty : TypeId} {m n : Hz} (hx : a.eval x = .agg (Hz.enc m).toArray) (hy : a.eval y = .agg (Hz.enc n).toArray) : Rn Tryz.prog a w (.binOp .neq 94 x y u) ty (.bool (!decide (m = n))) :=
  GB 2 (by kernel_rfl) (fun w=>eq_94 _ m n w) rfl hx hy
theorem FF (dd : Nat) (x y : Ed) (w : World) : (Op.equalIn (dd + 2) 155 (.agg (Ed.enc x).toArray) (.agg (Ed.enc y).toArray)).run Tryz.prog w = .ok (decide (x = y)) w:=by
  refine Wf (dd:=dd + 1) (fs:=(Tryz.prog.fieldsOf 155).toList) (by kernel_rfl) rfl (by kernel_rfl) (?_ : _ = Result.ok (decide (x.item_ = y.item_) && (decide (x.heat_ = y.heat_) && true)) w) (by cases x; cases y; simp [Bool.decide_and])
  simp only [Program.fieldsOf,Tryz.underlying155]
  exact (Oz (by decide) (Iu Tryz.isAgg9 rfl) (Iu Tryz.isAgg9 rfl) (Qv Tryz.underlying9) (Oz (by decide) (Iu Tryz.isAgg3 rfl) (Iu Tryz.isAgg3 rfl) (Qu Tryz.underlying3) FZ))
theorem rn_eql_155 {a : Act} {w : World} {x y : Operand} {u ty : TypeId} {m n : Ed} (hx : a.eval x = .agg (Ed.enc m).toArray) (hy : a.eval y = .agg (Ed.enc n).toArray) : Rn Tryz.prog a w (.binOp .eql 155 x y u) ty (.bool (decide (m = n))) :=
  GA 2 (by kernel_rfl) (fun w=>FF _ m n w) rfl hx hy
theorem rn_neq_155 {a : Act} {w : World} {x y : Operand} {u ty : TypeId} {m n : Ed} (hx : a.eval x = .agg (Ed.enc m).toArray) (hy : a.eval y = .agg (Ed.enc n).toArray) : Rn Tryz.prog a w (.binOp .neq 155 x y u) ty (.bool (!decide (m = n))) :=
  GB 2 (by kernel_rfl) (fun w=>FF _ m n w) rfl hx hy
theorem EB : HO Tryz.prog 155 (fun x=>Value.agg (Ed.enc x).toArray) :=
  IP 2 rfl Tryz.underlying155 (fun em x w=>chk_agg Tryz.underlying155 (by
    intro f hf _
    simp only [List.mem_cons,List.not_mem_nil,or_false] at hf
    rcases hf with rfl | rfl
    · exact ⟨_,fun w=>Iu Tryz.isAgg9 rfl,fun w=>chk_str Tryz.underlying9⟩
    · exact ⟨_,fun w=>Iu Tryz.isAgg3 rfl,fun w=>chk_int Tryz.underlying3⟩)) FF (fun x=>by simp [Instr.sameBits,Ed.enc,HQ])
theorem bt_25 : Xa Tryz.prog 25 (.agg #[.slice none 0 0,iV 0]) [(0,1),(1,1)]:=⟨_,Tryz.underlying25,Tryz.zeroValue25,fun _=>by kernel_rfl⟩
theorem bt_43 : Xa Tryz.prog 43 (.agg #[sV Eo,iV 0,iV 0,iV 0,iV 0]) [(0,1),(1,1),(2,1),(3,1),(4,1)]:=⟨_,Tryz.underlying43,Tryz.zeroValue43,fun _=>by kernel_rfl⟩
theorem bt_52 : Xa Tryz.prog 52 (.agg #[sV Eo,sV Eo,iV 0]) [(0,1),(1,1),(2,1)]:=⟨_,Tryz.underlying52,Tryz.zeroValue52,fun _=>by kernel_rfl⟩
theorem bt_65 : Xa Tryz.prog 65 (.agg #[.slice none 0 0,iV 0,.slice none 0 0,iV 0,.slice none 0 0,iV 0,iV 0,bV false]) [(0,1),(1,1),(2,1),(3,1),(4,1),(5,1),(6,1),(7,1)]:=⟨_,Tryz.underlying65,Tryz.zeroValue65,fun _=>by kernel_rfl⟩
theorem bt_73 : Xa Tryz.prog 73 (.agg #[iV 0,iV 0]) [(0,1),(1,1)]:=⟨_,Tryz.underlying73,Tryz.zeroValue73,fun _=>by kernel_rfl⟩
theorem bt_75 : Xa Tryz.prog 75 (.agg #[sV Eo,iV 0,iV 0,iV 0]) [(0,1),(1,1),(2,2)]:=⟨_,Tryz.underlying75,Tryz.zeroValue75,fun _=>by kernel_rfl⟩
theorem bt_77 : Xa Tryz.prog 77 (.agg #[sV Eo,sV Eo,iV 0,iV 0,iV 0,sV Eo,iV 0,iV 0,iV 0,iV 0]) [(0,1),(1,4),(5,4),(9,1)]:=⟨_,Tryz.underlying77,Tryz.zeroValue77,fun _=>by kernel_rfl⟩
theorem bt_82 : Xa Tryz.prog 82 (.agg #[iV 0,iV 0,iV 0]) [(0,1),(1,1),(2,1)]:=⟨_,Tryz.underlying82,Tryz.zeroValue82,fun _=>by kernel_rfl⟩
theorem bt_86 : Xa Tryz.prog 86 (.agg #[sV Eo,iV 0]) [(0,1),(1,1)]:=⟨_,Tryz.underlying86,Tryz.zeroValue86,fun _=>by kernel_rfl⟩
theorem bt_91 : Xa Tryz.prog 91 (.agg #[sV Eo,sV Eo,.slice none 0 0,iV 0,iV 0]) [(0,1),(1,1),(2,1),(3,1),(4,1)]:=⟨_,Tryz.underlying91,Tryz.zeroValue91,fun _=>by kernel_rfl⟩
theorem bt_94 : Xa Tryz.prog 94 (.agg #[iV 0,iV 0,sV Eo,sV Eo,sV Eo,sV Eo,iV 0,iV 0]) [(0,1),(1,1),(2,1),(3,1),(4,1),(5,1),(6,1),(7,1)]:=⟨_,Tryz.underlying94,Tryz.zeroValue94,fun _=>by kernel_rfl⟩
theorem IW : Xa Tryz.prog 155 (.agg #[sV Eo,iV 0]) [(0,1),(1,1)]:=⟨_,Tryz.underlying155,Tryz.zeroValue155,fun _=>by kernel_rfl⟩
end Go.Proofs.YtombbefepcipcaaGreatDoor
