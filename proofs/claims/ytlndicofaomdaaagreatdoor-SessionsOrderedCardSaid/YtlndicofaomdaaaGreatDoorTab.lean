/- The program's tables,by program. -/
import Derived.Test.YtlndicofaomdaaaGreatDoorTw
import Derived.Test.YtlndicofaomdaaaGreatDoorArena
import Derived.Test.YtlndicofaomdaaaGreatDoorProg
namespace Go.Proofs.YtlndicofaomdaaaGreatDoor
open Go
def An.enc (x : An) : List Value:=[sV x.Key,iV x.Heats,iV x.Long,iV x.Gap,iV x.Break]
theorem An.enc_ok : Enc 5 An.enc:=⟨fun _=>rfl,fun _ u h=>by simp [An.enc] at h; rcases h with rfl | rfl | rfl | rfl | rfl <;> rfl⟩
def Ex.enc (x : Ex) : List Value:=[sV x.Who,sV x.Item,iV x.Heat]
theorem Ex.enc_ok : Enc 3 Ex.enc:=⟨fun _=>rfl,fun _ u h=>by simp [Ex.enc] at h; rcases h with rfl | rfl | rfl <;> rfl⟩
def Jj.enc (x : Jj) : List Value:=[iV x.From,iV x.To]
theorem Jj.enc_ok : Enc 2 Jj.enc:=⟨fun _=>rfl,fun _ u h=>by simp [Jj.enc] at h; rcases h with rfl | rfl <;> rfl⟩
def Fb.enc (x : Fb) : List Value:=[sV x.Item,iV x.Heat,iV x.Time.From,iV x.Time.To]
theorem Fb.enc_ok : Enc 4 Fb.enc:=⟨fun _=>rfl,fun _ u h=>by simp [Fb.enc] at h; rcases h with rfl | rfl | rfl | rfl <;> rfl⟩
def Ew.enc (x : Ew) : List Value:=[iV x.first_,iV x.last_]
theorem Ew.enc_ok : Enc 2 Ew.enc:=⟨fun _=>rfl,fun _ u h=>by simp [Ew.enc] at h; rcases h with rfl | rfl <;> rfl⟩
def Gn.enc (x : Gn) : List Value:=[sV x.Who,sV x.From.Item,iV x.From.Heat,iV x.From.Time.From,iV x.From.Time.To,sV x.To.Item,iV x.To.Heat,iV x.To.Time.From,iV x.To.Time.To,iV x.Long]
theorem Gn.enc_ok : Enc 10 Gn.enc:=⟨fun _=>rfl,fun _ u h=>by simp [Gn.enc] at h; rcases h with rfl | rfl | rfl | rfl | rfl | rfl | rfl | rfl | rfl | rfl <;> rfl⟩
def Ve (φ : View) (x : (List Ew)) (r : RS) : Prop:=Slc φ 2 r.val (x.map Ew.enc)
theorem FP {φ ψ : View} (l : View.le φ ψ) (x : (List Ew)) (r : RS) (h : Ve φ x r) : Ve ψ x r:=Slc.mono h l
theorem Ry {φ ψ : View} (l : View.le φ ψ) {xs : List (List Ew)} {rs : List RS} (h : Ko (Ve φ) xs rs) : Ko (Ve ψ) xs rs:=h.chg (FP l)
def So (φ : View) (x : (List Int)) (r : RS) : Prop:=Slc φ 1 r.val (x.map eInt)
theorem FQ {φ ψ : View} (l : View.le φ ψ) (x : (List Int)) (r : RS) (h : So φ x r) : So ψ x r:=Slc.mono h l
theorem Tx {φ ψ : View} (l : View.le φ ψ) {xs : List (List Int)} {rs : List RS} (h : Ko (So φ) xs rs) : Ko (So ψ) xs rs:=h.chg (FQ l)
theorem Tryz.mixed : Tryz.prog.follows .mixedOrders = true:=by kernel_rfl
theorem Lj : SlT Tryz.prog 22 3 1 8:=Uz (z:=(iV 0)) Tryz.underlying22 Tryz.sizeOf3 (by kernel_rfl) rfl
theorem Il : SlT Tryz.prog 26 41 5 48:=Uz (z:=(.agg #[sV Ga,iV 0,iV 0,iV 0,iV 0])) Tryz.underlying26 Tryz.sizeOf41 (by kernel_rfl) rfl
theorem Rz : SlT Tryz.prog 29 55 3 40:=Uz (z:=(.agg #[sV Ga,sV Ga,iV 0])) Tryz.underlying29 Tryz.sizeOf55 (by kernel_rfl) rfl
theorem Kv : SlT Tryz.prog 31 9 1 16:=Uz (z:=(sV Ga)) Tryz.underlying31 Tryz.sizeOf9 (by kernel_rfl) rfl
theorem Qk : SlT Tryz.prog 59 85 4 40:=Uz (z:=(.agg #[sV Ga,iV 0,iV 0,iV 0])) Tryz.underlying59 Tryz.sizeOf85 (by kernel_rfl) rfl
theorem FR : SlT Tryz.prog 68 89 1 24:=Uz (z:=(.slice none 0 0)) Tryz.underlying68 Tryz.sizeOf89 (by kernel_rfl) rfl
theorem Xp : SlT Tryz.prog 73 100 10 104:=Uz (z:=(.agg #[sV Ga,sV Ga,iV 0,iV 0,iV 0,sV Ga,iV 0,iV 0,iV 0,iV 0])) Tryz.underlying73 Tryz.sizeOf100 (by kernel_rfl) rfl
theorem FT : SlT Tryz.prog 89 92 2 16:=Uz (z:=(.agg #[iV 0,iV 0])) Tryz.underlying89 Tryz.sizeOf92 (by kernel_rfl) rfl
theorem EK : SlT Tryz.prog 121 22 1 24:=Uz (z:=(.slice none 0 0)) Tryz.underlying121 Tryz.sizeOf22 (by kernel_rfl) rfl
theorem AO : Sj Tryz.prog 25 0 0:=⟨_,_,_,Tryz.underlying25,rfl,Tryz.sizeOf22,rfl,rfl⟩
theorem Yq : Sj Tryz.prog 25 1 1:=⟨_,_,_,Tryz.underlying25,rfl,Tryz.sizeOf3,rfl,rfl⟩
theorem Mz : Sj Tryz.prog 41 0 0:=⟨_,_,_,Tryz.underlying41,rfl,Tryz.sizeOf9,rfl,rfl⟩
theorem Qn : Sj Tryz.prog 41 1 1:=⟨_,_,_,Tryz.underlying41,rfl,Tryz.sizeOf3,rfl,rfl⟩
theorem Sa : Sj Tryz.prog 41 2 2:=⟨_,_,_,Tryz.underlying41,rfl,Tryz.sizeOf3,rfl,rfl⟩
theorem Ty : Sj Tryz.prog 41 3 3:=⟨_,_,_,Tryz.underlying41,rfl,Tryz.sizeOf3,rfl,rfl⟩
theorem Vg : Sj Tryz.prog 41 4 4:=⟨_,_,_,Tryz.underlying41,rfl,Tryz.sizeOf3,rfl,rfl⟩
theorem Qo : Sj Tryz.prog 55 0 0:=⟨_,_,_,Tryz.underlying55,rfl,Tryz.sizeOf9,rfl,rfl⟩
theorem Sb : Sj Tryz.prog 55 1 1:=⟨_,_,_,Tryz.underlying55,rfl,Tryz.sizeOf9,rfl,rfl⟩
theorem Qp : Sj Tryz.prog 55 2 2:=⟨_,_,_,Tryz.underlying55,rfl,Tryz.sizeOf3,rfl,rfl⟩
theorem Yr : Sj Tryz.prog 70 0 0:=⟨_,_,_,Tryz.underlying70,rfl,Tryz.sizeOf26,rfl,rfl⟩
theorem EL : Sj Tryz.prog 70 1 1:=⟨_,_,_,Tryz.underlying70,rfl,Tryz.sizeOf3,rfl,rfl⟩
theorem Ys : Sj Tryz.prog 70 2 2:=⟨_,_,_,Tryz.underlying70,rfl,Tryz.sizeOf68,rfl,rfl⟩
theorem fa_70_3 : Sj Tryz.prog 70 3 3:=⟨_,_,_,Tryz.underlying70,rfl,Tryz.sizeOf3,rfl,rfl⟩
theorem IB : Sj Tryz.prog 70 4 4:=⟨_,_,_,Tryz.underlying70,rfl,Tryz.sizeOf22,rfl,rfl⟩
theorem EM : Sj Tryz.prog 70 5 5:=⟨_,_,_,Tryz.underlying70,rfl,Tryz.sizeOf3,rfl,rfl⟩
theorem IC : Sj Tryz.prog 70 6 6:=⟨_,_,_,Tryz.underlying70,rfl,Tryz.sizeOf3,rfl,rfl⟩
theorem EN : Sj Tryz.prog 70 7 7:=⟨_,_,_,Tryz.underlying70,rfl,Tryz.sizeOf4,rfl,rfl⟩
theorem fa_83_0 : Sj Tryz.prog 83 0 0:=⟨_,_,_,Tryz.underlying83,rfl,Tryz.sizeOf3,rfl,rfl⟩
theorem Yt : Sj Tryz.prog 83 1 1:=⟨_,_,_,Tryz.underlying83,rfl,Tryz.sizeOf3,rfl,rfl⟩
theorem fa_85_0 : Sj Tryz.prog 85 0 0:=⟨_,_,_,Tryz.underlying85,rfl,Tryz.sizeOf9,rfl,rfl⟩
theorem fa_85_1 : Sj Tryz.prog 85 1 1:=⟨_,_,_,Tryz.underlying85,rfl,Tryz.sizeOf3,rfl,rfl⟩
theorem Wx : Sj Tryz.prog 85 2 2:=⟨_,_,_,Tryz.underlying85,rfl,Tryz.sizeOf83,rfl,rfl⟩
theorem ID : Sj Tryz.prog 92 0 0:=⟨_,_,_,Tryz.underlying92,rfl,Tryz.sizeOf3,rfl,rfl⟩
theorem Wy : Sj Tryz.prog 92 1 1:=⟨_,_,_,Tryz.underlying92,rfl,Tryz.sizeOf3,rfl,rfl⟩
theorem KZ : Sj Tryz.prog 100 3 9:=⟨_,_,_,Tryz.underlying100,rfl,Tryz.sizeOf3,rfl,rfl⟩
theorem eq_41 (dd : Nat) (x y : An) (w : World) : (Op.equalIn (dd + 2) 41 (.agg (An.enc x).toArray) (.agg (An.enc y).toArray)).run Tryz.prog w = .ok (decide (x = y)) w:=by
  refine Yl (dd:=dd + 1) (fs:=(Tryz.prog.fieldsOf 41).toList) (by kernel_rfl) rfl (by kernel_rfl) (?_ : _ = Result.ok (decide (x.Key = y.Key) && (decide (x.Heats = y.Heats) && (decide (x.Long = y.Long) && (decide (x.Gap = y.Gap) && (decide (x.Break = y.Break) && true))))) w) (by cases x; cases y; simp [Bool.decide_and])
  simp only [Program.fieldsOf,Tryz.underlying41]
  exact (St (by decide) (Mb Tryz.isAgg9 rfl) (Mb Tryz.isAgg9 rfl) (Wf Tryz.underlying9) (St (by decide) (Mb Tryz.isAgg3 rfl) (Mb Tryz.isAgg3 rfl) (Su Tryz.underlying3) (St (by decide) (Mb Tryz.isAgg3 rfl) (Mb Tryz.isAgg3 rfl) (Su Tryz.underlying3) (St (by decide) (Mb Tryz.isAgg3 rfl) (Mb Tryz.isAgg3 rfl) (Su Tryz.underlying3) (St (by decide) (Mb Tryz.isAgg3 rfl) (Mb Tryz.isAgg3 rfl) (Su Tryz.underlying3) HX)))))
theorem rn_eql_41 {a : Act} {w : World} {x y : Operand} {u ty : TypeId} {m n : An} (hx : a.eval x = .agg (An.enc m).toArray) (hy : a.eval y = .agg (An.enc n).toArray) : Rn Tryz.prog a w (.binOp .eql 41 x y u) ty (.bool (decide (m = n))) :=
  HY 2 (by kernel_rfl) (fun w=>eq_41 _ m n w) rfl hx hy
theorem JR {a : Act} {w : World} {x y : Operand} {u ty : TypeId} {m n : An} (hx : a.eval x = .agg (An.enc m).toArray) (hy : a.eval y = .agg (An.enc n).toArray) : Rn Tryz.prog a w (.binOp .neq 41 x y u) ty (.bool (!decide (m = n))) :=
  HZ 2 (by kernel_rfl) (fun w=>eq_41 _ m n w) rfl hx hy
theorem eq_55 (dd : Nat) (x y : Ex) (w : World) : (Op.equalIn (dd + 2) 55 (.agg (Ex.enc x).toArray) (.agg (Ex.enc y).toArray)).run Tryz.prog w = .ok (decide (x = y)) w:=by
  refine Yl (dd:=dd + 1) (fs:=(Tryz.prog.fieldsOf 55).toList) (by kernel_rfl) rfl (by kernel_rfl) (?_ : _ = Result.ok (decide (x.Who = y.Who) && (decide (x.Item = y.Item) && (decide (x.Heat = y.Heat) && true))) w) (by cases x; cases y; simp [Bool.decide_and])
  simp only [Program.fieldsOf,Tryz.underlying55]
  exact (St (by decide) (Mb Tryz.isAgg9 rfl) (Mb Tryz.isAgg9 rfl) (Wf Tryz.underlying9) (St (by decide) (Mb Tryz.isAgg9 rfl) (Mb Tryz.isAgg9 rfl) (Wf Tryz.underlying9) (St (by decide) (Mb Tryz.isAgg3 rfl) (Mb Tryz.isAgg3 rfl) (Su Tryz.underlying3) HX)))
theorem JS {a : Act} {w : World} {x y : Operand} {u ty : TypeId} {m n : Ex} (hx : a.eval x = .agg (Ex.enc m).toArray) (hy : a.eval y = .agg (Ex.enc n).toArray) : Rn Tryz.prog a w (.binOp .eql 55 x y u) ty (.bool (decide (m = n))) :=
  HY 2 (by kernel_rfl) (fun w=>eq_55 _ m n w) rfl hx hy
theorem rn_neq_55 {a : Act} {w : World} {x y : Operand} {u ty : TypeId} {m n : Ex} (hx : a.eval x = .agg (Ex.enc m).toArray) (hy : a.eval y = .agg (Ex.enc n).toArray) : Rn Tryz.prog a w (.binOp .neq 55 x y u) ty (.bool (!decide (m = n))) :=
  HZ 2 (by kernel_rfl) (fun w=>eq_55 _ m n w) rfl hx hy
theorem bt_25 : FF Tryz.prog 25 (.agg #[.slice none 0 0,iV 0]) [(0,1),(1,1)]:=⟨_,Tryz.underlying25,Tryz.zeroValue25,fun _=>by kernel_rfl⟩
theorem bt_41 : FF Tryz.prog 41 (.agg #[sV Ga,iV 0,iV 0,iV 0,iV 0]) [(0,1),(1,1),(2,1),(3,1),(4,1)]:=⟨_,Tryz.underlying41,Tryz.zeroValue41,fun _=>by kernel_rfl⟩
theorem bt_55 : FF Tryz.prog 55 (.agg #[sV Ga,sV Ga,iV 0]) [(0,1),(1,1),(2,1)]:=⟨_,Tryz.underlying55,Tryz.zeroValue55,fun _=>by kernel_rfl⟩
theorem bt_70 : FF Tryz.prog 70 (.agg #[.slice none 0 0,iV 0,.slice none 0 0,iV 0,.slice none 0 0,iV 0,iV 0,bV false]) [(0,1),(1,1),(2,1),(3,1),(4,1),(5,1),(6,1),(7,1)]:=⟨_,Tryz.underlying70,Tryz.zeroValue70,fun _=>by kernel_rfl⟩
theorem bt_83 : FF Tryz.prog 83 (.agg #[iV 0,iV 0]) [(0,1),(1,1)]:=⟨_,Tryz.underlying83,Tryz.zeroValue83,fun _=>by kernel_rfl⟩
theorem bt_85 : FF Tryz.prog 85 (.agg #[sV Ga,iV 0,iV 0,iV 0]) [(0,1),(1,1),(2,2)]:=⟨_,Tryz.underlying85,Tryz.zeroValue85,fun _=>by kernel_rfl⟩
theorem bt_100 : FF Tryz.prog 100 (.agg #[sV Ga,sV Ga,iV 0,iV 0,iV 0,sV Ga,iV 0,iV 0,iV 0,iV 0]) [(0,1),(1,4),(5,4),(9,1)]:=⟨_,Tryz.underlying100,Tryz.zeroValue100,fun _=>by kernel_rfl⟩
end Go.Proofs.YtlndicofaomdaaaGreatDoor
