/- The program's tables,by program. -/
import Derived.Test.YtcgffkkagmkhkaaGreatDoorTw
import Derived.Test.YtcgffkkagmkhkaaGreatDoorArena
import Derived.Test.YtcgffkkagmkhkaaGreatDoorProg
namespace Go.Proofs.YtcgffkkagmkhkaaGreatDoor
open Go
def Ed.enc (x : Ed) : List Value:=[sV x.Key,iV x.Heats,iV x.Long,iV x.Gap,iV x.Break]
theorem Ed.enc_ok : Enc 5 Ed.enc:=⟨fun _=>rfl,fun _ u h=>by simp [Ed.enc] at h; rcases h with rfl | rfl | rfl | rfl | rfl <;> rfl⟩
def Es.enc (x : Es) : List Value:=[sV x.Who,sV x.Item,iV x.Heat]
theorem Es.enc_ok : Enc 3 Es.enc:=⟨fun _=>rfl,fun _ u h=>by simp [Es.enc] at h; rcases h with rfl | rfl | rfl <;> rfl⟩
def Ey.enc (x : Ey) : List Value:=[sV x.Item,iV x.Heat,iV x.At]
theorem Ey.enc_ok : Enc 3 Ey.enc:=⟨fun _=>rfl,fun _ u h=>by simp [Ey.enc] at h; rcases h with rfl | rfl | rfl <;> rfl⟩
def Gs.enc (x : Gs) : List Value:=[iV x.From,iV x.To]
theorem Gs.enc_ok : Enc 2 Gs.enc:=⟨fun _=>rfl,fun _ u h=>by simp [Gs.enc] at h; rcases h with rfl | rfl <;> rfl⟩
def Ee.enc (x : Ee) : List Value:=[sV x.Item,iV x.Heat,iV x.Time.From,iV x.Time.To]
theorem Ee.enc_ok : Enc 4 Ee.enc:=⟨fun _=>rfl,fun _ u h=>by simp [Ee.enc] at h; rcases h with rfl | rfl | rfl | rfl <;> rfl⟩
def Gj.enc (x : Gj) : List Value:=[sV x.Who,sV x.From.Item,iV x.From.Heat,iV x.From.Time.From,iV x.From.Time.To,sV x.To.Item,iV x.To.Heat,iV x.To.Time.From,iV x.To.Time.To,iV x.Long]
theorem Gj.enc_ok : Enc 10 Gj.enc:=⟨fun _=>rfl,fun _ u h=>by simp [Gj.enc] at h; rcases h with rfl | rfl | rfl | rfl | rfl | rfl | rfl | rfl | rfl | rfl <;> rfl⟩
def An.enc (x : An) : List Value:=[sV x.item_,iV x.heat_]
theorem An.enc_ok : Enc 2 An.enc:=⟨fun _=>rfl,fun _ u h=>by simp [An.enc] at h; rcases h with rfl | rfl <;> rfl⟩
def Ei.enc (x : Ei) : List Value:=[iV x.first_,iV x.last_]
theorem Ei.enc_ok : Enc 2 Ei.enc:=⟨fun _=>rfl,fun _ u h=>by simp [Ei.enc] at h; rcases h with rfl | rfl <;> rfl⟩
def Jw.enc (x : Jw) : List Value:=[iV x.Year,iV x.Month,iV x.Day]
theorem Jw.enc_ok : Enc 3 Jw.enc:=⟨fun _=>rfl,fun _ u h=>by simp [Jw.enc] at h; rcases h with rfl | rfl | rfl <;> rfl⟩
def Ns.enc (x : Ns) : List Value:=[sV x.Race,iV x.Time]
theorem Ns.enc_ok : Enc 2 Ns.enc:=⟨fun _=>rfl,fun _ u h=>by simp [Ns.enc] at h; rcases h with rfl | rfl <;> rfl⟩
def Il.enc (x : Il) : List Value:=[iV x.At,iV x.Kind,sV x.Id,sV x.Who,sV x.Club,sV x.Race,iV x.Age,iV x.Time]
theorem Il.enc_ok : Enc 8 Il.enc:=⟨fun _=>rfl,fun _ u h=>by simp [Il.enc] at h; rcases h with rfl | rfl | rfl | rfl | rfl | rfl | rfl | rfl <;> rfl⟩
def Se (φ : View) (x : (List Ei)) (r : RS) : Prop:=Slc φ 2 r.val (x.map Ei.enc)
theorem CE {φ ψ : View} (l : View.le φ ψ) (x : (List Ei)) (r : RS) (h : Se φ x r) : Se ψ x r:=Slc.mono h l
theorem Pm {φ ψ : View} (l : View.le φ ψ) {xs : List (List Ei)} {rs : List RS} (h : Iz (Se φ) xs rs) : Iz (Se ψ) xs rs:=h.chg (CE l)
def Rp (φ : View) (x : (List Int)) (r : RS) : Prop:=Slc φ 1 r.val (x.map eInt)
theorem DL {φ ψ : View} (l : View.le φ ψ) (x : (List Int)) (r : RS) (h : Rp φ x r) : Rp ψ x r:=Slc.mono h l
theorem Sp {φ ψ : View} (l : View.le φ ψ) {xs : List (List Int)} {rs : List RS} (h : Iz (Rp φ) xs rs) : Iz (Rp ψ) xs rs:=h.chg (DL l)
structure Pn where
  mk ::
  (Key : ByteArray)
  (Race : ByteArray)
  (Clubs : RS)
  (Young : Int)
  (Old : Int)
def Pn.enc (x : Pn) : List Value:=[sV x.Key,sV x.Race,x.Clubs.val,iV x.Young,iV x.Old]
theorem Pn.enc_ok : Enc 5 Pn.enc:=⟨fun _=>rfl,fun x u h=>by
    simp only [Pn.enc,List.mem_cons,List.not_mem_nil,or_false] at h
    rcases h with rfl | rfl | rfl | rfl | rfl
    · exact rfl
    · exact rfl
    · exact x.Clubs.property
    · exact rfl
    · exact rfl⟩
def Sq (φ : View) (x : Qd) (r : Pn) : Prop:=∃ u1 : RS,r = ⟨x.Key,x.Race,u1,x.Young,x.Old⟩ ∧ Slc φ 1 u1.val (x.Clubs.map Si)
theorem CF {φ ψ : View} (l : View.le φ ψ) (x : Qd) (r : Pn) (h : Sq φ x r) : Sq ψ x r:=by
  obtain ⟨u1,e,h1⟩:=h
  exact ⟨u1,e,h1.mono l⟩
theorem DM {φ ψ : View} (l : View.le φ ψ) {xs : List Qd} {rs : List Pn} (h : Iz (Sq φ) xs rs) : Iz (Sq ψ) xs rs:=h.chg (CF l)
theorem Tryz.mixed : Tryz.prog.follows .mixedOrders = true:=by kernel_rfl
theorem Ll : SlT Tryz.prog 22 3 1 8:=Ri (z:=(iV 0)) Tryz.underlying22 Tryz.sizeOf3 (by kernel_rfl) rfl
theorem Jp : SlT Tryz.prog 26 54 5 48:=Ri (z:=(.agg #[sV En,iV 0,iV 0,iV 0,iV 0])) Tryz.underlying26 Tryz.sizeOf54 (by kernel_rfl) rfl
theorem Rg : SlT Tryz.prog 28 59 3 40:=Ri (z:=(.agg #[sV En,sV En,iV 0])) Tryz.underlying28 Tryz.sizeOf59 (by kernel_rfl) rfl
theorem Sk : SlT Tryz.prog 30 62 3 32:=Ri (z:=(.agg #[sV En,iV 0,iV 0])) Tryz.underlying30 Tryz.sizeOf62 (by kernel_rfl) rfl
theorem Nw : SlT Tryz.prog 32 40 4 40:=Ri (z:=(.agg #[sV En,iV 0,iV 0,iV 0])) Tryz.underlying32 Tryz.sizeOf40 (by kernel_rfl) rfl
theorem HY : SlT Tryz.prog 41 46 10 104:=Ri (z:=(.agg #[sV En,sV En,iV 0,iV 0,iV 0,sV En,iV 0,iV 0,iV 0,iV 0])) Tryz.underlying41 Tryz.sizeOf46 (by kernel_rfl) rfl
theorem Qi : SlT Tryz.prog 47 9 1 16:=Ri (z:=(sV En)) Tryz.underlying47 Tryz.sizeOf9 (by kernel_rfl) rfl
theorem DN : SlT Tryz.prog 84 117 1 24:=Ri (z:=(.slice none 0 0)) Tryz.underlying84 Tryz.sizeOf117 (by kernel_rfl) rfl
theorem BK : SlT Tryz.prog 99 98 2 24:=Ri (z:=(.agg #[sV En,iV 0])) Tryz.underlying99 Tryz.sizeOf98 (by kernel_rfl) rfl
theorem Yb : SlT Tryz.prog 104 103 5 72:=Ri (z:=(.agg #[sV En,sV En,.slice none 0 0,iV 0,iV 0])) Tryz.underlying104 Tryz.sizeOf103 (by kernel_rfl) rfl
theorem Zv : SlT Tryz.prog 117 120 2 16:=Ri (z:=(.agg #[iV 0,iV 0])) Tryz.underlying117 Tryz.sizeOf120 (by kernel_rfl) rfl
theorem HZ : SlT Tryz.prog 135 33 1 8:=Ri (z:=(iV 0)) Tryz.underlying135 Tryz.sizeOf33 (by kernel_rfl) rfl
theorem CG : SlT Tryz.prog 153 22 1 24:=Ri (z:=(.slice none 0 0)) Tryz.underlying153 Tryz.sizeOf22 (by kernel_rfl) rfl
theorem Ze : Mo Tryz.prog 25 0 0:=⟨_,_,_,Tryz.underlying25,rfl,Tryz.sizeOf22,rfl,rfl⟩
theorem Xd : Mo Tryz.prog 25 1 1:=⟨_,_,_,Tryz.underlying25,rfl,Tryz.sizeOf3,rfl,rfl⟩
theorem Vt : Mo Tryz.prog 38 0 0:=⟨_,_,_,Tryz.underlying38,rfl,Tryz.sizeOf3,rfl,rfl⟩
theorem Vv : Mo Tryz.prog 38 1 1:=⟨_,_,_,Tryz.underlying38,rfl,Tryz.sizeOf3,rfl,rfl⟩
theorem FI : Mo Tryz.prog 40 0 0:=⟨_,_,_,Tryz.underlying40,rfl,Tryz.sizeOf9,rfl,rfl⟩
theorem FJ : Mo Tryz.prog 40 1 1:=⟨_,_,_,Tryz.underlying40,rfl,Tryz.sizeOf3,rfl,rfl⟩
theorem Pt : Mo Tryz.prog 40 2 2:=⟨_,_,_,Tryz.underlying40,rfl,Tryz.sizeOf38,rfl,rfl⟩
theorem Qn : Mo Tryz.prog 54 0 0:=⟨_,_,_,Tryz.underlying54,rfl,Tryz.sizeOf9,rfl,rfl⟩
theorem Rs : Mo Tryz.prog 54 1 1:=⟨_,_,_,Tryz.underlying54,rfl,Tryz.sizeOf3,rfl,rfl⟩
theorem Ua : Mo Tryz.prog 54 2 2:=⟨_,_,_,Tryz.underlying54,rfl,Tryz.sizeOf3,rfl,rfl⟩
theorem Zf : Mo Tryz.prog 54 3 3:=⟨_,_,_,Tryz.underlying54,rfl,Tryz.sizeOf3,rfl,rfl⟩
theorem CH : Mo Tryz.prog 54 4 4:=⟨_,_,_,Tryz.underlying54,rfl,Tryz.sizeOf3,rfl,rfl⟩
theorem Rt : Mo Tryz.prog 59 0 0:=⟨_,_,_,Tryz.underlying59,rfl,Tryz.sizeOf9,rfl,rfl⟩
theorem Xe : Mo Tryz.prog 59 1 1:=⟨_,_,_,Tryz.underlying59,rfl,Tryz.sizeOf9,rfl,rfl⟩
theorem Sr : Mo Tryz.prog 59 2 2:=⟨_,_,_,Tryz.underlying59,rfl,Tryz.sizeOf3,rfl,rfl⟩
theorem Xf : Mo Tryz.prog 62 0 0:=⟨_,_,_,Tryz.underlying62,rfl,Tryz.sizeOf9,rfl,rfl⟩
theorem Vw : Mo Tryz.prog 62 1 1:=⟨_,_,_,Tryz.underlying62,rfl,Tryz.sizeOf3,rfl,rfl⟩
theorem Xg : Mo Tryz.prog 62 2 2:=⟨_,_,_,Tryz.underlying62,rfl,Tryz.sizeOf3,rfl,rfl⟩
theorem Xh : Mo Tryz.prog 86 0 0:=⟨_,_,_,Tryz.underlying86,rfl,Tryz.sizeOf26,rfl,rfl⟩
theorem CI : Mo Tryz.prog 86 1 1:=⟨_,_,_,Tryz.underlying86,rfl,Tryz.sizeOf3,rfl,rfl⟩
theorem Xi : Mo Tryz.prog 86 2 2:=⟨_,_,_,Tryz.underlying86,rfl,Tryz.sizeOf84,rfl,rfl⟩
theorem fa_86_3 : Mo Tryz.prog 86 3 3:=⟨_,_,_,Tryz.underlying86,rfl,Tryz.sizeOf3,rfl,rfl⟩
theorem FK : Mo Tryz.prog 86 4 4:=⟨_,_,_,Tryz.underlying86,rfl,Tryz.sizeOf22,rfl,rfl⟩
theorem CJ : Mo Tryz.prog 86 5 5:=⟨_,_,_,Tryz.underlying86,rfl,Tryz.sizeOf3,rfl,rfl⟩
theorem FL : Mo Tryz.prog 86 6 6:=⟨_,_,_,Tryz.underlying86,rfl,Tryz.sizeOf3,rfl,rfl⟩
theorem CK : Mo Tryz.prog 86 7 7:=⟨_,_,_,Tryz.underlying86,rfl,Tryz.sizeOf4,rfl,rfl⟩
theorem Sf : Mo Tryz.prog 94 0 0:=⟨_,_,_,Tryz.underlying94,rfl,Tryz.sizeOf3,rfl,rfl⟩
theorem Xj : Mo Tryz.prog 94 1 1:=⟨_,_,_,Tryz.underlying94,rfl,Tryz.sizeOf3,rfl,rfl⟩
theorem CL : Mo Tryz.prog 94 2 2:=⟨_,_,_,Tryz.underlying94,rfl,Tryz.sizeOf3,rfl,rfl⟩
theorem Zg : Mo Tryz.prog 98 0 0:=⟨_,_,_,Tryz.underlying98,rfl,Tryz.sizeOf9,rfl,rfl⟩
theorem FM : Mo Tryz.prog 98 1 1:=⟨_,_,_,Tryz.underlying98,rfl,Tryz.sizeOf3,rfl,rfl⟩
theorem Xk : Mo Tryz.prog 103 0 0:=⟨_,_,_,Tryz.underlying103,rfl,Tryz.sizeOf9,rfl,rfl⟩
theorem DO : Mo Tryz.prog 103 1 1:=⟨_,_,_,Tryz.underlying103,rfl,Tryz.sizeOf9,rfl,rfl⟩
theorem Us : Mo Tryz.prog 103 2 2:=⟨_,_,_,Tryz.underlying103,rfl,Tryz.sizeOf47,rfl,rfl⟩
theorem Zw : Mo Tryz.prog 103 3 3:=⟨_,_,_,Tryz.underlying103,rfl,Tryz.sizeOf3,rfl,rfl⟩
theorem Zx : Mo Tryz.prog 103 4 4:=⟨_,_,_,Tryz.underlying103,rfl,Tryz.sizeOf3,rfl,rfl⟩
theorem DP : Mo Tryz.prog 106 0 0:=⟨_,_,_,Tryz.underlying106,rfl,Tryz.sizeOf3,rfl,rfl⟩
theorem Xl : Mo Tryz.prog 106 1 1:=⟨_,_,_,Tryz.underlying106,rfl,Tryz.sizeOf3,rfl,rfl⟩
theorem DQ : Mo Tryz.prog 106 2 2:=⟨_,_,_,Tryz.underlying106,rfl,Tryz.sizeOf9,rfl,rfl⟩
theorem IA : Mo Tryz.prog 106 3 3:=⟨_,_,_,Tryz.underlying106,rfl,Tryz.sizeOf9,rfl,rfl⟩
theorem Zy : Mo Tryz.prog 106 4 4:=⟨_,_,_,Tryz.underlying106,rfl,Tryz.sizeOf9,rfl,rfl⟩
theorem DR : Mo Tryz.prog 106 5 5:=⟨_,_,_,Tryz.underlying106,rfl,Tryz.sizeOf9,rfl,rfl⟩
theorem DS : Mo Tryz.prog 106 6 6:=⟨_,_,_,Tryz.underlying106,rfl,Tryz.sizeOf3,rfl,rfl⟩
theorem IB : Mo Tryz.prog 106 7 7:=⟨_,_,_,Tryz.underlying106,rfl,Tryz.sizeOf3,rfl,rfl⟩
theorem DT : Mo Tryz.prog 120 0 0:=⟨_,_,_,Tryz.underlying120,rfl,Tryz.sizeOf3,rfl,rfl⟩
theorem Tc : Mo Tryz.prog 120 1 1:=⟨_,_,_,Tryz.underlying120,rfl,Tryz.sizeOf3,rfl,rfl⟩
theorem eq_54 (dd : Nat) (x y : Ed) (w : World) : (Op.equalIn (dd + 2) 54 (.agg (Ed.enc x).toArray) (.agg (Ed.enc y).toArray)).run Tryz.prog w = .ok (decide (x = y)) w:=by
  refine Qv (dd:=dd + 1) (fs:=(Tryz.prog.fieldsOf 54).toList) (by kernel_rfl) rfl (by kernel_rfl) (?_ : _ = Result.ok (decide (x.Key = y.Key) && (decide (x.Heats = y.Heats) && (decide (x.Long = y.Long) && (decide (x.Gap = y.Gap) && (decide (x.Break = y.Break) && true))))) w) (by cases x; cases y; simp [Bool.decide_and])
  simp only [Program.fieldsOf,Tryz.underlying54]
  exact (Kk (by decide) (Gh Tryz.isAgg9 rfl) (Gh Tryz.isAgg9 rfl) (Nf Tryz.underlying9) (Kk (by decide) (Gh Tryz.isAgg3 rfl) (Gh Tryz.isAgg3 rfl) (Lg Tryz.underlying3) (Kk (by decide) (Gh Tryz.isAgg3 rfl) (Gh Tryz.isAgg3 rfl) (Lg Tryz.underlying3) (Kk (by decide) (Gh Tryz.isAgg3 rfl) (Gh Tryz.isAgg3 rfl) (Lg Tryz.underlying3) (Kk (by decide) (Gh Tryz.isAgg3 rfl) (Gh Tryz.isAgg3 rfl) (Lg Tryz.underlying3) Wy)))))
theorem rn_eql_54 {a : Act} {w : World} {x y : Operand} {u ty : TypeId} {m n : Ed} (hx : a.eval x = .agg (Ed.enc m).toArray) (hy : a.eval y = .agg (Ed.enc n).toArray) : Rn Tryz.prog a w (.binOp .eql 54 x y u) ty (.bool (decide (m = n))) :=
  Wz 2 (by kernel_rfl) (fun w=>eq_54 _ m n w) rfl hx hy
theorem GQ {a : Act} {w : World} {x y : Operand} {u ty : TypeId} {m n : Ed} (hx : a.eval x = .agg (Ed.enc m).toArray) (hy : a.eval y = .agg (Ed.enc n).toArray) : Rn Tryz.prog a w (.binOp .neq 54 x y u) ty (.bool (!decide (m = n))) :=
  Xa 2 (by kernel_rfl) (fun w=>eq_54 _ m n w) rfl hx hy
theorem eq_59 (dd : Nat) (x y : Es) (w : World) : (Op.equalIn (dd + 2) 59 (.agg (Es.enc x).toArray) (.agg (Es.enc y).toArray)).run Tryz.prog w = .ok (decide (x = y)) w:=by
  refine Qv (dd:=dd + 1) (fs:=(Tryz.prog.fieldsOf 59).toList) (by kernel_rfl) rfl (by kernel_rfl) (?_ : _ = Result.ok (decide (x.Who = y.Who) && (decide (x.Item = y.Item) && (decide (x.Heat = y.Heat) && true))) w) (by cases x; cases y; simp [Bool.decide_and])
  simp only [Program.fieldsOf,Tryz.underlying59]
  exact (Kk (by decide) (Gh Tryz.isAgg9 rfl) (Gh Tryz.isAgg9 rfl) (Nf Tryz.underlying9) (Kk (by decide) (Gh Tryz.isAgg9 rfl) (Gh Tryz.isAgg9 rfl) (Nf Tryz.underlying9) (Kk (by decide) (Gh Tryz.isAgg3 rfl) (Gh Tryz.isAgg3 rfl) (Lg Tryz.underlying3) Wy)))
theorem rn_eql_59 {a : Act} {w : World} {x y : Operand} {u ty : TypeId} {m n : Es} (hx : a.eval x = .agg (Es.enc m).toArray) (hy : a.eval y = .agg (Es.enc n).toArray) : Rn Tryz.prog a w (.binOp .eql 59 x y u) ty (.bool (decide (m = n))) :=
  Wz 2 (by kernel_rfl) (fun w=>eq_59 _ m n w) rfl hx hy
theorem GR {a : Act} {w : World} {x y : Operand} {u ty : TypeId} {m n : Es} (hx : a.eval x = .agg (Es.enc m).toArray) (hy : a.eval y = .agg (Es.enc n).toArray) : Rn Tryz.prog a w (.binOp .neq 59 x y u) ty (.bool (!decide (m = n))) :=
  Xa 2 (by kernel_rfl) (fun w=>eq_59 _ m n w) rfl hx hy
theorem eq_62 (dd : Nat) (x y : Ey) (w : World) : (Op.equalIn (dd + 2) 62 (.agg (Ey.enc x).toArray) (.agg (Ey.enc y).toArray)).run Tryz.prog w = .ok (decide (x = y)) w:=by
  refine Qv (dd:=dd + 1) (fs:=(Tryz.prog.fieldsOf 62).toList) (by kernel_rfl) rfl (by kernel_rfl) (?_ : _ = Result.ok (decide (x.Item = y.Item) && (decide (x.Heat = y.Heat) && (decide (x.At = y.At) && true))) w) (by cases x; cases y; simp [Bool.decide_and])
  simp only [Program.fieldsOf,Tryz.underlying62]
  exact (Kk (by decide) (Gh Tryz.isAgg9 rfl) (Gh Tryz.isAgg9 rfl) (Nf Tryz.underlying9) (Kk (by decide) (Gh Tryz.isAgg3 rfl) (Gh Tryz.isAgg3 rfl) (Lg Tryz.underlying3) (Kk (by decide) (Gh Tryz.isAgg3 rfl) (Gh Tryz.isAgg3 rfl) (Lg Tryz.underlying3) Wy)))
theorem rn_eql_62 {a : Act} {w : World} {x y : Operand} {u ty : TypeId} {m n : Ey} (hx : a.eval x = .agg (Ey.enc m).toArray) (hy : a.eval y = .agg (Ey.enc n).toArray) : Rn Tryz.prog a w (.binOp .eql 62 x y u) ty (.bool (decide (m = n))) :=
  Wz 2 (by kernel_rfl) (fun w=>eq_62 _ m n w) rfl hx hy
theorem GS {a : Act} {w : World} {x y : Operand} {u ty : TypeId} {m n : Ey} (hx : a.eval x = .agg (Ey.enc m).toArray) (hy : a.eval y = .agg (Ey.enc n).toArray) : Rn Tryz.prog a w (.binOp .neq 62 x y u) ty (.bool (!decide (m = n))) :=
  Xa 2 (by kernel_rfl) (fun w=>eq_62 _ m n w) rfl hx hy
theorem IC (dd : Nat) (x y : Il) (w : World) : (Op.equalIn (dd + 2) 106 (.agg (Il.enc x).toArray) (.agg (Il.enc y).toArray)).run Tryz.prog w = .ok (decide (x = y)) w:=by
  refine Qv (dd:=dd + 1) (fs:=(Tryz.prog.fieldsOf 106).toList) (by kernel_rfl) rfl (by kernel_rfl) (?_ : _ = Result.ok (decide (x.At = y.At) && (decide (x.Kind = y.Kind) && (decide (x.Id = y.Id) && (decide (x.Who = y.Who) && (decide (x.Club = y.Club) && (decide (x.Race = y.Race) && (decide (x.Age = y.Age) && (decide (x.Time = y.Time) && true)))))))) w) (by cases x; cases y; simp [Bool.decide_and])
  simp only [Program.fieldsOf,Tryz.underlying106]
  exact (Kk (by decide) (Gh Tryz.isAgg3 rfl) (Gh Tryz.isAgg3 rfl) (Lg Tryz.underlying3) (Kk (by decide) (Gh Tryz.isAgg3 rfl) (Gh Tryz.isAgg3 rfl) (Lg Tryz.underlying3) (Kk (by decide) (Gh Tryz.isAgg9 rfl) (Gh Tryz.isAgg9 rfl) (Nf Tryz.underlying9) (Kk (by decide) (Gh Tryz.isAgg9 rfl) (Gh Tryz.isAgg9 rfl) (Nf Tryz.underlying9) (Kk (by decide) (Gh Tryz.isAgg9 rfl) (Gh Tryz.isAgg9 rfl) (Nf Tryz.underlying9) (Kk (by decide) (Gh Tryz.isAgg9 rfl) (Gh Tryz.isAgg9 rfl) (Nf Tryz.underlying9) (Kk (by decide) (Gh Tryz.isAgg3 rfl) (Gh Tryz.isAgg3 rfl) (Lg Tryz.underlying3) (Kk (by decide) (Gh Tryz.isAgg3 rfl) (Gh Tryz.isAgg3 rfl) (Lg Tryz.underlying3) Wy))))))))
theorem rn_eql_106 {a : Act} {w : World} {x y : Operand} {u ty : TypeId} {m n : Il} (hx : a.eval x = .agg (Il.enc m).toArray) (hy : a.eval y = .agg (Il.enc n).toArray) : Rn Tryz.prog a w (.binOp .eql 106 x y u) ty (.bool (decide (m = n))) :=
  Wz 2 (by kernel_rfl) (fun w=>IC _ m n w) rfl hx hy
theorem EP {a : Act} {w : World} {x y : Operand} {u ty : TypeId} {m n : Il} (hx : a.eval x = .agg (Il.enc m).toArray) (hy : a.eval y = .agg (Il.enc n).toArray) : Rn Tryz.prog a w (.binOp .neq 106 x y u) ty (.bool (!decide (m = n))) :=
  Xa 2 (by kernel_rfl) (fun w=>IC _ m n w) rfl hx hy
theorem EQ (dd : Nat) (x y : An) (w : World) : (Op.equalIn (dd + 2) 150 (.agg (An.enc x).toArray) (.agg (An.enc y).toArray)).run Tryz.prog w = .ok (decide (x = y)) w:=by
  refine Qv (dd:=dd + 1) (fs:=(Tryz.prog.fieldsOf 150).toList) (by kernel_rfl) rfl (by kernel_rfl) (?_ : _ = Result.ok (decide (x.item_ = y.item_) && (decide (x.heat_ = y.heat_) && true)) w) (by cases x; cases y; simp [Bool.decide_and])
  simp only [Program.fieldsOf,Tryz.underlying150]
  exact (Kk (by decide) (Gh Tryz.isAgg9 rfl) (Gh Tryz.isAgg9 rfl) (Nf Tryz.underlying9) (Kk (by decide) (Gh Tryz.isAgg3 rfl) (Gh Tryz.isAgg3 rfl) (Lg Tryz.underlying3) Wy))
theorem rn_eql_150 {a : Act} {w : World} {x y : Operand} {u ty : TypeId} {m n : An} (hx : a.eval x = .agg (An.enc m).toArray) (hy : a.eval y = .agg (An.enc n).toArray) : Rn Tryz.prog a w (.binOp .eql 150 x y u) ty (.bool (decide (m = n))) :=
  Wz 2 (by kernel_rfl) (fun w=>EQ _ m n w) rfl hx hy
theorem rn_neq_150 {a : Act} {w : World} {x y : Operand} {u ty : TypeId} {m n : An} (hx : a.eval x = .agg (An.enc m).toArray) (hy : a.eval y = .agg (An.enc n).toArray) : Rn Tryz.prog a w (.binOp .neq 150 x y u) ty (.bool (!decide (m = n))) :=
  Xa 2 (by kernel_rfl) (fun w=>EQ _ m n w) rfl hx hy
theorem Td : GL Tryz.prog 150 (fun x=>Value.agg (An.enc x).toArray) :=
  HQ 2 rfl Tryz.underlying150 (fun em x w=>chk_agg Tryz.underlying150 (by
    intro f hf _
    simp only [List.mem_cons,List.not_mem_nil,or_false] at hf
    rcases hf with rfl | rfl
    · exact ⟨_,fun w=>Gh Tryz.isAgg9 rfl,fun w=>chk_str Tryz.underlying9⟩
    · exact ⟨_,fun w=>Gh Tryz.isAgg3 rfl,fun w=>chk_int Tryz.underlying3⟩)) EQ (fun x=>by simp [Instr.sameBits,An.enc,GN])
theorem bt_25 : Ww Tryz.prog 25 (.agg #[.slice none 0 0,iV 0]) [(0,1),(1,1)]:=⟨_,Tryz.underlying25,Tryz.zeroValue25,fun _=>by kernel_rfl⟩
theorem bt_38 : Ww Tryz.prog 38 (.agg #[iV 0,iV 0]) [(0,1),(1,1)]:=⟨_,Tryz.underlying38,Tryz.zeroValue38,fun _=>by kernel_rfl⟩
theorem bt_40 : Ww Tryz.prog 40 (.agg #[sV En,iV 0,iV 0,iV 0]) [(0,1),(1,1),(2,2)]:=⟨_,Tryz.underlying40,Tryz.zeroValue40,fun _=>by kernel_rfl⟩
theorem bt_46 : Ww Tryz.prog 46 (.agg #[sV En,sV En,iV 0,iV 0,iV 0,sV En,iV 0,iV 0,iV 0,iV 0]) [(0,1),(1,4),(5,4),(9,1)]:=⟨_,Tryz.underlying46,Tryz.zeroValue46,fun _=>by kernel_rfl⟩
theorem bt_54 : Ww Tryz.prog 54 (.agg #[sV En,iV 0,iV 0,iV 0,iV 0]) [(0,1),(1,1),(2,1),(3,1),(4,1)]:=⟨_,Tryz.underlying54,Tryz.zeroValue54,fun _=>by kernel_rfl⟩
theorem bt_59 : Ww Tryz.prog 59 (.agg #[sV En,sV En,iV 0]) [(0,1),(1,1),(2,1)]:=⟨_,Tryz.underlying59,Tryz.zeroValue59,fun _=>by kernel_rfl⟩
theorem bt_62 : Ww Tryz.prog 62 (.agg #[sV En,iV 0,iV 0]) [(0,1),(1,1),(2,1)]:=⟨_,Tryz.underlying62,Tryz.zeroValue62,fun _=>by kernel_rfl⟩
theorem bt_86 : Ww Tryz.prog 86 (.agg #[.slice none 0 0,iV 0,.slice none 0 0,iV 0,.slice none 0 0,iV 0,iV 0,bV false]) [(0,1),(1,1),(2,1),(3,1),(4,1),(5,1),(6,1),(7,1)]:=⟨_,Tryz.underlying86,Tryz.zeroValue86,fun _=>by kernel_rfl⟩
theorem bt_94 : Ww Tryz.prog 94 (.agg #[iV 0,iV 0,iV 0]) [(0,1),(1,1),(2,1)]:=⟨_,Tryz.underlying94,Tryz.zeroValue94,fun _=>by kernel_rfl⟩
theorem bt_98 : Ww Tryz.prog 98 (.agg #[sV En,iV 0]) [(0,1),(1,1)]:=⟨_,Tryz.underlying98,Tryz.zeroValue98,fun _=>by kernel_rfl⟩
theorem bt_103 : Ww Tryz.prog 103 (.agg #[sV En,sV En,.slice none 0 0,iV 0,iV 0]) [(0,1),(1,1),(2,1),(3,1),(4,1)]:=⟨_,Tryz.underlying103,Tryz.zeroValue103,fun _=>by kernel_rfl⟩
theorem ID : Ww Tryz.prog 106 (.agg #[iV 0,iV 0,sV En,sV En,sV En,sV En,iV 0,iV 0]) [(0,1),(1,1),(2,1),(3,1),(4,1),(5,1),(6,1),(7,1)]:=⟨_,Tryz.underlying106,Tryz.zeroValue106,fun _=>by kernel_rfl⟩
theorem Zz : Ww Tryz.prog 150 (.agg #[sV En,iV 0]) [(0,1),(1,1)]:=⟨_,Tryz.underlying150,Tryz.zeroValue150,fun _=>by kernel_rfl⟩
end Go.Proofs.YtcgffkkagmkhkaaGreatDoor
